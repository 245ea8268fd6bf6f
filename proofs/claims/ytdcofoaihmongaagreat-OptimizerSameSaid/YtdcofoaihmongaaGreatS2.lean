import Derived.ChangeKeysEq
import Derived.Laws.BitsAllLaws
import Derived.Laws.StructEq
import Derived.Test.YtdcofoaihmongaaGreatS1
open Bool renaming eq_iff_iff→avg,and_eq_true→avj
open Go renaming wp_seq_k→avl,wpList_nil→avm
open Go.Lib renaming hid→avk
open Go.RowKit renaming Below→avc
open List renaming getElem?_eq_some_iff→au_,getElem?_eq_getElem→ava,mem_of_getElem?→avb,getElem?_map→avd,take_length→avi
open Nat renaming zero_le→avh
open Option.some renaming inj→avf
open Prod.mk renaming inj→ave
set_option maxRecDepth 100000
set_option maxHeartbeats 8000000
namespace Go.Proofs.YtdcofoaihmongaaGreat
open Go Go.ChangeAt Go.ChangeShapes Go.RowKit Go.WideShapes
def dw(s:ByteArray):Prop:=s.size≤140737488355328
def ql(n:Nat):Prop:=n≤140737488355328
structure OH (l:List ByteArray):Prop where
 len:ql l.length
 all:∀ s∈l,dw s
structure sM where
 aW:Int
 cats:Nat
deriving DecidableEq
structure sM.Ok (x:sM):Prop where
 aW:iX x.aW
 cats:Bl x.cats
def sM.cells(x:sM):List Value:=[.int .i64 x.aW,.int .u64 x.cats]
structure wH where
 low:sM
 high:sM
deriving DecidableEq
structure wH.Ok (x:wH):Prop where
 low:x.low.Ok
 high:x.high.Ok
def wH.cells(x:wH):List Value:=[.int .i64 x.low.aW,.int .u64 x.low.cats,.int .i64 x.high.aW,.int .u64 x.high.cats]
structure yU where
 user:Int
 role:Int
 typ:Int
 rng:wH
deriving DecidableEq
structure yU.Ok (x:yU):Prop where
 user:iX x.user
 role:iX x.role
 typ:iX x.typ
 rng:x.rng.Ok
def yU.cells(x:yU):List Value:=[.int .i64 x.user,.int .i64 x.role,.int .i64 x.typ,.int .i64 x.rng.low.aW,.int .u64 x.rng.low.cats,.int .i64 x.rng.high.aW,.int .u64 x.rng.high.cats]
inductive ak where
 | node (op a rel b:Int) (names:List ByteArray) (set:ay) (kids:List ak)
def ak.op:ak→Int|.node o _ _ _ _ _ _=>o
def ak.a:ak→Int|.node _ a _ _ _ _ _=>a
def ak.rel:ak→Int|.node _ _ r _ _ _ _=>r
def ak.b:ak→Int|.node _ _ _ b _ _ _=>b
def ak.names:ak→List ByteArray|.node _ _ _ _ n _ _=>n
def ak.set:ak→ay|.node _ _ _ _ _ s _=>s
def ak.kids:ak→List ak|.node _ _ _ _ _ _ k=>k
inductive ak.Ok:ak→Prop
 | node {op a rel b:Int} {names:List ByteArray} {set:ay} {kids:List ak}:iX op→iX a→iX rel→iX b→OH names→set.Ok→ql kids.length→(∀ k∈kids,ak.Ok k)→ak.Ok (.node op a rel b names set kids)
structure aj.oU (x:aj):Prop where
 kind:iX x.kind
 src:x.src.Ok
 tgt:x.tgt.Ok
 cls:iX x.cls
 perms:QF x.perms
 cond:iX x.cond
structure lD where
 name:ByteArray
 types:ay
deriving DecidableEq
structure lD.Ok (x:lD):Prop where
 name:dw x.name
 types:x.types.Ok
def lD.cells(x:lD):List Value:=[.string x.name,.int .u64 x.types.a,.int .u64 x.types.b,.int .u64 x.types.c,.int .u64 x.types.d]
theorem lD.eD(x:lD):x.cells.length=5:=rfl
structure iH where
 name:ByteArray
 types:ay
 next:ay
deriving DecidableEq
structure iH.Ok (x:iH):Prop where
 name:dw x.name
 types:x.types.Ok
 next:x.next.Ok
def iH.cells(x:iH):List Value:=[.string x.name,.int .u64 x.types.a,.int .u64 x.types.b,.int .u64 x.types.c,.int .u64 x.types.d,.int .u64 x.next.a,.int .u64 x.next.b,.int .u64 x.next.c,.int .u64 x.next.d]
theorem iH.eD(x:iH):x.cells.length=9:=rfl
structure kK where
 name:ByteArray
 roles:ay
 dflt:sM
 rng:wH
deriving DecidableEq
structure kK.Ok (x:kK):Prop where
 name:dw x.name
 roles:x.roles.Ok
 dflt:x.dflt.Ok
 rng:x.rng.Ok
def kK.cells(x:kK):List Value:=[.string x.name,.int .u64 x.roles.a,.int .u64 x.roles.b,.int .u64 x.roles.c,.int .u64 x.roles.d,.int .i64 x.dflt.aW,.int .u64 x.dflt.cats,.int .i64 x.rng.low.aW,.int .u64 x.rng.low.cats,.int .i64 x.rng.high.aW,.int .u64 x.rng.high.cats]
theorem kK.eD(x:kK):x.cells.length=11:=rfl
structure dP where
 name:ByteArray
 val:Bool
deriving DecidableEq
structure dP.Ok (x:dP):Prop where
 name:dw x.name
def dP.cells(x:dP):List Value:=[.string x.name,.bool x.val]
theorem dP.eD(x:dP):x.cells.length=2:=rfl
structure bE where
 kind:Int
 src:ay
 tgt:ay
 cls:Int
 name:ByteArray
 res:Int
 cond:Int
deriving DecidableEq
structure bE.Ok (x:bE):Prop where
 kind:iX x.kind
 src:x.src.Ok
 tgt:x.tgt.Ok
 cls:iX x.cls
 name:dw x.name
 res:iX x.res
 cond:iX x.cond
def bE.cells(x:bE):List Value:=[.int .i64 x.kind,.int .u64 x.src.a,.int .u64 x.src.b,.int .u64 x.src.c,.int .u64 x.src.d,.int .u64 x.tgt.a,.int .u64 x.tgt.b,.int .u64 x.tgt.c,.int .u64 x.tgt.d,.int .i64 x.cls,.string x.name,.int .i64 x.res,.int .i64 x.cond]
theorem bE.eD(x:bE):x.cells.length=13:=rfl
structure k_ where
 roles:ay
 types:ay
 cls:Int
 res:Int
deriving DecidableEq
structure k_.Ok (x:k_):Prop where
 roles:x.roles.Ok
 types:x.types.Ok
 cls:iX x.cls
 res:iX x.res
def k_.cells(x:k_):List Value:=[.int .u64 x.roles.a,.int .u64 x.roles.b,.int .u64 x.roles.c,.int .u64 x.roles.d,.int .u64 x.types.a,.int .u64 x.types.b,.int .u64 x.types.c,.int .u64 x.types.d,.int .i64 x.cls,.int .i64 x.res]
theorem k_.eD(x:k_):x.cells.length=10:=rfl
structure lu where
 src:ay
 tgt:ay
 cls:Int
 rng:wH
deriving DecidableEq
structure lu.Ok (x:lu):Prop where
 src:x.src.Ok
 tgt:x.tgt.Ok
 cls:iX x.cls
 rng:x.rng.Ok
def lu.cells(x:lu):List Value:=[.int .u64 x.src.a,.int .u64 x.src.b,.int .u64 x.src.c,.int .u64 x.src.d,.int .u64 x.tgt.a,.int .u64 x.tgt.b,.int .u64 x.tgt.c,.int .u64 x.tgt.d,.int .i64 x.cls,.int .i64 x.rng.low.aW,.int .u64 x.rng.low.cats,.int .i64 x.rng.high.aW,.int .u64 x.rng.high.cats]
theorem lu.eD(x:lu):x.cells.length=13:=rfl
structure kZ where
 name:ByteArray
 ctx:yU
deriving DecidableEq
structure kZ.Ok (x:kZ):Prop where
 name:dw x.name
 ctx:x.ctx.Ok
def kZ.cells(x:kZ):List Value:=[.string x.name,.int .i64 x.ctx.user,.int .i64 x.ctx.role,.int .i64 x.ctx.typ,.int .i64 x.ctx.rng.low.aW,.int .u64 x.ctx.rng.low.cats,.int .i64 x.ctx.rng.high.aW,.int .u64 x.ctx.rng.high.cats]
theorem kZ.eD(x:kZ):x.cells.length=8:=rfl
structure lC where
 pat:ByteArray
 kind:Int
 ctx:yU
deriving DecidableEq
structure lC.Ok (x:lC):Prop where
 pat:dw x.pat
 kind:iX x.kind
 ctx:x.ctx.Ok
def lC.cells(x:lC):List Value:=[.string x.pat,.int .i64 x.kind,.int .i64 x.ctx.user,.int .i64 x.ctx.role,.int .i64 x.ctx.typ,.int .i64 x.ctx.rng.low.aW,.int .u64 x.ctx.rng.low.cats,.int .i64 x.ctx.rng.high.aW,.int .u64 x.ctx.rng.high.cats]
theorem lC.eD(x:lC):x.cells.length=9:=rfl
structure lE where
 name:ByteArray
 kind:Int
 src:ay
 tgt:ay
deriving DecidableEq
structure lE.Ok (x:lE):Prop where
 name:dw x.name
 kind:iX x.kind
 src:x.src.Ok
 tgt:x.tgt.Ok
def lE.cells(x:lE):List Value:=[.string x.name,.int .i64 x.kind,.int .u64 x.src.a,.int .u64 x.src.b,.int .u64 x.src.c,.int .u64 x.src.d,.int .u64 x.tgt.a,.int .u64 x.tgt.b,.int .u64 x.tgt.c,.int .u64 x.tgt.d]
theorem lE.eD(x:lE):x.cells.length=10:=rfl
structure jL where
 name:ByteArray
 perms:List ByteArray
deriving DecidableEq
structure jL.Ok (x:jL):Prop where
 name:dw x.name
 perms:OH x.perms
structure mT where
 name:ByteArray
 oW:List ByteArray
 perm:Bool
deriving DecidableEq
structure mT.Ok (x:mT):Prop where
 name:dw x.name
 oW:OH x.oW
structure p7 where
 cls:Int
 perms:Int
 val:Bool
 expr:ak
structure p7.Ok (x:p7):Prop where
 cls:iX x.cls
 perms:QF x.perms
 expr:x.expr.Ok
theorem aj.eD(x:aj):x.cells.length=13:=rfl
structure aA where
 classes:List jL
 types:List mT
 attrs:List lD
 roles:List iH
 users:List kK
 bools:List dP
 aW:List ByteArray
 cats:List ByteArray
 conds:List ak
 rules:List aj
 trans:List bE
 aS:List k_
 ranges:List lu
 cons:List p7
 bL:List kZ
 files:List lC
 asserts:List lE
structure aA.Ok (p:aA):Prop where
 classes:∀ x∈p.classes,jL.Ok x
 agB:ql p.classes.length
 types:∀ x∈p.types,mT.Ok x
 wY:ql p.types.length
 attrs:∀ x∈p.attrs,lD.Ok x
 ake:ql p.attrs.length
 roles:∀ x∈p.roles,iH.Ok x
 U5:ql p.roles.length
 users:∀ x∈p.users,kK.Ok x
 abx:ql p.users.length
 bools:∀ x∈p.bools,dP.Ok x
 akd:ql p.bools.length
 aW:∀ x∈p.aW,dw x
 akI:ql p.aW.length
 cats:∀ x∈p.cats,dw x
 al3:ql p.cats.length
 conds:∀ x∈p.conds,ak.Ok x
 ux:ql p.conds.length
 rules:∀ x∈p.rules,aj.oU x
 lU:ql p.rules.length
 trans:∀ x∈p.trans,bE.Ok x
 UF:ql p.trans.length
 aS:∀ x∈p.aS,k_.Ok x
 ag7:ql p.aS.length
 ranges:∀ x∈p.ranges,lu.Ok x
 aha:ql p.ranges.length
 cons:∀ x∈p.cons,p7.Ok x
 al2:ql p.cons.length
 bL:∀ x∈p.bL,kZ.Ok x
 akH:ql p.bL.length
 files:∀ x∈p.files,lC.Ok x
 aj5:ql p.files.length
 asserts:∀ x∈p.asserts,lE.Ok x
 agF:ql p.asserts.length
def aT(s:ByteArray):List Value:=[.string s]
theorem Jq(s:ByteArray):(aT s).length=1:=rfl
def aF(w:World)(v:Value)(l:List ByteArray):Prop:=SliceAt w v 1 l.length (l.flatMap aT)
theorem aF.keep{w w':World}{v:Value}{l:List ByteArray}(h:aF w v l)(hb:Below w.heap.size w w'):aF w' v l:=SliceAt.keep h hb
def aq{α:Type}(k:Nat)(R:List Value→α→Prop)(w:World)(v:Value)(l:List α):Prop:=
 ∃ es:List (List Value),es.length=l.length∧(∀ x∈es,x.length=k)∧SliceAt w v k l.length es.flatten∧∀ (i:Nat) x y,es[i]?=some x→l[i]?=some y→R x y
theorem aq.slice{α:Type}{k:Nat}{R:List Value→α→Prop}{w:World}{v:Value}{l:List α}(h:aq k R w v l):∃ cs,SliceAt w v k l.length cs:=by
 obtain⟨es,_,_,h,_⟩:=h;exact⟨_,h⟩
theorem aq.form{α:Type}{k:Nat}{R:List Value→α→Prop}{w:World}{v:Value}{l:List α}(h:aq k R w v l)(hk:0<k):
 ∃ a c,v=.slice a l.length c∧l.length≤c∧l.length≤9223372036854775807∧∀ i y,l[i]?=some y→∃ b off x,a=some ⟨b,off,none⟩∧R x y∧x.length=k∧∀ j u,x[j]?=some u→w.cell? ⟨b,off+i*k+j,none⟩=some u:=by
 obtain⟨es,h1,h2,h3,h4⟩:=h;obtain⟨a,c,hv,hc,hm,hcell⟩:=h3.form hk;refine⟨a,c,hv,hc,hm,fun i y hy=>?_⟩;have hi:=(au_.1 hy).1;obtain⟨b,off,ha,hcl⟩:=hcell i hi;obtain⟨x,hx⟩:∃ x,es[i]?=some x:=⟨_,ava (by omega)⟩;refine⟨b,off,x,ha,h4 i x y hx hy,h2 x (avb hx),fun j u hu=>hcl j u ?_⟩;rw[Kv h2 hx j (by rw[← h2 x (avb hx)];exact(au_.1 hu).1)];exact hu
theorem aq.mono{α:Type}{k:Nat}{R R':List Value→α→Prop}{w w':World}{v:Value}{l:List α}(h:aq k R w v l)(hb:Below w.heap.size w w')(hr:∀ x y,R x y→R' x y):aq k R' w' v l:=by
 obtain⟨es,h1,h2,h3,h4⟩:=h;exact⟨es,h1,h2,h3.keep hb,fun i x y hx hy=>hr x y (h4 i x y hx hy)⟩
inductive aZ (w:World):List Value→ak→Prop
 | node {op a rel b:Int} {names:List ByteArray} {set:ay} {kids:List ak} {nv kv:Value} {es:List (List Value)}:aF w nv names→es.length=kids.length→(∀ x∈es,x.length=10)→SliceAt w kv 10 kids.length es.flatten →
  (∀ (i:Nat) x y,es[i]?=some x→kids[i]?=some y→aZ w x y) →
  aZ w [.int .i64 op,.int .i64 a,.int .i64 rel,.int .i64 b,nv,.int .u64 set.a,.int .u64 set.b,.int .u64 set.c,.int .u64 set.d,kv] (.node op a rel b names set kids)
theorem aZ.keep{w w':World}(hb:Below w.heap.size w w'){cs:List Value}{e:ak}(h:aZ w cs e):aZ w' cs e:=by
 induction h with
 | node h1 h2 h3 h4 _ ih=>exact .node (h1.keep hb) h2 h3 (h4.keep hb) ih
theorem aZ.open{w:World}{cs:List Value}{e:ak}(h:aZ w cs e):∃ nv kv,cs=[.int .i64 e.op,.int .i64 e.a,.int .i64 e.rel,.int .i64 e.b,nv,.int .u64 e.set.a,.int .u64 e.set.b,.int .u64 e.set.c,.int .u64 e.set.d,kv]∧aF w nv e.names∧aq 10 (aZ w) w kv e.kids:=by
 cases h with
 | node h1 h2 h3 h4 h5=>exact⟨_,_,rfl,h1,_,h2,h3,h4,h5⟩
def mN(w:World)(v:Value)(l:List ak):Prop:=aq 10 (aZ w) w v l
theorem mN.keep{w w':World}{v:Value}{l:List ak}(h:mN w v l)(hb:Below w.heap.size w w'):mN w' v l:=aq.mono h hb fun _ _ h=>aZ.keep hb h
def rN(w:World)(cs:List Value)(x:jL):Prop:=∃ v,cs=[.string x.name,v]∧aF w v x.perms
def rJ(w:World)(cs:List Value)(x:mT):Prop:=∃ v,cs=[.string x.name,v,.bool x.perm]∧aF w v x.oW
def rM(w:World)(cs:List Value)(x:p7):Prop:=∃ es,cs=[.int .i64 x.cls,.int .u32 x.perms,.bool x.val]++es∧aZ w es x.expr
theorem rN.keep{w w':World}(hb:Below w.heap.size w w'){cs:List Value}{x:jL}(h:rN w cs x):rN w' cs x:=by
 obtain⟨v,e,h⟩:=h;exact⟨v,e,h.keep hb⟩
theorem rJ.keep{w w':World}(hb:Below w.heap.size w w'){cs:List Value}{x:mT}(h:rJ w cs x):rJ w' cs x:=by
 obtain⟨v,e,h⟩:=h;exact⟨v,e,h.keep hb⟩
theorem rM.keep{w w':World}(hb:Below w.heap.size w w'){cs:List Value}{x:p7}(h:rM w cs x):rM w' cs x:=by
 obtain⟨v,e,h⟩:=h;exact⟨v,e,h.keep hb⟩
structure aJ (w:World) (c0 c1 c2 c3 c4 c5 c6 c7 c8 c9 aQ aL aK aP aO aN aM:Value) (p:aA):Prop where
 classes:aq 2 (rN w) w c0 p.classes
 types:aq 3 (rJ w) w c1 p.types
 attrs:SliceAt w c2 5 p.attrs.length (p.attrs.flatMap lD.cells)
 roles:SliceAt w c3 9 p.roles.length (p.roles.flatMap iH.cells)
 users:SliceAt w c4 11 p.users.length (p.users.flatMap kK.cells)
 bools:SliceAt w c5 2 p.bools.length (p.bools.flatMap dP.cells)
 aW:aF w c6 p.aW
 cats:aF w c7 p.cats
 conds:mN w c8 p.conds
 rules:SliceAt w c9 13 p.rules.length (p.rules.flatMap aj.cells)
 trans:SliceAt w aQ 13 p.trans.length (p.trans.flatMap bE.cells)
 aS:SliceAt w aL 10 p.aS.length (p.aS.flatMap k_.cells)
 ranges:SliceAt w aK 13 p.ranges.length (p.ranges.flatMap lu.cells)
 cons:aq 13 (rM w) w aP p.cons
 bL:SliceAt w aO 8 p.bL.length (p.bL.flatMap kZ.cells)
 files:SliceAt w aN 9 p.files.length (p.files.flatMap lC.cells)
 asserts:SliceAt w aM 10 p.asserts.length (p.asserts.flatMap lE.cells)
theorem aJ.keep{w w':World}{c0 c1 c2 c3 c4 c5 c6 c7 c8 c9 aQ aL aK aP aO aN aM:Value}{p:aA}(h:aJ w c0 c1 c2 c3 c4 c5 c6 c7 c8 c9 aQ aL aK aP aO aN aM p)(hb:Below w.heap.size w w'):aJ w' c0 c1 c2 c3 c4 c5 c6 c7 c8 c9 aQ aL aK aP aO aN aM p:=
 ⟨aq.mono h.classes hb fun _ _ h=>rN.keep hb h,aq.mono h.types hb fun _ _ h=>rJ.keep hb h,h.attrs.keep hb,h.roles.keep hb,h.users.keep hb,h.bools.keep hb,h.aW.keep hb,h.cats.keep hb,h.conds.keep hb,h.rules.keep hb,h.trans.keep hb,h.aS.keep hb,h.ranges.keep hb,aq.mono h.cons hb fun _ _ h=>rM.keep hb h,h.bL.keep hb,h.files.keep hb,h.asserts.keep hb⟩
theorem fP{n:Nat}(h:n≤reachBytes):n≤140737488355328:=by unfold reachBytes at h;omega
theorem bS{n b:Nat}(hb:0<b)(h:n*b≤reachBytes):n≤140737488355328:=fP (Nat.le_trans (Nat.le_mul_of_pos_right n hb) h)
theorem wf_i64{n:Int}(h:(Lit.int .i64 n).wf=true):iX n:=by
 have a1:IntKind.i64.min=-9223372036854775808:=by decide
 have a2:IntKind.i64.max=9223372036854775807:=by decide
 simp only[Lit.wf,a1,a2] at h;simp at h;unfold iX;omega
theorem wf_u32{n:Int}(h:(Lit.int .u32 n).wf=true):QF n:=by
 have a1:IntKind.u32.min=0:=by decide
 have a2:IntKind.u32.max=4294967295:=by decide
 simp only[Lit.wf,a1,a2] at h;simp at h;unfold QF;omega
theorem wf_u64{n:Int}(h:(Lit.int .u64 n).wf=true):∃ m:Nat,n=m∧Bl m:=by
 have a1:IntKind.u64.min=0:=by decide
 have a2:IntKind.u64.max=18446744073709551615:=by decide
 simp only[Lit.wf,a1,a2] at h;simp at h;exact⟨n.toNat,by omega,by unfold Bl;omega⟩
theorem dH{w:World}{f:Nat}{cs:List Value}(h:Rd Tryz.prog w f 54 cs):∃ s:ay,cs=s.cells∧s.Ok:=by
 obtain⟨f',rfl,es,rfl,hn,hx⟩:=h.array Tryz.underlying54
 match es,hn with
 | [e0,e1,e2,e3],_=>
  obtain⟨A,rfl,hA⟩:=(hx e0 (by simp)).2.int Tryz.underlying52;obtain⟨B,rfl,hB⟩:=(hx e1 (by simp)).2.int Tryz.underlying52;obtain⟨C,rfl,hC⟩:=(hx e2 (by simp)).2.int Tryz.underlying52;obtain⟨D,rfl,hD⟩:=(hx e3 (by simp)).2.int Tryz.underlying52;obtain⟨a,rfl,ha⟩:=wf_u64 hA;obtain⟨b,rfl,hb⟩:=wf_u64 hB;obtain⟨c,rfl,hc⟩:=wf_u64 hC;obtain⟨d,rfl,hd⟩:=wf_u64 hD;exact⟨⟨a,b,c,d⟩,rfl,ha,hb,hc,hd⟩
theorem xX{w:World}{f:Nat}{cs:List Value}(h:Rd Tryz.prog w f 70 cs):∃ x:sM,cs=x.cells∧x.Ok:=by
 obtain⟨f',rfl,h⟩:=h.struct Tryz.underlying70;obtain⟨c0,_,rfl,-,r0,c1,_,rfl,-,r1,hn⟩:=h;obtain rfl:_=[]:=hn;obtain⟨A,rfl,hA⟩:=r0.int Tryz.underlying3;obtain⟨B',rfl,hB'⟩:=r1.int Tryz.underlying52;obtain⟨B,rfl,hB⟩:=wf_u64 hB';exact⟨⟨A,B⟩,rfl,⟨wf_i64 hA,hB⟩⟩
theorem xB{w:World}{f:Nat}{cs:List Value}(h:Rd Tryz.prog w f 72 cs):∃ x:wH,cs=x.cells∧x.Ok:=by
 obtain⟨f',rfl,h⟩:=h.struct Tryz.underlying72;obtain⟨c0,_,rfl,-,r0,c1,_,rfl,-,r1,hn⟩:=h;obtain rfl:_=[]:=hn;obtain⟨A,rfl,hA⟩:=xX r0;obtain⟨B,rfl,hB⟩:=xX r1;exact⟨⟨A,B⟩,rfl,⟨hA,hB⟩⟩
theorem E7{w:World}{f:Nat}{cs:List Value}(h:Rd Tryz.prog w f 74 cs):∃ x:yU,cs=x.cells∧x.Ok:=by
 obtain⟨f',rfl,h⟩:=h.struct Tryz.underlying74;obtain⟨c0,_,rfl,-,r0,c1,_,rfl,-,r1,c2,_,rfl,-,r2,c3,_,rfl,-,r3,hn⟩:=h;obtain rfl:_=[]:=hn;obtain⟨A,rfl,hA⟩:=r0.int Tryz.underlying3;obtain⟨B,rfl,hB⟩:=r1.int Tryz.underlying3;obtain⟨C,rfl,hC⟩:=r2.int Tryz.underlying3;obtain⟨D,rfl,hD⟩:=xB r3;exact⟨⟨A,B,C,D⟩,rfl,⟨wf_i64 hA,wf_i64 hB,wf_i64 hC,hD⟩⟩
theorem cC{α:Type}{Q:List Value→Prop}{R:List Value→α→Prop}(one:∀ cs,Q cs→∃ x,R cs x):∀ es:List (List Value),(∀ x∈es,Q x)→∃ l:List α,es.length=l.length∧(∀ (i:Nat) x y,es[i]?=some x→l[i]?=some y→R x y)
 | [],_=>⟨[],rfl,fun i x y h=>by simp at h⟩
 | e::es,h=>by
  obtain⟨x,hx⟩:=one e (h e (by simp));obtain⟨l,h1,h2⟩:=cC one es fun y hy=>h y (by simp[hy])
  refine⟨x::l,by simp[h1],fun i y z hy hz=>?_⟩
  cases i with
  | zero=>simp at hy hz;subst hy hz;exact hx
  | succ i=>exact h2 i y z (by simpa using hy) (by simpa using hz)
theorem dO{α:Type}{R:List Value→α→Prop}{B:α→Prop}{es:List (List Value)}{l:List α}(hl:es.length=l.length)(h:∀ (i:Nat) x y,es[i]?=some x→l[i]?=some y→R x y∧B y):∀ y∈l,B y:=by
 intro y hy;obtain⟨i,hi⟩:=List.getElem?_of_mem hy;have hlt:=(au_.1 hi).1;exact(h i _ y (ava (by omega)) hi).2
theorem dX{α:Type}{cells:α→List Value}:∀ {es:List (List Value)} {l:List α},es.length=l.length→(∀ (i:Nat) x y,es[i]?=some x→l[i]?=some y→x=cells y)→es.flatten=l.flatMap cells
 | [],[],_,_=>rfl
 | [],_::_,h,_=>by simp at h
 | _::_,[],h,_=>by simp at h
 | e::es,x::l,h,hr=>by
  rw[List.flatten_cons,List.flatMap_cons,hr 0 e x rfl rfl,dX (es:=es) (l:=l) (by simpa using h) fun i a b ha hb=>hr (i+1) a b (by simpa using ha) (by simpa using hb)]
theorem Ra{w:World}{f:Nat}{cs:List Value}(h:Rd Tryz.prog w f 9 cs):∃ x,cs=aT x∧dw x:=by
 obtain⟨s,rfl,hs⟩:=h.string Tryz.underlying9;exact⟨s,rfl,fP hs⟩
theorem ox{w:World}{f:Nat}{cs:List Value}(h:Rd Tryz.prog w f 28 cs):∃ v,∃ l:List ByteArray,cs=[v]∧SliceAt w v 1 l.length (l.flatMap aT)∧(∀ x∈l,dw x)∧ql l.length:=by
 obtain⟨f',v,rfl,rfl,es,h1,h2,h3⟩:=h.slice Tryz.underlying28;rw[show Tryz.prog.cellsOf 9=1 from by kernel_rfl] at h1;obtain⟨l,e1,e2⟩:=cC (R:=fun cs (x:ByteArray)=>cs=aT x∧dw x) (fun cs h=>Ra h.2) es h2;rw[dX e1 fun i x y hx hy=>(e2 i x y hx hy).1,e1] at h1;rw[e1] at h3;exact⟨v,l,rfl,h1,dO e1 e2,bS (of_decide_eq_true (by kernel_rfl)) h3⟩
theorem Db{w:World}:∀ (f:Nat) (cs:List Value),Rd Tryz.prog w f 89 cs→∃ e,aZ w cs e∧e.Ok:=by
 intro f
 induction f using Nat.strongRecOn with
 | ind f ih=>
  intro cs h;obtain⟨f',rfl,h⟩:=h.struct Tryz.underlying89;obtain⟨c0,_,rfl,-,r0,c1,_,rfl,-,r1,c2,_,rfl,-,r2,c3,_,rfl,-,r3,c4,_,rfl,-,r4,c5,_,rfl,-,r5,c6,_,rfl,-,r6,hn⟩:=h;obtain rfl:_=[]:=hn;obtain⟨A,rfl,hA⟩:=r0.int Tryz.underlying3;obtain⟨B,rfl,hB⟩:=r1.int Tryz.underlying3;obtain⟨C,rfl,hC⟩:=r2.int Tryz.underlying3;obtain⟨D,rfl,hD⟩:=r3.int Tryz.underlying3;obtain⟨nv,ns,rfl,hns,hno,hnl⟩:=ox r4;obtain⟨s,rfl,hs⟩:=dH r5;obtain⟨f'',kv,rfl,rfl,es,h1,h2,h3⟩:=r6.slice Tryz.underlying29;rw[show Tryz.prog.cellsOf 89=10 from by kernel_rfl] at h1 h2;obtain⟨l,e1,e2⟩:=cC (R:=fun cs (x:ak)=>aZ w cs x∧x.Ok) (fun cs h=>ih f'' (by omega) cs h.2) es h2;rw[e1] at h1 h3;exact⟨.node A B C D ns s l,.node hns e1 (fun x hx=>(h2 x hx).1) h1 fun i x y hx hy=>(e2 i x y hx hy).1,.node (wf_i64 hA) (wf_i64 hB) (wf_i64 hC) (wf_i64 hD) ⟨hnl,hno⟩ hs (bS (of_decide_eq_true (by kernel_rfl)) h3) (dO e1 e2)⟩
theorem Lu{w:World}{f:Nat}{cs:List Value}(h:Rd Tryz.prog w f 56 cs):∃ x:aj,cs=x.cells∧x.oU:=by
 obtain⟨f',rfl,h⟩:=h.struct Tryz.underlying56;obtain⟨c0,_,rfl,-,r0,c1,_,rfl,-,r1,c2,_,rfl,-,r2,c3,_,rfl,-,r3,c4,_,rfl,-,r4,c5,_,rfl,-,r5,c6,_,rfl,-,r6,hn⟩:=h;obtain rfl:_=[]:=hn;obtain⟨A,rfl,hA⟩:=r0.int Tryz.underlying3;obtain⟨B,rfl,hB⟩:=dH r1;obtain⟨C,rfl,hC⟩:=dH r2;obtain⟨D,rfl⟩:=r3.bool Tryz.underlying4;obtain⟨E,rfl,hE⟩:=r4.int Tryz.underlying3;obtain⟨F,rfl,hF⟩:=r5.int Tryz.underlying50;obtain⟨G,rfl,hG⟩:=r6.int Tryz.underlying3;exact⟨⟨A,B,C,D,E,F,G⟩,rfl,⟨wf_i64 hA,hB,hC,wf_i64 hE,wf_u32 hF,wf_i64 hG⟩⟩
theorem OP{w:World}{f:Nat}{cs:List Value}(h:Rd Tryz.prog w f 30 cs):∃ v,∃ l:List aj,cs=[v]∧SliceAt w v 13 l.length (l.flatMap aj.cells)∧(∀ x∈l,aj.oU x)∧ql l.length:=by
 obtain⟨f',v,rfl,rfl,es,h1,h2,h3⟩:=h.slice Tryz.underlying30;rw[show Tryz.prog.cellsOf 56=13 from by kernel_rfl] at h1;obtain⟨l,e1,e2⟩:=cC (R:=fun cs (x:aj)=>cs=aj.cells x∧aj.oU x) (fun cs h=>Lu h.2) es h2;rw[dX e1 fun i x y hx hy=>(e2 i x y hx hy).1,e1] at h1;rw[e1] at h3;exact⟨v,l,rfl,h1,dO e1 e2,bS (of_decide_eq_true (by kernel_rfl)) h3⟩
theorem OZ{w:World}{f:Nat}{cs:List Value}(h:Rd Tryz.prog w f 184 cs):∃ x:lD,cs=x.cells∧x.Ok:=by
 obtain⟨f',rfl,h⟩:=h.struct Tryz.underlying184;obtain⟨c0,_,rfl,-,r0,c1,_,rfl,-,r1,hn⟩:=h;obtain rfl:_=[]:=hn;obtain⟨A,rfl,hA⟩:=r0.string Tryz.underlying9;obtain⟨B,rfl,hB⟩:=dH r1;exact⟨⟨A,B⟩,rfl,⟨fP hA,hB⟩⟩
theorem TM{w:World}{f:Nat}{cs:List Value}(h:Rd Tryz.prog w f 24 cs):∃ v,∃ l:List lD,cs=[v]∧SliceAt w v 5 l.length (l.flatMap lD.cells)∧(∀ x∈l,lD.Ok x)∧ql l.length:=by
 obtain⟨f',v,rfl,rfl,es,h1,h2,h3⟩:=h.slice Tryz.underlying24;rw[show Tryz.prog.cellsOf 184=5 from by kernel_rfl] at h1;obtain⟨l,e1,e2⟩:=cC (R:=fun cs (x:lD)=>cs=lD.cells x∧lD.Ok x) (fun cs h=>OZ h.2) es h2;rw[dX e1 fun i x y hx hy=>(e2 i x y hx hy).1,e1] at h1;rw[e1] at h3;exact⟨v,l,rfl,h1,dO e1 e2,bS (of_decide_eq_true (by kernel_rfl)) h3⟩
theorem OT{w:World}{f:Nat}{cs:List Value}(h:Rd Tryz.prog w f 188 cs):∃ x:iH,cs=x.cells∧x.Ok:=by
 obtain⟨f',rfl,h⟩:=h.struct Tryz.underlying188;obtain⟨c0,_,rfl,-,r0,c1,_,rfl,-,r1,c2,_,rfl,-,r2,hn⟩:=h;obtain rfl:_=[]:=hn;obtain⟨A,rfl,hA⟩:=r0.string Tryz.underlying9;obtain⟨B,rfl,hB⟩:=dH r1;obtain⟨C,rfl,hC⟩:=dH r2;exact⟨⟨A,B,C⟩,rfl,⟨fP hA,hB,hC⟩⟩
theorem TF{w:World}{f:Nat}{cs:List Value}(h:Rd Tryz.prog w f 25 cs):∃ v,∃ l:List iH,cs=[v]∧SliceAt w v 9 l.length (l.flatMap iH.cells)∧(∀ x∈l,iH.Ok x)∧ql l.length:=by
 obtain⟨f',v,rfl,rfl,es,h1,h2,h3⟩:=h.slice Tryz.underlying25;rw[show Tryz.prog.cellsOf 188=9 from by kernel_rfl] at h1;obtain⟨l,e1,e2⟩:=cC (R:=fun cs (x:iH)=>cs=iH.cells x∧iH.Ok x) (fun cs h=>OT h.2) es h2;rw[dX e1 fun i x y hx hy=>(e2 i x y hx hy).1,e1] at h1;rw[e1] at h3;exact⟨v,l,rfl,h1,dO e1 e2,bS (of_decide_eq_true (by kernel_rfl)) h3⟩
theorem OJ{w:World}{f:Nat}{cs:List Value}(h:Rd Tryz.prog w f 192 cs):∃ x:kK,cs=x.cells∧x.Ok:=by
 obtain⟨f',rfl,h⟩:=h.struct Tryz.underlying192;obtain⟨c0,_,rfl,-,r0,c1,_,rfl,-,r1,c2,_,rfl,-,r2,c3,_,rfl,-,r3,hn⟩:=h;obtain rfl:_=[]:=hn;obtain⟨A,rfl,hA⟩:=r0.string Tryz.underlying9;obtain⟨B,rfl,hB⟩:=dH r1;obtain⟨C,rfl,hC⟩:=xX r2;obtain⟨D,rfl,hD⟩:=xB r3;exact⟨⟨A,B,C,D⟩,rfl,⟨fP hA,hB,hC,hD⟩⟩
theorem Tw{w:World}{f:Nat}{cs:List Value}(h:Rd Tryz.prog w f 26 cs):∃ v,∃ l:List kK,cs=[v]∧SliceAt w v 11 l.length (l.flatMap kK.cells)∧(∀ x∈l,kK.Ok x)∧ql l.length:=by
 obtain⟨f',v,rfl,rfl,es,h1,h2,h3⟩:=h.slice Tryz.underlying26;rw[show Tryz.prog.cellsOf 192=11 from by kernel_rfl] at h1;obtain⟨l,e1,e2⟩:=cC (R:=fun cs (x:kK)=>cs=kK.cells x∧kK.Ok x) (fun cs h=>OJ h.2) es h2;rw[dX e1 fun i x y hx hy=>(e2 i x y hx hy).1,e1] at h1;rw[e1] at h3;exact⟨v,l,rfl,h1,dO e1 e2,bS (of_decide_eq_true (by kernel_rfl)) h3⟩
theorem OY{w:World}{f:Nat}{cs:List Value}(h:Rd Tryz.prog w f 197 cs):∃ x:dP,cs=x.cells∧x.Ok:=by
 obtain⟨f',rfl,h⟩:=h.struct Tryz.underlying197;obtain⟨c0,_,rfl,-,r0,c1,_,rfl,-,r1,hn⟩:=h;obtain rfl:_=[]:=hn;obtain⟨A,rfl,hA⟩:=r0.string Tryz.underlying9;obtain⟨B,rfl⟩:=r1.bool Tryz.underlying4;exact⟨⟨A,B⟩,rfl,⟨fP hA⟩⟩
theorem TL{w:World}{f:Nat}{cs:List Value}(h:Rd Tryz.prog w f 27 cs):∃ v,∃ l:List dP,cs=[v]∧SliceAt w v 2 l.length (l.flatMap dP.cells)∧(∀ x∈l,dP.Ok x)∧ql l.length:=by
 obtain⟨f',v,rfl,rfl,es,h1,h2,h3⟩:=h.slice Tryz.underlying27;rw[show Tryz.prog.cellsOf 197=2 from by kernel_rfl] at h1;obtain⟨l,e1,e2⟩:=cC (R:=fun cs (x:dP)=>cs=dP.cells x∧dP.Ok x) (fun cs h=>OY h.2) es h2;rw[dX e1 fun i x y hx hy=>(e2 i x y hx hy).1,e1] at h1;rw[e1] at h3;exact⟨v,l,rfl,h1,dO e1 e2,bS (of_decide_eq_true (by kernel_rfl)) h3⟩
theorem OM{w:World}{f:Nat}{cs:List Value}(h:Rd Tryz.prog w f 84 cs):∃ x:bE,cs=x.cells∧x.Ok:=by
 obtain⟨f',rfl,h⟩:=h.struct Tryz.underlying84;obtain⟨c0,_,rfl,-,r0,c1,_,rfl,-,r1,c2,_,rfl,-,r2,c3,_,rfl,-,r3,c4,_,rfl,-,r4,c5,_,rfl,-,r5,c6,_,rfl,-,r6,hn⟩:=h;obtain rfl:_=[]:=hn;obtain⟨A,rfl,hA⟩:=r0.int Tryz.underlying3;obtain⟨B,rfl,hB⟩:=dH r1;obtain⟨C,rfl,hC⟩:=dH r2;obtain⟨D,rfl,hD⟩:=r3.int Tryz.underlying3;obtain⟨E,rfl,hE⟩:=r4.string Tryz.underlying9;obtain⟨F,rfl,hF⟩:=r5.int Tryz.underlying3;obtain⟨G,rfl,hG⟩:=r6.int Tryz.underlying3;exact⟨⟨A,B,C,D,E,F,G⟩,rfl,⟨wf_i64 hA,hB,hC,wf_i64 hD,fP hE,wf_i64 hF,wf_i64 hG⟩⟩
theorem Tz{w:World}{f:Nat}{cs:List Value}(h:Rd Tryz.prog w f 31 cs):∃ v,∃ l:List bE,cs=[v]∧SliceAt w v 13 l.length (l.flatMap bE.cells)∧(∀ x∈l,bE.Ok x)∧ql l.length:=by
 obtain⟨f',v,rfl,rfl,es,h1,h2,h3⟩:=h.slice Tryz.underlying31;rw[show Tryz.prog.cellsOf 84=13 from by kernel_rfl] at h1;obtain⟨l,e1,e2⟩:=cC (R:=fun cs (x:bE)=>cs=bE.cells x∧bE.Ok x) (fun cs h=>OM h.2) es h2;rw[dX e1 fun i x y hx hy=>(e2 i x y hx hy).1,e1] at h1;rw[e1] at h3;exact⟨v,l,rfl,h1,dO e1 e2,bS (of_decide_eq_true (by kernel_rfl)) h3⟩
theorem OQ{w:World}{f:Nat}{cs:List Value}(h:Rd Tryz.prog w f 203 cs):∃ x:k_,cs=x.cells∧x.Ok:=by
 obtain⟨f',rfl,h⟩:=h.struct Tryz.underlying203;obtain⟨c0,_,rfl,-,r0,c1,_,rfl,-,r1,c2,_,rfl,-,r2,c3,_,rfl,-,r3,hn⟩:=h;obtain rfl:_=[]:=hn;obtain⟨A,rfl,hA⟩:=dH r0;obtain⟨B,rfl,hB⟩:=dH r1;obtain⟨C,rfl,hC⟩:=r2.int Tryz.underlying3;obtain⟨D,rfl,hD⟩:=r3.int Tryz.underlying3;exact⟨⟨A,B,C,D⟩,rfl,⟨hA,hB,wf_i64 hC,wf_i64 hD⟩⟩
theorem TB{w:World}{f:Nat}{cs:List Value}(h:Rd Tryz.prog w f 32 cs):∃ v,∃ l:List k_,cs=[v]∧SliceAt w v 10 l.length (l.flatMap k_.cells)∧(∀ x∈l,k_.Ok x)∧ql l.length:=by
 obtain⟨f',v,rfl,rfl,es,h1,h2,h3⟩:=h.slice Tryz.underlying32;rw[show Tryz.prog.cellsOf 203=10 from by kernel_rfl] at h1;obtain⟨l,e1,e2⟩:=cC (R:=fun cs (x:k_)=>cs=k_.cells x∧k_.Ok x) (fun cs h=>OQ h.2) es h2;rw[dX e1 fun i x y hx hy=>(e2 i x y hx hy).1,e1] at h1;rw[e1] at h3;exact⟨v,l,rfl,h1,dO e1 e2,bS (of_decide_eq_true (by kernel_rfl)) h3⟩
theorem OU{w:World}{f:Nat}{cs:List Value}(h:Rd Tryz.prog w f 205 cs):∃ x:lu,cs=x.cells∧x.Ok:=by
 obtain⟨f',rfl,h⟩:=h.struct Tryz.underlying205;obtain⟨c0,_,rfl,-,r0,c1,_,rfl,-,r1,c2,_,rfl,-,r2,c3,_,rfl,-,r3,hn⟩:=h;obtain rfl:_=[]:=hn;obtain⟨A,rfl,hA⟩:=dH r0;obtain⟨B,rfl,hB⟩:=dH r1;obtain⟨C,rfl,hC⟩:=r2.int Tryz.underlying3;obtain⟨D,rfl,hD⟩:=xB r3;exact⟨⟨A,B,C,D⟩,rfl,⟨hA,hB,wf_i64 hC,hD⟩⟩
theorem TG{w:World}{f:Nat}{cs:List Value}(h:Rd Tryz.prog w f 33 cs):∃ v,∃ l:List lu,cs=[v]∧SliceAt w v 13 l.length (l.flatMap lu.cells)∧(∀ x∈l,lu.Ok x)∧ql l.length:=by
 obtain⟨f',v,rfl,rfl,es,h1,h2,h3⟩:=h.slice Tryz.underlying33;rw[show Tryz.prog.cellsOf 205=13 from by kernel_rfl] at h1;obtain⟨l,e1,e2⟩:=cC (R:=fun cs (x:lu)=>cs=lu.cells x∧lu.Ok x) (fun cs h=>OU h.2) es h2;rw[dX e1 fun i x y hx hy=>(e2 i x y hx hy).1,e1] at h1;rw[e1] at h3;exact⟨v,l,rfl,h1,dO e1 e2,bS (of_decide_eq_true (by kernel_rfl)) h3⟩
theorem OO{w:World}{f:Nat}{cs:List Value}(h:Rd Tryz.prog w f 125 cs):∃ x:kZ,cs=x.cells∧x.Ok:=by
 obtain⟨f',rfl,h⟩:=h.struct Tryz.underlying125;obtain⟨c0,_,rfl,-,r0,c1,_,rfl,-,r1,hn⟩:=h;obtain rfl:_=[]:=hn;obtain⟨A,rfl,hA⟩:=r0.string Tryz.underlying9;obtain⟨B,rfl,hB⟩:=E7 r1;exact⟨⟨A,B⟩,rfl,⟨fP hA,hB⟩⟩
theorem TA{w:World}{f:Nat}{cs:List Value}(h:Rd Tryz.prog w f 35 cs):∃ v,∃ l:List kZ,cs=[v]∧SliceAt w v 8 l.length (l.flatMap kZ.cells)∧(∀ x∈l,kZ.Ok x)∧ql l.length:=by
 obtain⟨f',v,rfl,rfl,es,h1,h2,h3⟩:=h.slice Tryz.underlying35;rw[show Tryz.prog.cellsOf 125=8 from by kernel_rfl] at h1;obtain⟨l,e1,e2⟩:=cC (R:=fun cs (x:kZ)=>cs=kZ.cells x∧kZ.Ok x) (fun cs h=>OO h.2) es h2;rw[dX e1 fun i x y hx hy=>(e2 i x y hx hy).1,e1] at h1;rw[e1] at h3;exact⟨v,l,rfl,h1,dO e1 e2,bS (of_decide_eq_true (by kernel_rfl)) h3⟩
theorem OV{w:World}{f:Nat}{cs:List Value}(h:Rd Tryz.prog w f 127 cs):∃ x:lC,cs=x.cells∧x.Ok:=by
 obtain⟨f',rfl,h⟩:=h.struct Tryz.underlying127;obtain⟨c0,_,rfl,-,r0,c1,_,rfl,-,r1,c2,_,rfl,-,r2,hn⟩:=h;obtain rfl:_=[]:=hn;obtain⟨A,rfl,hA⟩:=r0.string Tryz.underlying9;obtain⟨B,rfl,hB⟩:=r1.int Tryz.underlying3;obtain⟨C,rfl,hC⟩:=E7 r2;exact⟨⟨A,B,C⟩,rfl,⟨fP hA,wf_i64 hB,hC⟩⟩
theorem TH{w:World}{f:Nat}{cs:List Value}(h:Rd Tryz.prog w f 36 cs):∃ v,∃ l:List lC,cs=[v]∧SliceAt w v 9 l.length (l.flatMap lC.cells)∧(∀ x∈l,lC.Ok x)∧ql l.length:=by
 obtain⟨f',v,rfl,rfl,es,h1,h2,h3⟩:=h.slice Tryz.underlying36;rw[show Tryz.prog.cellsOf 127=9 from by kernel_rfl] at h1;obtain⟨l,e1,e2⟩:=cC (R:=fun cs (x:lC)=>cs=lC.cells x∧lC.Ok x) (fun cs h=>OV h.2) es h2;rw[dX e1 fun i x y hx hy=>(e2 i x y hx hy).1,e1] at h1;rw[e1] at h3;exact⟨v,l,rfl,h1,dO e1 e2,bS (of_decide_eq_true (by kernel_rfl)) h3⟩
theorem O0{w:World}{f:Nat}{cs:List Value}(h:Rd Tryz.prog w f 129 cs):∃ x:lE,cs=x.cells∧x.Ok:=by
 obtain⟨f',rfl,h⟩:=h.struct Tryz.underlying129;obtain⟨c0,_,rfl,-,r0,c1,_,rfl,-,r1,c2,_,rfl,-,r2,c3,_,rfl,-,r3,hn⟩:=h;obtain rfl:_=[]:=hn;obtain⟨A,rfl,hA⟩:=r0.string Tryz.underlying9;obtain⟨B,rfl,hB⟩:=r1.int Tryz.underlying3;obtain⟨C,rfl,hC⟩:=dH r2;obtain⟨D,rfl,hD⟩:=dH r3;exact⟨⟨A,B,C,D⟩,rfl,⟨fP hA,wf_i64 hB,hC,hD⟩⟩
theorem TN{w:World}{f:Nat}{cs:List Value}(h:Rd Tryz.prog w f 37 cs):∃ v,∃ l:List lE,cs=[v]∧SliceAt w v 10 l.length (l.flatMap lE.cells)∧(∀ x∈l,lE.Ok x)∧ql l.length:=by
 obtain⟨f',v,rfl,rfl,es,h1,h2,h3⟩:=h.slice Tryz.underlying37;rw[show Tryz.prog.cellsOf 129=10 from by kernel_rfl] at h1;obtain⟨l,e1,e2⟩:=cC (R:=fun cs (x:lE)=>cs=lE.cells x∧lE.Ok x) (fun cs h=>O0 h.2) es h2;rw[dX e1 fun i x y hx hy=>(e2 i x y hx hy).1,e1] at h1;rw[e1] at h3;exact⟨v,l,rfl,h1,dO e1 e2,bS (of_decide_eq_true (by kernel_rfl)) h3⟩
theorem OX{w:World}{f:Nat}{cs:List Value}(h:Rd Tryz.prog w f 180 cs):∃ x:jL,rN w cs x∧x.Ok:=by
 obtain⟨f',rfl,h⟩:=h.struct Tryz.underlying180;obtain⟨c0,_,rfl,-,r0,c1,_,rfl,-,r1,hn⟩:=h;obtain rfl:_=[]:=hn;obtain⟨A,rfl,hA⟩:=r0.string Tryz.underlying9;obtain⟨vB,B,rfl,sB,aB,lB⟩:=ox r1;exact⟨⟨A,B⟩,⟨vB,rfl,sB⟩,⟨fP hA,⟨lB,aB⟩⟩⟩
theorem TK{w:World}{f:Nat}{cs:List Value}(h:Rd Tryz.prog w f 22 cs):∃ v,∃ l:List jL,cs=[v]∧aq 2 (rN w) w v l∧(∀ x∈l,jL.Ok x)∧ql l.length:=by
 obtain⟨f',v,rfl,rfl,es,h1,h2,h3⟩:=h.slice Tryz.underlying22;rw[show Tryz.prog.cellsOf 180=2 from by kernel_rfl] at h1 h2;obtain⟨l,e1,e2⟩:=cC (R:=fun cs (x:jL)=>rN w cs x∧jL.Ok x) (fun cs h=>OX h.2) es h2;rw[e1] at h1 h3;exact⟨v,l,rfl,⟨es,e1,fun x hx=>(h2 x hx).1,h1,fun i x y hx hy=>(e2 i x y hx hy).1⟩,dO e1 e2,bS (of_decide_eq_true (by kernel_rfl)) h3⟩
theorem OL{w:World}{f:Nat}{cs:List Value}(h:Rd Tryz.prog w f 86 cs):∃ x:mT,rJ w cs x∧x.Ok:=by
 obtain⟨f',rfl,h⟩:=h.struct Tryz.underlying86;obtain⟨c0,_,rfl,-,r0,c1,_,rfl,-,r1,c2,_,rfl,-,r2,hn⟩:=h;obtain rfl:_=[]:=hn;obtain⟨A,rfl,hA⟩:=r0.string Tryz.underlying9;obtain⟨vB,B,rfl,sB,aB,lB⟩:=ox r1;obtain⟨C,rfl⟩:=r2.bool Tryz.underlying4;exact⟨⟨A,B,C⟩,⟨vB,rfl,sB⟩,⟨fP hA,⟨lB,aB⟩⟩⟩
theorem Tx{w:World}{f:Nat}{cs:List Value}(h:Rd Tryz.prog w f 23 cs):∃ v,∃ l:List mT,cs=[v]∧aq 3 (rJ w) w v l∧(∀ x∈l,mT.Ok x)∧ql l.length:=by
 obtain⟨f',v,rfl,rfl,es,h1,h2,h3⟩:=h.slice Tryz.underlying23;rw[show Tryz.prog.cellsOf 86=3 from by kernel_rfl] at h1 h2;obtain⟨l,e1,e2⟩:=cC (R:=fun cs (x:mT)=>rJ w cs x∧mT.Ok x) (fun cs h=>OL h.2) es h2;rw[e1] at h1 h3;exact⟨v,l,rfl,⟨es,e1,fun x hx=>(h2 x hx).1,h1,fun i x y hx hy=>(e2 i x y hx hy).1⟩,dO e1 e2,bS (of_decide_eq_true (by kernel_rfl)) h3⟩
theorem OW{w:World}{f:Nat}{cs:List Value}(h:Rd Tryz.prog w f 91 cs):∃ x:p7,rM w cs x∧x.Ok:=by
 obtain⟨f',rfl,h⟩:=h.struct Tryz.underlying91;obtain⟨c0,_,rfl,-,r0,c1,_,rfl,-,r1,c2,_,rfl,-,r2,c3,_,rfl,-,r3,hn⟩:=h;obtain rfl:_=[]:=hn;obtain⟨A,rfl,hA⟩:=r0.int Tryz.underlying3;obtain⟨B,rfl,hB⟩:=r1.int Tryz.underlying50;obtain⟨C,rfl⟩:=r2.bool Tryz.underlying4;obtain⟨D,sD,hD⟩:=Db _ _ r3;exact⟨⟨A,B,C,D⟩,⟨_,by simp,sD⟩,⟨wf_i64 hA,wf_u32 hB,hD⟩⟩
theorem TJ{w:World}{f:Nat}{cs:List Value}(h:Rd Tryz.prog w f 34 cs):∃ v,∃ l:List p7,cs=[v]∧aq 13 (rM w) w v l∧(∀ x∈l,p7.Ok x)∧ql l.length:=by
 obtain⟨f',v,rfl,rfl,es,h1,h2,h3⟩:=h.slice Tryz.underlying34;rw[show Tryz.prog.cellsOf 91=13 from by kernel_rfl] at h1 h2;obtain⟨l,e1,e2⟩:=cC (R:=fun cs (x:p7)=>rM w cs x∧p7.Ok x) (fun cs h=>OW h.2) es h2;rw[e1] at h1 h3;exact⟨v,l,rfl,⟨es,e1,fun x hx=>(h2 x hx).1,h1,fun i x y hx hy=>(e2 i x y hx hy).1⟩,dO e1 e2,bS (of_decide_eq_true (by kernel_rfl)) h3⟩
theorem SE{w:World}{f:Nat}{cs:List Value}(h:Rd Tryz.prog w f 29 cs):∃ v,∃ l:List ak,cs=[v]∧aq 10 (aZ w) w v l∧(∀ x∈l,ak.Ok x)∧ql l.length:=by
 obtain⟨f',v,rfl,rfl,es,h1,h2,h3⟩:=h.slice Tryz.underlying29;rw[show Tryz.prog.cellsOf 89=10 from by kernel_rfl] at h1 h2;obtain⟨l,e1,e2⟩:=cC (R:=fun cs (x:ak)=>aZ w cs x∧ak.Ok x) (fun cs h=>Db _ _ h.2) es h2;rw[e1] at h1 h3;exact⟨v,l,rfl,⟨es,e1,fun x hx=>(h2 x hx).1,h1,fun i x y hx hy=>(e2 i x y hx hy).1⟩,dO e1 e2,bS (of_decide_eq_true (by kernel_rfl)) h3⟩
theorem U9{w:World}{u:Value}(h:Arg Tryz.prog w 39 u):∃ c0 c1 c2 c3 c4 c5 c6 c7 c8 c9 aQ aL aK aP aO aN aM:Value,∃ p:aA,u=.agg #[c0,c1,c2,c3,c4,c5,c6,c7,c8,c9,aQ,aL,aK,aP,aO,aN,aM]∧aJ w c0 c1 c2 c3 c4 c5 c6 c7 c8 c9 aQ aL aK aP aO aN aM p∧p.Ok:=by
 obtain⟨f,cs,h,rfl⟩:=h;rw[Tryz.underlying39];obtain⟨f',rfl,h⟩:=h.struct Tryz.underlying39;obtain⟨c0,_,rfl,-,r0,c1,_,rfl,-,r1,c2,_,rfl,-,r2,c3,_,rfl,-,r3,c4,_,rfl,-,r4,c5,_,rfl,-,r5,c6,_,rfl,-,r6,c7,_,rfl,-,r7,c8,_,rfl,-,r8,c9,_,rfl,-,r9,aQ,_,rfl,-,r10,aL,_,rfl,-,r11,aK,_,rfl,-,r12,aP,_,rfl,-,r13,aO,_,rfl,-,r14,aN,_,rfl,-,r15,aM,_,rfl,-,r16,hn⟩:=h;obtain rfl:_=[]:=hn;obtain⟨v0,l0,rfl,s0,o0,b0⟩:=TK r0;obtain⟨v1,l1,rfl,s1,o1,b1⟩:=Tx r1;obtain⟨v2,l2,rfl,s2,o2,b2⟩:=TM r2;obtain⟨v3,l3,rfl,s3,o3,b3⟩:=TF r3;obtain⟨v4,l4,rfl,s4,o4,b4⟩:=Tw r4;obtain⟨v5,l5,rfl,s5,o5,b5⟩:=TL r5;obtain⟨v6,l6,rfl,s6,o6,b6⟩:=ox r6;obtain⟨v7,l7,rfl,s7,o7,b7⟩:=ox r7;obtain⟨v8,l8,rfl,s8,o8,b8⟩:=SE r8;obtain⟨v9,l9,rfl,s9,o9,b9⟩:=OP r9;obtain⟨v10,l10,rfl,s10,o10,b10⟩:=Tz r10;obtain⟨v11,l11,rfl,s11,o11,b11⟩:=TB r11;obtain⟨v12,l12,rfl,s12,o12,b12⟩:=TG r12;obtain⟨v13,l13,rfl,s13,o13,b13⟩:=TJ r13;obtain⟨v14,l14,rfl,s14,o14,b14⟩:=TA r14;obtain⟨v15,l15,rfl,s15,o15,b15⟩:=TH r15;obtain⟨v16,l16,rfl,s16,o16,b16⟩:=TN r16;exact⟨v0,v1,v2,v3,v4,v5,v6,v7,v8,v9,v10,v11,v12,v13,v14,v15,v16,⟨l0,l1,l2,l3,l4,l5,l6,l7,l8,l9,l10,l11,l12,l13,l14,l15,l16⟩,rfl,⟨s0,s1,s2,s3,s4,s5,s6,s7,s8,s9,s10,s11,s12,s13,s14,s15,s16⟩,⟨o0,b0,o1,b1,o2,b2,o3,b3,o4,b4,o5,b5,o6,b6,o7,b7,o8,b8,o9,b9,o10,b10,o11,b11,o12,b12,o13,b13,o14,b14,o15,b15,o16,b16⟩⟩
end Go.Proofs.YtdcofoaihmongaaGreat
namespace Go.Proofs.YtdcofoaihmongaaGreat
open Go Go.RowKit
theorem SliceAt.elt{α:Type}{f:α→List Value}{k n i c:Nat}{w:World}{a:Option Addr}{l:List α}{y:α}(h:SliceAt w (.slice a n c) k n (l.flatMap f))(hf:∀ x,(f x).length=k)(hk:0<k)(hy:l[i]?=some y)(hi:i<n):
 ∃ b off,a=some ⟨b,off,none⟩∧∀ j u,(f y)[j]?=some u→w.cell? ⟨b,off+i*k+j,none⟩=some u:=by
 obtain⟨a',c',e,-,-,h2⟩:=SliceAt.form h hk;injection e with e1 e2 e3;subst e1;obtain⟨b,off,hb,h3⟩:=h2 i hi;refine⟨b,off,hb,fun j u hu=>h3 j u ?_⟩;rw[nr hf hy j (hf y▸(au_.1 hu).1)];exact hu
theorem aF.get{w:World}{v:Value}{l:List ByteArray}(h:aF w v l):∃ a c,v=.slice a l.length c∧l.length≤9223372036854775807∧∀ (i:Nat) s,l[i]?=some s→∃ b off,a=some ⟨b,off,none⟩∧w.cell? ⟨b,off+i*1,none⟩=some (.string s):=by
 obtain⟨a,c,rfl,-,hm,-⟩:=SliceAt.form h (by decide);refine⟨a,c,rfl,hm,fun i s hs=>?_⟩;obtain⟨b,off,e,hc⟩:=SliceAt.elt (f:=aT) h (fun _=>rfl) (by decide) hs (au_.1 hs).1;exact⟨b,off,e,hc 0 _ rfl⟩
theorem dS{α:Type}{f:α→List Value}{k n n' c c' m:Nat}{w0 w:World}{a a':Option Addr}{l r:List α}(hf:∀ x,(f x).length=k)(hk:0<k)(h:SliceAt w0 (.slice a n c) k n (l.flatMap f))(h':SliceAt w0 (.slice a' n' c') k n' (r.flatMap f))(hn:n=l.length)(hn':n'=r.length)(hm:m<l.length)(hl:l.length=r.length)(hb:avc w0.heap.size w0 w):
 ∃ x y b o b' o',l[m]?=some x∧r[m]?=some y∧(a=some ⟨b,o,none⟩∧∀ j u,(f x)[j]?=some u→w.cell? ⟨b,o+m*k+j,none⟩=some u)∧(a'=some ⟨b',o',none⟩∧∀ j u,(f y)[j]?=some u→w.cell? ⟨b',o'+m*k+j,none⟩=some u):=by
 obtain⟨x,hx⟩:∃ x,l[m]?=some x:=⟨_,ava hm⟩;obtain⟨y,hy⟩:∃ y,r[m]?=some y:=⟨_,ava (hl▸hm)⟩;obtain⟨b,o,e,hc⟩:=h.elt hf hk hx (hn▸hm);obtain⟨b',o',e',hc'⟩:=h'.elt hf hk hy (hn'▸hl▸hm);exact⟨x,y,b,o,b',o',hx,hy,⟨e,bY hb hc⟩,e',bY hb hc'⟩
theorem aJ.open{w:World}{c0 c1 c2 c3 c4 c5 c6 c7 c8 c9 aQ aL aK aP aO aN aM:Value}{p:aA}(h:aJ w c0 c1 c2 c3 c4 c5 c6 c7 c8 c9 aQ aL aK aP aO aN aM p):∃ a0 a1 a2 a3 a4 a5 a6 a7 a8 a9 TV OG a12 XE OE OD OC k0 k1 k2 k3 k4 k5 k6 k7 k8 k9 k10 k11 k12 k13 k14 k15 k16,c0=.slice a0 p.classes.length k0∧c1=.slice a1 p.types.length k1∧c2=.slice a2 p.attrs.length k2∧c3=.slice a3 p.roles.length k3∧c4=.slice a4 p.users.length k4∧c5=.slice a5 p.bools.length k5∧c6=.slice a6 p.aW.length k6∧c7=.slice a7 p.cats.length k7∧c8=.slice a8 p.conds.length k8∧c9=.slice a9 p.rules.length k9∧aQ=.slice TV p.trans.length k10∧aL=.slice OG p.aS.length k11∧aK=.slice a12 p.ranges.length k12∧aP=.slice XE p.cons.length k13∧aO=.slice OE p.bL.length k14∧aN=.slice OD p.files.length k15∧aM=.slice OC p.asserts.length k16:=by
 obtain⟨a0,k0,e0,-⟩:=aq.form h.classes (by decide);obtain⟨a1,k1,e1,-⟩:=aq.form h.types (by decide);obtain⟨a2,k2,e2,-⟩:=SliceAt.form h.attrs (by decide);obtain⟨a3,k3,e3,-⟩:=SliceAt.form h.roles (by decide);obtain⟨a4,k4,e4,-⟩:=SliceAt.form h.users (by decide);obtain⟨a5,k5,e5,-⟩:=SliceAt.form h.bools (by decide);obtain⟨a6,k6,e6,-⟩:=aF.get h.aW;obtain⟨a7,k7,e7,-⟩:=aF.get h.cats;obtain⟨a8,k8,e8,-⟩:=aq.form h.conds (by decide);obtain⟨a9,k9,e9,-⟩:=SliceAt.form h.rules (by decide);obtain⟨TV,k10,e10,-⟩:=SliceAt.form h.trans (by decide);obtain⟨OG,k11,e11,-⟩:=SliceAt.form h.aS (by decide);obtain⟨a12,k12,e12,-⟩:=SliceAt.form h.ranges (by decide);obtain⟨XE,k13,e13,-⟩:=aq.form h.cons (by decide);obtain⟨OE,k14,e14,-⟩:=SliceAt.form h.bL (by decide);obtain⟨OD,k15,e15,-⟩:=SliceAt.form h.files (by decide);obtain⟨OC,k16,e16,-⟩:=SliceAt.form h.asserts (by decide);exact⟨_,_,_,_,_,_,_,_,_,_,_,_,_,_,_,_,_,_,_,_,_,_,_,_,_,_,_,_,_,_,_,_,_,_,e0,e1,e2,e3,e4,e5,e6,e7,e8,e9,e10,e11,e12,e13,e14,e15,e16⟩
theorem bd{t:TypeId}{parts:Array (Nat×Operand)}{vs:List Value}{cells:Array Value}(h:Tryz.prog.built t ((parts.toList.zip vs).map fun x=>(x.1.1,x.2))=some cells)(a:Act)(w:World)(o:Oper)(ho:o.op=.build t parts)(hv:wK a (iE (.build t parts)) vs):
 (execOp a.eval o).run Tryz.prog w=.ok (.value (.agg cells)) w:=by
 refine vS ho rfl ?_;rw[← h];congr 1;have h1:vs=(parts.toList.map (·.2)).map a.eval:=(vO hv).symm;rw[h1,Array.toList_map];generalize parts.toList=l
 induction l with
 | nil=>rfl
 | cons x r ih=>simp only[List.map_cons,List.zip_cons_cons,ih]
theorem ri{v M:Int}(h:M=v):Ending.returned (lS [.int .i64 v])=.returned (.int .i64 M):=by rw[h];rfl
theorem rb{v M:Bool}(h:M=v):Ending.returned (lS [.bool v])=.returned (.bool M):=by rw[h];rfl
theorem gE{w:World}{B n:Nat}{u:Value}{xs:List Value}{l:List ByteArray}(h:w.ownsRow B 9 1 u n xs)(hn:n=l.length)(hx:xs=l.flatMap aT):aF w u l:=by
 subst hn hx;exact SliceAt.bq h fun v hv=>by obtain⟨s,-,hs⟩:=List.mem_flatMap.1 hv;simp only[aT,List.mem_singleton] at hs;subst hs;rfl
theorem rX{α:Type}{f:α→ByteArray}{l:List α}{m:Nat}{y:α}(h:l[m]?=some y):((l.take (m+1)).map f).flatMap aT=((l.take m).map f).flatMap aT++[.string (f y)]:=by
 rw[List.take_add_one,h];simp[aT]
theorem aq.elt{α:Type}{k i c:Nat}{R:List Value→α→Prop}{w:World}{a:Option Addr}{l:List α}{y:α}{n:Nat}(h:aq k R w (.slice a n c) l)(hk:0<k)(hy:l[i]?=some y):∃ b off x,a=some ⟨b,off,none⟩∧R x y∧∀ j u,x[j]?=some u→w.cell? ⟨b,off+i*k+j,none⟩=some u:=by
 obtain⟨la,lk,e,-,-,hc⟩:=aq.form h hk;injection e with e1 e2 e3;subst e1;obtain⟨b,off,x,h1,h2,-,h3⟩:=hc i y hy;exact⟨b,off,x,h1,h2,h3⟩
theorem fbp{op:Op}{ty:TypeId}{xs:List Operand}{vs:List Value}{v:Value}{B:Nat}{w0 w:World}{bs:List Bx}{rs:List Rw}{K:Value→List Bx→List Rw→World→Prop}(M:aV B w0 w bs rs)(hx:∀ (a:Act) (o':Oper),o'.op=op→wK a xs vs→(execOp a.eval o').run Tryz.prog w=.ok (.value v) w)(h:K v bs rs w):
 ∃ R:Value→World→Prop,(∀ (a:Act) (o':Oper),o'.op=op→o'.type=ty→wK a xs vs→∃ v w',(execOp a.eval o').run Tryz.prog w=.ok (.value v) w'∧R v w')∧∀ v w',R v w'→∃ bs' rs',aV B w0 w' bs' rs'∧K v bs' rs' w':=
 ⟨fun v' w'=>v'=v∧w'=w,fun a o' ho _ hv=>⟨_,_,hx a o' ho hv,rfl,rfl⟩,fun _ _ ⟨h1,h2⟩=>by subst h1 h2;exact⟨_,_,M,h⟩⟩
theorem cf{B:Nat}{w0 w:World}{bs:List Bx}{rs:List Rw}{X:Prop}{f:FuncId}{args:Array Value}{R:Value→World→Prop}{K:Value→List Bx→List Rw→World→Prop}(M:aV B w0 w bs rs)(hc:Calls Tryz.prog f args w fun e w'=>∃ v,e=.returned v∧(R v w'∧avc w.heap.size w w'))
 (h:∀ v w',R v w'→avc w.heap.size w w'→aV B w0 w' bs rs→K v bs rs w'):X∨∃ R:Value→World→Prop,(Calls Tryz.prog f args w fun e w'=>∃ v,e=.returned v∧R v w')∧∀ v w',R v w'→∃ bs' rs',aV B w0 w' bs' rs'∧K v bs' rs' w':=
 .inr ⟨_,hc,fun v w' ⟨h1,h2⟩=>⟨_,_,M.keep h2,h v w' h1 h2 (M.keep h2)⟩⟩
theorem cb{B:Nat}{w0 w:World}{bs:List Bx}{rs:List Rw}{X:Prop}{f:FuncId}{args:Array Value}{v:Value}{K:Value→List Bx→List Rw→World→Prop}(M:aV B w0 w bs rs)(hc:Calls Tryz.prog f args w fun e w'=>e=.returned v∧avc w.heap.size w w')
 (h:∀ w',avc w.heap.size w w'→aV B w0 w' bs rs→K v bs rs w'):X∨∃ R:Value→World→Prop,(Calls Tryz.prog f args w fun e w'=>∃ v,e=.returned v∧R v w')∧∀ v w',R v w'→∃ bs' rs',aV B w0 w' bs' rs'∧K v bs' rs' w':=
 cf (R:=fun u _=>u=v) M (hc.mono fun _ _ ⟨h1,h2⟩=>⟨v,h1,rfl,h2⟩) fun u w' e hb M'=>by subst e;exact h w' hb M'
end Go.Proofs.YtdcofoaihmongaaGreat
namespace Go.Proofs.YtdcofoaihmongaaGreat
open Go Go.RowKit Go.WideMaps
theorem aaT(d:Nat)(x0 y0:Int)(w:World):(Op.equalIn (d+1) 52 (.int .u64 x0) (.int .u64 y0)).run Tryz.prog w=.ok (decide (x0=y0)) w:=by
 by_cases h:x0=y0<;>simp[Op.equalIn,run_underlying Tryz.underlying52,h]
theorem mG(d:Nat)(x0 x1 x2 x3 y0 y1 y2 y3:Int)(w:World):(Op.equalIn (d+2) 54 (.agg #[.int .u64 x0,.int .u64 x1,.int .u64 x2,.int .u64 x3]) (.agg #[.int .u64 y0,.int .u64 y1,.int .u64 y2,.int .u64 y3])).run Tryz.prog w=.ok (decide (x0=y0∧x1=y1∧x2=y2∧x3=y3)) w:=by
 have hsz:=BN
 obtain⟨i0,hi,-⟩:∃ i,Tryz.prog.info? 52=some i∧True:=by
  cases h:Tryz.prog.info? 52 with
  | none=>rw[h] at hsz;cases hsz
  | some i=>exact⟨i,rfl,trivial⟩
 rw[show d+2=(d+1)+1 from rfl,run_equalIn_array w (d+1) _ _ Tryz.underlying54 hi,show Tryz.prog.cellsOf 52=1 from by kernel_rfl];have p0:∀ x0 x1 x2 x3:Int,(part 52 #[.int .u64 x0,.int .u64 x1,.int .u64 x2,.int .u64 x3] (0*1)).run Tryz.prog w=.ok (.int .u64 x0) w:=fun x0 x1 x2 x3=>by kernel_rfl
 have p1:∀ x0 x1 x2 x3:Int,(part 52 #[.int .u64 x0,.int .u64 x1,.int .u64 x2,.int .u64 x3] (1*1)).run Tryz.prog w=.ok (.int .u64 x1) w:=fun x0 x1 x2 x3=>by kernel_rfl
 have p2:∀ x0 x1 x2 x3:Int,(part 52 #[.int .u64 x0,.int .u64 x1,.int .u64 x2,.int .u64 x3] (2*1)).run Tryz.prog w=.ok (.int .u64 x2) w:=fun x0 x1 x2 x3=>by kernel_rfl
 have p3:∀ x0 x1 x2 x3:Int,(part 52 #[.int .u64 x0,.int .u64 x1,.int .u64 x2,.int .u64 x3] (3*1)).run Tryz.prog w=.ok (.int .u64 x3) w:=fun x0 x1 x2 x3=>by kernel_rfl
 have eq:=fun a b=>aaT d a b w
 rw[show List.range 4=[0,1,2,3] from rfl];simp only[Op.eqItems,Sem.run_bind,p0,Result.andThen_ok,eq];by_cases h0:x0=y0<;>by_cases h1:x1=y1<;>by_cases h2:x2=y2<;>by_cases h3:x3=y3<;>simp[h0,h1,h2,h3,Sem.run_bind,p1,p2,p3,eq]
theorem sI(d:Nat)(x0 y0:Int)(w:World):(Op.equalIn (d+1) 3 (.int .i64 x0) (.int .i64 y0)).run Tryz.prog w=.ok (decide (x0=y0)) w:=by
 by_cases h:x0=y0<;>simp[Op.equalIn,run_underlying Tryz.underlying3,h]
theorem agq(d:Nat)(x0 y0:Bool)(w:World):(Op.equalIn (d+1) 4 (.bool x0) (.bool y0)).run Tryz.prog w=.ok (decide (x0=y0)) w:=by
 by_cases h:x0=y0<;>simp[Op.equalIn,run_underlying Tryz.underlying4,h]
theorem agp(d:Nat)(x0 y0:Int)(w:World):(Op.equalIn (d+1) 50 (.int .u32 x0) (.int .u32 y0)).run Tryz.prog w=.ok (decide (x0=y0)) w:=by
 by_cases h:x0=y0<;>simp[Op.equalIn,run_underlying Tryz.underlying50,h]
theorem agn(d:Nat)(x0 x1 x2 x3 x4 x5 x6 x7 x8 x10 qh qg y0 y1 y2 y3 y4 y5 y6 y7 y8 uI DS DR:Int)(x9 y9:Bool)(w:World):(Op.equalIn (d+3) 56 (.agg #[.int .i64 x0,.int .u64 x1,.int .u64 x2,.int .u64 x3,.int .u64 x4,.int .u64 x5,.int .u64 x6,.int .u64 x7,.int .u64 x8,.bool x9,.int .i64 x10,.int .u32 qh,.int .i64 qg]) (.agg #[.int .i64 y0,.int .u64 y1,.int .u64 y2,.int .u64 y3,.int .u64 y4,.int .u64 y5,.int .u64 y6,.int .u64 y7,.int .u64 y8,.bool y9,.int .i64 uI,.int .u32 DS,.int .i64 DR])).run Tryz.prog w=.ok (decide (x0=y0∧x1=y1∧x2=y2∧x3=y3∧x4=y4∧x5=y5∧x6=y6∧x7=y7∧x8=y8∧x9=y9∧x10=uI∧qh=DS∧qg=DR)) w:=by
 have hf:(Tryz.prog.fieldsOf 56).toList.map (fun f=>(f.type,f.offset))=[(3,0),(54,1),(54,5),(4,9),(3,10),(50,11),(3,12)]:=by kernel_rfl
 have hq:(Op.eqFields (d+2) #[.int .i64 x0,.int .u64 x1,.int .u64 x2,.int .u64 x3,.int .u64 x4,.int .u64 x5,.int .u64 x6,.int .u64 x7,.int .u64 x8,.bool x9,.int .i64 x10,.int .u32 qh,.int .i64 qg] #[.int .i64 y0,.int .u64 y1,.int .u64 y2,.int .u64 y3,.int .u64 y4,.int .u64 y5,.int .u64 y6,.int .u64 y7,.int .u64 y8,.bool y9,.int .i64 uI,.int .u32 DS,.int .i64 DR] (Tryz.prog.fieldsOf 56).toList).run Tryz.prog w=.ok ([decide (x0=y0),decide (x1=y1∧x2=y2∧x3=y3∧x4=y4),decide (x5=y5∧x6=y6∧x7=y7∧x8=y8),decide (x9=y9),decide (x10=uI),decide (qh=DS),decide (qg=DR)].all id) w:=by
  refine dI _ _ (by kernel_rfl) (by kernel_rfl) fun i f r hi hr=>?_
  have hm:=congrArg (fun z:List (Nat×Nat)=>z[i]?) hf;simp only[avd,hi,Option.map_some] at hm;have hlt:i<7:=(au_.1 hr).1
  match i,hlt with
  | 0,_=>
   obtain⟨h1,h2⟩:=ave (avf hm);obtain rfl:=avf hr;rw[h1,h2];exact⟨.int .i64 x0,.int .i64 y0,by kernel_rfl,by kernel_rfl,sI (d+1) x0 y0 w⟩
  | 1,_=>
   obtain⟨h1,h2⟩:=ave (avf hm);obtain rfl:=avf hr;rw[h1,h2];exact⟨.agg #[.int .u64 x1,.int .u64 x2,.int .u64 x3,.int .u64 x4],.agg #[.int .u64 y1,.int .u64 y2,.int .u64 y3,.int .u64 y4],by kernel_rfl,by kernel_rfl,mG d x1 x2 x3 x4 y1 y2 y3 y4 w⟩
  | 2,_=>
   obtain⟨h1,h2⟩:=ave (avf hm);obtain rfl:=avf hr;rw[h1,h2];exact⟨.agg #[.int .u64 x5,.int .u64 x6,.int .u64 x7,.int .u64 x8],.agg #[.int .u64 y5,.int .u64 y6,.int .u64 y7,.int .u64 y8],by kernel_rfl,by kernel_rfl,mG d x5 x6 x7 x8 y5 y6 y7 y8 w⟩
  | 3,_=>
   obtain⟨h1,h2⟩:=ave (avf hm);obtain rfl:=avf hr;rw[h1,h2];exact⟨.bool x9,.bool y9,by kernel_rfl,by kernel_rfl,agq (d+1) x9 y9 w⟩
  | 4,_=>
   obtain⟨h1,h2⟩:=ave (avf hm);obtain rfl:=avf hr;rw[h1,h2];exact⟨.int .i64 x10,.int .i64 uI,by kernel_rfl,by kernel_rfl,sI (d+1) x10 uI w⟩
  | 5,_=>
   obtain⟨h1,h2⟩:=ave (avf hm);obtain rfl:=avf hr;rw[h1,h2];exact⟨.int .u32 qh,.int .u32 DS,by kernel_rfl,by kernel_rfl,agp (d+1) qh DS w⟩
  | 6,_=>
   obtain⟨h1,h2⟩:=ave (avf hm);obtain rfl:=avf hr;rw[h1,h2];exact⟨.int .i64 qg,.int .i64 DR,by kernel_rfl,by kernel_rfl,sI (d+1) qg DR w⟩
 rw[show d+3=(d+2)+1 from rfl,run_equalIn_agg w (d+2) 56 _ _ (by kernel_rfl) (by kernel_rfl),hq];congr 1;rw[avg];simp[and_assoc]
theorem Kz(d:Nat)(x0 y0:ByteArray)(w:World):(Op.equalIn (d+1) 9 (.string x0) (.string y0)).run Tryz.prog w=.ok (decide (x0=y0)) w:=by
 have e:(x0 == y0)=decide (x0=y0):=by
  rw[avg,decide_eq_true_eq];constructor
  ·intro h;have h':(x0.data == y0.data)=true:=h;exact ByteArray.ext (by simpa using h')
  ·intro h;subst h;show(x0.data == x0.data)=true;simp
 simp[Op.equalIn,run_underlying Tryz.underlying9,e]
theorem agm(d:Nat)(x0 x1 x2 x3 x4 x5 x6 x7 x8 x9 qh qg y0 y1 y2 y3 y4 y5 y6 y7 y8 y9 DS DR:Int)(x10 uI:ByteArray)(w:World):(Op.equalIn (d+3) 84 (.agg #[.int .i64 x0,.int .u64 x1,.int .u64 x2,.int .u64 x3,.int .u64 x4,.int .u64 x5,.int .u64 x6,.int .u64 x7,.int .u64 x8,.int .i64 x9,.string x10,.int .i64 qh,.int .i64 qg]) (.agg #[.int .i64 y0,.int .u64 y1,.int .u64 y2,.int .u64 y3,.int .u64 y4,.int .u64 y5,.int .u64 y6,.int .u64 y7,.int .u64 y8,.int .i64 y9,.string uI,.int .i64 DS,.int .i64 DR])).run Tryz.prog w=.ok (decide (x0=y0∧x1=y1∧x2=y2∧x3=y3∧x4=y4∧x5=y5∧x6=y6∧x7=y7∧x8=y8∧x9=y9∧x10=uI∧qh=DS∧qg=DR)) w:=by
 have hf:(Tryz.prog.fieldsOf 84).toList.map (fun f=>(f.type,f.offset))=[(3,0),(54,1),(54,5),(3,9),(9,10),(3,11),(3,12)]:=by kernel_rfl
 have hq:(Op.eqFields (d+2) #[.int .i64 x0,.int .u64 x1,.int .u64 x2,.int .u64 x3,.int .u64 x4,.int .u64 x5,.int .u64 x6,.int .u64 x7,.int .u64 x8,.int .i64 x9,.string x10,.int .i64 qh,.int .i64 qg] #[.int .i64 y0,.int .u64 y1,.int .u64 y2,.int .u64 y3,.int .u64 y4,.int .u64 y5,.int .u64 y6,.int .u64 y7,.int .u64 y8,.int .i64 y9,.string uI,.int .i64 DS,.int .i64 DR] (Tryz.prog.fieldsOf 84).toList).run Tryz.prog w=.ok ([decide (x0=y0),decide (x1=y1∧x2=y2∧x3=y3∧x4=y4),decide (x5=y5∧x6=y6∧x7=y7∧x8=y8),decide (x9=y9),decide (x10=uI),decide (qh=DS),decide (qg=DR)].all id) w:=by
  refine dI _ _ (by kernel_rfl) (by kernel_rfl) fun i f r hi hr=>?_
  have hm:=congrArg (fun z:List (Nat×Nat)=>z[i]?) hf;simp only[avd,hi,Option.map_some] at hm;have hlt:i<7:=(au_.1 hr).1
  match i,hlt with
  | 0,_=>
   obtain⟨h1,h2⟩:=ave (avf hm);obtain rfl:=avf hr;rw[h1,h2];exact⟨.int .i64 x0,.int .i64 y0,by kernel_rfl,by kernel_rfl,sI (d+1) x0 y0 w⟩
  | 1,_=>
   obtain⟨h1,h2⟩:=ave (avf hm);obtain rfl:=avf hr;rw[h1,h2];exact⟨.agg #[.int .u64 x1,.int .u64 x2,.int .u64 x3,.int .u64 x4],.agg #[.int .u64 y1,.int .u64 y2,.int .u64 y3,.int .u64 y4],by kernel_rfl,by kernel_rfl,mG d x1 x2 x3 x4 y1 y2 y3 y4 w⟩
  | 2,_=>
   obtain⟨h1,h2⟩:=ave (avf hm);obtain rfl:=avf hr;rw[h1,h2];exact⟨.agg #[.int .u64 x5,.int .u64 x6,.int .u64 x7,.int .u64 x8],.agg #[.int .u64 y5,.int .u64 y6,.int .u64 y7,.int .u64 y8],by kernel_rfl,by kernel_rfl,mG d x5 x6 x7 x8 y5 y6 y7 y8 w⟩
  | 3,_=>
   obtain⟨h1,h2⟩:=ave (avf hm);obtain rfl:=avf hr;rw[h1,h2];exact⟨.int .i64 x9,.int .i64 y9,by kernel_rfl,by kernel_rfl,sI (d+1) x9 y9 w⟩
  | 4,_=>
   obtain⟨h1,h2⟩:=ave (avf hm);obtain rfl:=avf hr;rw[h1,h2];exact⟨.string x10,.string uI,by kernel_rfl,by kernel_rfl,Kz (d+1) x10 uI w⟩
  | 5,_=>
   obtain⟨h1,h2⟩:=ave (avf hm);obtain rfl:=avf hr;rw[h1,h2];exact⟨.int .i64 qh,.int .i64 DS,by kernel_rfl,by kernel_rfl,sI (d+1) qh DS w⟩
  | 6,_=>
   obtain⟨h1,h2⟩:=ave (avf hm);obtain rfl:=avf hr;rw[h1,h2];exact⟨.int .i64 qg,.int .i64 DR,by kernel_rfl,by kernel_rfl,sI (d+1) qg DR w⟩
 rw[show d+3=(d+2)+1 from rfl,run_equalIn_agg w (d+2) 84 _ _ (by kernel_rfl) (by kernel_rfl),hq];congr 1;rw[avg];simp[and_assoc]
theorem WT(d:Nat)(x0 x1 y0 y1:Int)(w:World):(Op.equalIn (d+2) 70 (.agg #[.int .i64 x0,.int .u64 x1]) (.agg #[.int .i64 y0,.int .u64 y1])).run Tryz.prog w=.ok (decide (x0=y0∧x1=y1)) w:=by
 have hf:(Tryz.prog.fieldsOf 70).toList.map (fun f=>(f.type,f.offset))=[(3,0),(52,1)]:=by kernel_rfl
 have hq:(Op.eqFields (d+1) #[.int .i64 x0,.int .u64 x1] #[.int .i64 y0,.int .u64 y1] (Tryz.prog.fieldsOf 70).toList).run Tryz.prog w=.ok ([decide (x0=y0),decide (x1=y1)].all id) w:=by
  refine dI _ _ (by kernel_rfl) (by kernel_rfl) fun i f r hi hr=>?_
  have hm:=congrArg (fun z:List (Nat×Nat)=>z[i]?) hf;simp only[avd,hi,Option.map_some] at hm;have hlt:i<2:=(au_.1 hr).1
  match i,hlt with
  | 0,_=>
   obtain⟨h1,h2⟩:=ave (avf hm);obtain rfl:=avf hr;rw[h1,h2];exact⟨.int .i64 x0,.int .i64 y0,by kernel_rfl,by kernel_rfl,sI d x0 y0 w⟩
  | 1,_=>
   obtain⟨h1,h2⟩:=ave (avf hm);obtain rfl:=avf hr;rw[h1,h2];exact⟨.int .u64 x1,.int .u64 y1,by kernel_rfl,by kernel_rfl,aaT d x1 y1 w⟩
 rw[show d+2=(d+1)+1 from rfl,run_equalIn_agg w (d+1) 70 _ _ (by kernel_rfl) (by kernel_rfl),hq];congr 1;rw[avg];simp
theorem WS(d:Nat)(x0 x1 x2 x3 y0 y1 y2 y3:Int)(w:World):(Op.equalIn (d+3) 72 (.agg #[.int .i64 x0,.int .u64 x1,.int .i64 x2,.int .u64 x3]) (.agg #[.int .i64 y0,.int .u64 y1,.int .i64 y2,.int .u64 y3])).run Tryz.prog w=.ok (decide (x0=y0∧x1=y1∧x2=y2∧x3=y3)) w:=by
 have hf:(Tryz.prog.fieldsOf 72).toList.map (fun f=>(f.type,f.offset))=[(70,0),(70,2)]:=by kernel_rfl
 have hq:(Op.eqFields (d+2) #[.int .i64 x0,.int .u64 x1,.int .i64 x2,.int .u64 x3] #[.int .i64 y0,.int .u64 y1,.int .i64 y2,.int .u64 y3] (Tryz.prog.fieldsOf 72).toList).run Tryz.prog w=.ok ([decide (x0=y0∧x1=y1),decide (x2=y2∧x3=y3)].all id) w:=by
  refine dI _ _ (by kernel_rfl) (by kernel_rfl) fun i f r hi hr=>?_
  have hm:=congrArg (fun z:List (Nat×Nat)=>z[i]?) hf;simp only[avd,hi,Option.map_some] at hm;have hlt:i<2:=(au_.1 hr).1
  match i,hlt with
  | 0,_=>
   obtain⟨h1,h2⟩:=ave (avf hm);obtain rfl:=avf hr;rw[h1,h2];exact⟨.agg #[.int .i64 x0,.int .u64 x1],.agg #[.int .i64 y0,.int .u64 y1],by kernel_rfl,by kernel_rfl,WT d x0 x1 y0 y1 w⟩
  | 1,_=>
   obtain⟨h1,h2⟩:=ave (avf hm);obtain rfl:=avf hr;rw[h1,h2];exact⟨.agg #[.int .i64 x2,.int .u64 x3],.agg #[.int .i64 y2,.int .u64 y3],by kernel_rfl,by kernel_rfl,WT d x2 x3 y2 y3 w⟩
 rw[show d+3=(d+2)+1 from rfl,run_equalIn_agg w (d+2) 72 _ _ (by kernel_rfl) (by kernel_rfl),hq];congr 1;rw[avg];simp[and_assoc]
theorem aaS(d:Nat)(x0 x1 x2 x3 x4 x5 x6 y0 y1 y2 y3 y4 y5 y6:Int)(w:World):(Op.equalIn (d+4) 74 (.agg #[.int .i64 x0,.int .i64 x1,.int .i64 x2,.int .i64 x3,.int .u64 x4,.int .i64 x5,.int .u64 x6]) (.agg #[.int .i64 y0,.int .i64 y1,.int .i64 y2,.int .i64 y3,.int .u64 y4,.int .i64 y5,.int .u64 y6])).run Tryz.prog w=.ok (decide (x0=y0∧x1=y1∧x2=y2∧x3=y3∧x4=y4∧x5=y5∧x6=y6)) w:=by
 have hf:(Tryz.prog.fieldsOf 74).toList.map (fun f=>(f.type,f.offset))=[(3,0),(3,1),(3,2),(72,3)]:=by kernel_rfl
 have hq:(Op.eqFields (d+3) #[.int .i64 x0,.int .i64 x1,.int .i64 x2,.int .i64 x3,.int .u64 x4,.int .i64 x5,.int .u64 x6] #[.int .i64 y0,.int .i64 y1,.int .i64 y2,.int .i64 y3,.int .u64 y4,.int .i64 y5,.int .u64 y6] (Tryz.prog.fieldsOf 74).toList).run Tryz.prog w=.ok ([decide (x0=y0),decide (x1=y1),decide (x2=y2),decide (x3=y3∧x4=y4∧x5=y5∧x6=y6)].all id) w:=by
  refine dI _ _ (by kernel_rfl) (by kernel_rfl) fun i f r hi hr=>?_
  have hm:=congrArg (fun z:List (Nat×Nat)=>z[i]?) hf;simp only[avd,hi,Option.map_some] at hm;have hlt:i<4:=(au_.1 hr).1
  match i,hlt with
  | 0,_=>
   obtain⟨h1,h2⟩:=ave (avf hm);obtain rfl:=avf hr;rw[h1,h2];exact⟨.int .i64 x0,.int .i64 y0,by kernel_rfl,by kernel_rfl,sI (d+2) x0 y0 w⟩
  | 1,_=>
   obtain⟨h1,h2⟩:=ave (avf hm);obtain rfl:=avf hr;rw[h1,h2];exact⟨.int .i64 x1,.int .i64 y1,by kernel_rfl,by kernel_rfl,sI (d+2) x1 y1 w⟩
  | 2,_=>
   obtain⟨h1,h2⟩:=ave (avf hm);obtain rfl:=avf hr;rw[h1,h2];exact⟨.int .i64 x2,.int .i64 y2,by kernel_rfl,by kernel_rfl,sI (d+2) x2 y2 w⟩
  | 3,_=>
   obtain⟨h1,h2⟩:=ave (avf hm);obtain rfl:=avf hr;rw[h1,h2];exact⟨.agg #[.int .i64 x3,.int .u64 x4,.int .i64 x5,.int .u64 x6],.agg #[.int .i64 y3,.int .u64 y4,.int .i64 y5,.int .u64 y6],by kernel_rfl,by kernel_rfl,WS d x3 x4 x5 x6 y3 y4 y5 y6 w⟩
 rw[show d+4=(d+3)+1 from rfl,run_equalIn_agg w (d+3) 74 _ _ (by kernel_rfl) (by kernel_rfl),hq];congr 1;rw[avg];simp
theorem adh(d:Nat)(x1 x2 x3 x4 x5 x6 x7 y1 y2 y3 y4 y5 y6 y7:Int)(x0 y0:ByteArray)(w:World):(Op.equalIn (d+5) 125 (.agg #[.string x0,.int .i64 x1,.int .i64 x2,.int .i64 x3,.int .i64 x4,.int .u64 x5,.int .i64 x6,.int .u64 x7]) (.agg #[.string y0,.int .i64 y1,.int .i64 y2,.int .i64 y3,.int .i64 y4,.int .u64 y5,.int .i64 y6,.int .u64 y7])).run Tryz.prog w=.ok (decide (x0=y0∧x1=y1∧x2=y2∧x3=y3∧x4=y4∧x5=y5∧x6=y6∧x7=y7)) w:=by
 have hf:(Tryz.prog.fieldsOf 125).toList.map (fun f=>(f.type,f.offset))=[(9,0),(74,1)]:=by kernel_rfl
 have hq:(Op.eqFields (d+4) #[.string x0,.int .i64 x1,.int .i64 x2,.int .i64 x3,.int .i64 x4,.int .u64 x5,.int .i64 x6,.int .u64 x7] #[.string y0,.int .i64 y1,.int .i64 y2,.int .i64 y3,.int .i64 y4,.int .u64 y5,.int .i64 y6,.int .u64 y7] (Tryz.prog.fieldsOf 125).toList).run Tryz.prog w=.ok ([decide (x0=y0),decide (x1=y1∧x2=y2∧x3=y3∧x4=y4∧x5=y5∧x6=y6∧x7=y7)].all id) w:=by
  refine dI _ _ (by kernel_rfl) (by kernel_rfl) fun i f r hi hr=>?_
  have hm:=congrArg (fun z:List (Nat×Nat)=>z[i]?) hf;simp only[avd,hi,Option.map_some] at hm;have hlt:i<2:=(au_.1 hr).1
  match i,hlt with
  | 0,_=>
   obtain⟨h1,h2⟩:=ave (avf hm);obtain rfl:=avf hr;rw[h1,h2];exact⟨.string x0,.string y0,by kernel_rfl,by kernel_rfl,Kz (d+3) x0 y0 w⟩
  | 1,_=>
   obtain⟨h1,h2⟩:=ave (avf hm);obtain rfl:=avf hr;rw[h1,h2];exact⟨.agg #[.int .i64 x1,.int .i64 x2,.int .i64 x3,.int .i64 x4,.int .u64 x5,.int .i64 x6,.int .u64 x7],.agg #[.int .i64 y1,.int .i64 y2,.int .i64 y3,.int .i64 y4,.int .u64 y5,.int .i64 y6,.int .u64 y7],by kernel_rfl,by kernel_rfl,aaS d x1 x2 x3 x4 x5 x6 x7 y1 y2 y3 y4 y5 y6 y7 w⟩
 rw[show d+5=(d+4)+1 from rfl,run_equalIn_agg w (d+4) 125 _ _ (by kernel_rfl) (by kernel_rfl),hq];congr 1;rw[avg];simp
theorem adg(d:Nat)(x1 x2 x3 x4 x5 x6 x7 x8 y1 y2 y3 y4 y5 y6 y7 y8:Int)(x0 y0:ByteArray)(w:World):(Op.equalIn (d+5) 127 (.agg #[.string x0,.int .i64 x1,.int .i64 x2,.int .i64 x3,.int .i64 x4,.int .i64 x5,.int .u64 x6,.int .i64 x7,.int .u64 x8]) (.agg #[.string y0,.int .i64 y1,.int .i64 y2,.int .i64 y3,.int .i64 y4,.int .i64 y5,.int .u64 y6,.int .i64 y7,.int .u64 y8])).run Tryz.prog w=.ok (decide (x0=y0∧x1=y1∧x2=y2∧x3=y3∧x4=y4∧x5=y5∧x6=y6∧x7=y7∧x8=y8)) w:=by
 have hf:(Tryz.prog.fieldsOf 127).toList.map (fun f=>(f.type,f.offset))=[(9,0),(3,1),(74,2)]:=by kernel_rfl
 have hq:(Op.eqFields (d+4) #[.string x0,.int .i64 x1,.int .i64 x2,.int .i64 x3,.int .i64 x4,.int .i64 x5,.int .u64 x6,.int .i64 x7,.int .u64 x8] #[.string y0,.int .i64 y1,.int .i64 y2,.int .i64 y3,.int .i64 y4,.int .i64 y5,.int .u64 y6,.int .i64 y7,.int .u64 y8] (Tryz.prog.fieldsOf 127).toList).run Tryz.prog w=.ok ([decide (x0=y0),decide (x1=y1),decide (x2=y2∧x3=y3∧x4=y4∧x5=y5∧x6=y6∧x7=y7∧x8=y8)].all id) w:=by
  refine dI _ _ (by kernel_rfl) (by kernel_rfl) fun i f r hi hr=>?_
  have hm:=congrArg (fun z:List (Nat×Nat)=>z[i]?) hf;simp only[avd,hi,Option.map_some] at hm;have hlt:i<3:=(au_.1 hr).1
  match i,hlt with
  | 0,_=>
   obtain⟨h1,h2⟩:=ave (avf hm);obtain rfl:=avf hr;rw[h1,h2];exact⟨.string x0,.string y0,by kernel_rfl,by kernel_rfl,Kz (d+3) x0 y0 w⟩
  | 1,_=>
   obtain⟨h1,h2⟩:=ave (avf hm);obtain rfl:=avf hr;rw[h1,h2];exact⟨.int .i64 x1,.int .i64 y1,by kernel_rfl,by kernel_rfl,sI (d+3) x1 y1 w⟩
  | 2,_=>
   obtain⟨h1,h2⟩:=ave (avf hm);obtain rfl:=avf hr;rw[h1,h2];exact⟨.agg #[.int .i64 x2,.int .i64 x3,.int .i64 x4,.int .i64 x5,.int .u64 x6,.int .i64 x7,.int .u64 x8],.agg #[.int .i64 y2,.int .i64 y3,.int .i64 y4,.int .i64 y5,.int .u64 y6,.int .i64 y7,.int .u64 y8],by kernel_rfl,by kernel_rfl,aaS d x2 x3 x4 x5 x6 x7 x8 y2 y3 y4 y5 y6 y7 y8 w⟩
 rw[show d+5=(d+4)+1 from rfl,run_equalIn_agg w (d+4) 127 _ _ (by kernel_rfl) (by kernel_rfl),hq];congr 1;rw[avg];simp
theorem adf(d:Nat)(x1 x2 x3 x4 x5 x6 x7 x8 x9 y1 y2 y3 y4 y5 y6 y7 y8 y9:Int)(x0 y0:ByteArray)(w:World):(Op.equalIn (d+3) 129 (.agg #[.string x0,.int .i64 x1,.int .u64 x2,.int .u64 x3,.int .u64 x4,.int .u64 x5,.int .u64 x6,.int .u64 x7,.int .u64 x8,.int .u64 x9]) (.agg #[.string y0,.int .i64 y1,.int .u64 y2,.int .u64 y3,.int .u64 y4,.int .u64 y5,.int .u64 y6,.int .u64 y7,.int .u64 y8,.int .u64 y9])).run Tryz.prog w=.ok (decide (x0=y0∧x1=y1∧x2=y2∧x3=y3∧x4=y4∧x5=y5∧x6=y6∧x7=y7∧x8=y8∧x9=y9)) w:=by
 have hf:(Tryz.prog.fieldsOf 129).toList.map (fun f=>(f.type,f.offset))=[(9,0),(3,1),(54,2),(54,6)]:=by kernel_rfl
 have hq:(Op.eqFields (d+2) #[.string x0,.int .i64 x1,.int .u64 x2,.int .u64 x3,.int .u64 x4,.int .u64 x5,.int .u64 x6,.int .u64 x7,.int .u64 x8,.int .u64 x9] #[.string y0,.int .i64 y1,.int .u64 y2,.int .u64 y3,.int .u64 y4,.int .u64 y5,.int .u64 y6,.int .u64 y7,.int .u64 y8,.int .u64 y9] (Tryz.prog.fieldsOf 129).toList).run Tryz.prog w=.ok ([decide (x0=y0),decide (x1=y1),decide (x2=y2∧x3=y3∧x4=y4∧x5=y5),decide (x6=y6∧x7=y7∧x8=y8∧x9=y9)].all id) w:=by
  refine dI _ _ (by kernel_rfl) (by kernel_rfl) fun i f r hi hr=>?_
  have hm:=congrArg (fun z:List (Nat×Nat)=>z[i]?) hf;simp only[avd,hi,Option.map_some] at hm;have hlt:i<4:=(au_.1 hr).1
  match i,hlt with
  | 0,_=>
   obtain⟨h1,h2⟩:=ave (avf hm);obtain rfl:=avf hr;rw[h1,h2];exact⟨.string x0,.string y0,by kernel_rfl,by kernel_rfl,Kz (d+1) x0 y0 w⟩
  | 1,_=>
   obtain⟨h1,h2⟩:=ave (avf hm);obtain rfl:=avf hr;rw[h1,h2];exact⟨.int .i64 x1,.int .i64 y1,by kernel_rfl,by kernel_rfl,sI (d+1) x1 y1 w⟩
  | 2,_=>
   obtain⟨h1,h2⟩:=ave (avf hm);obtain rfl:=avf hr;rw[h1,h2];exact⟨.agg #[.int .u64 x2,.int .u64 x3,.int .u64 x4,.int .u64 x5],.agg #[.int .u64 y2,.int .u64 y3,.int .u64 y4,.int .u64 y5],by kernel_rfl,by kernel_rfl,mG d x2 x3 x4 x5 y2 y3 y4 y5 w⟩
  | 3,_=>
   obtain⟨h1,h2⟩:=ave (avf hm);obtain rfl:=avf hr;rw[h1,h2];exact⟨.agg #[.int .u64 x6,.int .u64 x7,.int .u64 x8,.int .u64 x9],.agg #[.int .u64 y6,.int .u64 y7,.int .u64 y8,.int .u64 y9],by kernel_rfl,by kernel_rfl,mG d x6 x7 x8 x9 y6 y7 y8 y9 w⟩
 rw[show d+3=(d+2)+1 from rfl,run_equalIn_agg w (d+2) 129 _ _ (by kernel_rfl) (by kernel_rfl),hq];congr 1;rw[avg];simp[and_assoc]
theorem ade(d:Nat)(x1 x2 x3 x4 y1 y2 y3 y4:Int)(x0 y0:ByteArray)(w:World):(Op.equalIn (d+3) 184 (.agg #[.string x0,.int .u64 x1,.int .u64 x2,.int .u64 x3,.int .u64 x4]) (.agg #[.string y0,.int .u64 y1,.int .u64 y2,.int .u64 y3,.int .u64 y4])).run Tryz.prog w=.ok (decide (x0=y0∧x1=y1∧x2=y2∧x3=y3∧x4=y4)) w:=by
 have hf:(Tryz.prog.fieldsOf 184).toList.map (fun f=>(f.type,f.offset))=[(9,0),(54,1)]:=by kernel_rfl
 have hq:(Op.eqFields (d+2) #[.string x0,.int .u64 x1,.int .u64 x2,.int .u64 x3,.int .u64 x4] #[.string y0,.int .u64 y1,.int .u64 y2,.int .u64 y3,.int .u64 y4] (Tryz.prog.fieldsOf 184).toList).run Tryz.prog w=.ok ([decide (x0=y0),decide (x1=y1∧x2=y2∧x3=y3∧x4=y4)].all id) w:=by
  refine dI _ _ (by kernel_rfl) (by kernel_rfl) fun i f r hi hr=>?_
  have hm:=congrArg (fun z:List (Nat×Nat)=>z[i]?) hf;simp only[avd,hi,Option.map_some] at hm;have hlt:i<2:=(au_.1 hr).1
  match i,hlt with
  | 0,_=>
   obtain⟨h1,h2⟩:=ave (avf hm);obtain rfl:=avf hr;rw[h1,h2];exact⟨.string x0,.string y0,by kernel_rfl,by kernel_rfl,Kz (d+1) x0 y0 w⟩
  | 1,_=>
   obtain⟨h1,h2⟩:=ave (avf hm);obtain rfl:=avf hr;rw[h1,h2];exact⟨.agg #[.int .u64 x1,.int .u64 x2,.int .u64 x3,.int .u64 x4],.agg #[.int .u64 y1,.int .u64 y2,.int .u64 y3,.int .u64 y4],by kernel_rfl,by kernel_rfl,mG d x1 x2 x3 x4 y1 y2 y3 y4 w⟩
 rw[show d+3=(d+2)+1 from rfl,run_equalIn_agg w (d+2) 184 _ _ (by kernel_rfl) (by kernel_rfl),hq];congr 1;rw[avg];simp
theorem WU(d:Nat)(x1 x2 x3 x4 x5 x6 x7 x8 y1 y2 y3 y4 y5 y6 y7 y8:Int)(x0 y0:ByteArray)(w:World):(Op.equalIn (d+3) 188 (.agg #[.string x0,.int .u64 x1,.int .u64 x2,.int .u64 x3,.int .u64 x4,.int .u64 x5,.int .u64 x6,.int .u64 x7,.int .u64 x8]) (.agg #[.string y0,.int .u64 y1,.int .u64 y2,.int .u64 y3,.int .u64 y4,.int .u64 y5,.int .u64 y6,.int .u64 y7,.int .u64 y8])).run Tryz.prog w=.ok (decide (x0=y0∧x1=y1∧x2=y2∧x3=y3∧x4=y4∧x5=y5∧x6=y6∧x7=y7∧x8=y8)) w:=by
 have hf:(Tryz.prog.fieldsOf 188).toList.map (fun f=>(f.type,f.offset))=[(9,0),(54,1),(54,5)]:=by kernel_rfl
 have hq:(Op.eqFields (d+2) #[.string x0,.int .u64 x1,.int .u64 x2,.int .u64 x3,.int .u64 x4,.int .u64 x5,.int .u64 x6,.int .u64 x7,.int .u64 x8] #[.string y0,.int .u64 y1,.int .u64 y2,.int .u64 y3,.int .u64 y4,.int .u64 y5,.int .u64 y6,.int .u64 y7,.int .u64 y8] (Tryz.prog.fieldsOf 188).toList).run Tryz.prog w=.ok ([decide (x0=y0),decide (x1=y1∧x2=y2∧x3=y3∧x4=y4),decide (x5=y5∧x6=y6∧x7=y7∧x8=y8)].all id) w:=by
  refine dI _ _ (by kernel_rfl) (by kernel_rfl) fun i f r hi hr=>?_
  have hm:=congrArg (fun z:List (Nat×Nat)=>z[i]?) hf;simp only[avd,hi,Option.map_some] at hm;have hlt:i<3:=(au_.1 hr).1
  match i,hlt with
  | 0,_=>
   obtain⟨h1,h2⟩:=ave (avf hm);obtain rfl:=avf hr;rw[h1,h2];exact⟨.string x0,.string y0,by kernel_rfl,by kernel_rfl,Kz (d+1) x0 y0 w⟩
  | 1,_=>
   obtain⟨h1,h2⟩:=ave (avf hm);obtain rfl:=avf hr;rw[h1,h2];exact⟨.agg #[.int .u64 x1,.int .u64 x2,.int .u64 x3,.int .u64 x4],.agg #[.int .u64 y1,.int .u64 y2,.int .u64 y3,.int .u64 y4],by kernel_rfl,by kernel_rfl,mG d x1 x2 x3 x4 y1 y2 y3 y4 w⟩
  | 2,_=>
   obtain⟨h1,h2⟩:=ave (avf hm);obtain rfl:=avf hr;rw[h1,h2];exact⟨.agg #[.int .u64 x5,.int .u64 x6,.int .u64 x7,.int .u64 x8],.agg #[.int .u64 y5,.int .u64 y6,.int .u64 y7,.int .u64 y8],by kernel_rfl,by kernel_rfl,mG d x5 x6 x7 x8 y5 y6 y7 y8 w⟩
 rw[show d+3=(d+2)+1 from rfl,run_equalIn_agg w (d+2) 188 _ _ (by kernel_rfl) (by kernel_rfl),hq];congr 1;rw[avg];simp[and_assoc]
theorem adb(d:Nat)(x1 x2 x3 x4 x5 x6 x7 x8 x9 x10 y1 y2 y3 y4 y5 y6 y7 y8 y9 uI:Int)(x0 y0:ByteArray)(w:World):(Op.equalIn (d+4) 192 (.agg #[.string x0,.int .u64 x1,.int .u64 x2,.int .u64 x3,.int .u64 x4,.int .i64 x5,.int .u64 x6,.int .i64 x7,.int .u64 x8,.int .i64 x9,.int .u64 x10]) (.agg #[.string y0,.int .u64 y1,.int .u64 y2,.int .u64 y3,.int .u64 y4,.int .i64 y5,.int .u64 y6,.int .i64 y7,.int .u64 y8,.int .i64 y9,.int .u64 uI])).run Tryz.prog w=.ok (decide (x0=y0∧x1=y1∧x2=y2∧x3=y3∧x4=y4∧x5=y5∧x6=y6∧x7=y7∧x8=y8∧x9=y9∧x10=uI)) w:=by
 have hf:(Tryz.prog.fieldsOf 192).toList.map (fun f=>(f.type,f.offset))=[(9,0),(54,1),(70,5),(72,7)]:=by kernel_rfl
 have hq:(Op.eqFields (d+3) #[.string x0,.int .u64 x1,.int .u64 x2,.int .u64 x3,.int .u64 x4,.int .i64 x5,.int .u64 x6,.int .i64 x7,.int .u64 x8,.int .i64 x9,.int .u64 x10] #[.string y0,.int .u64 y1,.int .u64 y2,.int .u64 y3,.int .u64 y4,.int .i64 y5,.int .u64 y6,.int .i64 y7,.int .u64 y8,.int .i64 y9,.int .u64 uI] (Tryz.prog.fieldsOf 192).toList).run Tryz.prog w=.ok ([decide (x0=y0),decide (x1=y1∧x2=y2∧x3=y3∧x4=y4),decide (x5=y5∧x6=y6),decide (x7=y7∧x8=y8∧x9=y9∧x10=uI)].all id) w:=by
  refine dI _ _ (by kernel_rfl) (by kernel_rfl) fun i f r hi hr=>?_
  have hm:=congrArg (fun z:List (Nat×Nat)=>z[i]?) hf;simp only[avd,hi,Option.map_some] at hm;have hlt:i<4:=(au_.1 hr).1
  match i,hlt with
  | 0,_=>
   obtain⟨h1,h2⟩:=ave (avf hm);obtain rfl:=avf hr;rw[h1,h2];exact⟨.string x0,.string y0,by kernel_rfl,by kernel_rfl,Kz (d+2) x0 y0 w⟩
  | 1,_=>
   obtain⟨h1,h2⟩:=ave (avf hm);obtain rfl:=avf hr;rw[h1,h2];exact⟨.agg #[.int .u64 x1,.int .u64 x2,.int .u64 x3,.int .u64 x4],.agg #[.int .u64 y1,.int .u64 y2,.int .u64 y3,.int .u64 y4],by kernel_rfl,by kernel_rfl,mG (d+1) x1 x2 x3 x4 y1 y2 y3 y4 w⟩
  | 2,_=>
   obtain⟨h1,h2⟩:=ave (avf hm);obtain rfl:=avf hr;rw[h1,h2];exact⟨.agg #[.int .i64 x5,.int .u64 x6],.agg #[.int .i64 y5,.int .u64 y6],by kernel_rfl,by kernel_rfl,WT (d+1) x5 x6 y5 y6 w⟩
  | 3,_=>
   obtain⟨h1,h2⟩:=ave (avf hm);obtain rfl:=avf hr;rw[h1,h2];exact⟨.agg #[.int .i64 x7,.int .u64 x8,.int .i64 x9,.int .u64 x10],.agg #[.int .i64 y7,.int .u64 y8,.int .i64 y9,.int .u64 uI],by kernel_rfl,by kernel_rfl,WS d x7 x8 x9 x10 y7 y8 y9 uI w⟩
 rw[show d+4=(d+3)+1 from rfl,run_equalIn_agg w (d+3) 192 _ _ (by kernel_rfl) (by kernel_rfl),hq];congr 1;rw[avg];simp[and_assoc]
theorem ada(d:Nat)(x1 y1:Bool)(x0 y0:ByteArray)(w:World):(Op.equalIn (d+2) 197 (.agg #[.string x0,.bool x1]) (.agg #[.string y0,.bool y1])).run Tryz.prog w=.ok (decide (x0=y0∧x1=y1)) w:=by
 have hf:(Tryz.prog.fieldsOf 197).toList.map (fun f=>(f.type,f.offset))=[(9,0),(4,1)]:=by kernel_rfl
 have hq:(Op.eqFields (d+1) #[.string x0,.bool x1] #[.string y0,.bool y1] (Tryz.prog.fieldsOf 197).toList).run Tryz.prog w=.ok ([decide (x0=y0),decide (x1=y1)].all id) w:=by
  refine dI _ _ (by kernel_rfl) (by kernel_rfl) fun i f r hi hr=>?_
  have hm:=congrArg (fun z:List (Nat×Nat)=>z[i]?) hf;simp only[avd,hi,Option.map_some] at hm;have hlt:i<2:=(au_.1 hr).1
  match i,hlt with
  | 0,_=>
   obtain⟨h1,h2⟩:=ave (avf hm);obtain rfl:=avf hr;rw[h1,h2];exact⟨.string x0,.string y0,by kernel_rfl,by kernel_rfl,Kz d x0 y0 w⟩
  | 1,_=>
   obtain⟨h1,h2⟩:=ave (avf hm);obtain rfl:=avf hr;rw[h1,h2];exact⟨.bool x1,.bool y1,by kernel_rfl,by kernel_rfl,agq d x1 y1 w⟩
 rw[show d+2=(d+1)+1 from rfl,run_equalIn_agg w (d+1) 197 _ _ (by kernel_rfl) (by kernel_rfl),hq];congr 1;rw[avg];simp
theorem ac_(d:Nat)(x0 x1 x2 x3 x4 x5 x6 x7 x8 x9 y0 y1 y2 y3 y4 y5 y6 y7 y8 y9:Int)(w:World):(Op.equalIn (d+3) 203 (.agg #[.int .u64 x0,.int .u64 x1,.int .u64 x2,.int .u64 x3,.int .u64 x4,.int .u64 x5,.int .u64 x6,.int .u64 x7,.int .i64 x8,.int .i64 x9]) (.agg #[.int .u64 y0,.int .u64 y1,.int .u64 y2,.int .u64 y3,.int .u64 y4,.int .u64 y5,.int .u64 y6,.int .u64 y7,.int .i64 y8,.int .i64 y9])).run Tryz.prog w=.ok (decide (x0=y0∧x1=y1∧x2=y2∧x3=y3∧x4=y4∧x5=y5∧x6=y6∧x7=y7∧x8=y8∧x9=y9)) w:=by
 have hf:(Tryz.prog.fieldsOf 203).toList.map (fun f=>(f.type,f.offset))=[(54,0),(54,4),(3,8),(3,9)]:=by kernel_rfl
 have hq:(Op.eqFields (d+2) #[.int .u64 x0,.int .u64 x1,.int .u64 x2,.int .u64 x3,.int .u64 x4,.int .u64 x5,.int .u64 x6,.int .u64 x7,.int .i64 x8,.int .i64 x9] #[.int .u64 y0,.int .u64 y1,.int .u64 y2,.int .u64 y3,.int .u64 y4,.int .u64 y5,.int .u64 y6,.int .u64 y7,.int .i64 y8,.int .i64 y9] (Tryz.prog.fieldsOf 203).toList).run Tryz.prog w=.ok ([decide (x0=y0∧x1=y1∧x2=y2∧x3=y3),decide (x4=y4∧x5=y5∧x6=y6∧x7=y7),decide (x8=y8),decide (x9=y9)].all id) w:=by
  refine dI _ _ (by kernel_rfl) (by kernel_rfl) fun i f r hi hr=>?_
  have hm:=congrArg (fun z:List (Nat×Nat)=>z[i]?) hf;simp only[avd,hi,Option.map_some] at hm;have hlt:i<4:=(au_.1 hr).1
  match i,hlt with
  | 0,_=>
   obtain⟨h1,h2⟩:=ave (avf hm);obtain rfl:=avf hr;rw[h1,h2];exact⟨.agg #[.int .u64 x0,.int .u64 x1,.int .u64 x2,.int .u64 x3],.agg #[.int .u64 y0,.int .u64 y1,.int .u64 y2,.int .u64 y3],by kernel_rfl,by kernel_rfl,mG d x0 x1 x2 x3 y0 y1 y2 y3 w⟩
  | 1,_=>
   obtain⟨h1,h2⟩:=ave (avf hm);obtain rfl:=avf hr;rw[h1,h2];exact⟨.agg #[.int .u64 x4,.int .u64 x5,.int .u64 x6,.int .u64 x7],.agg #[.int .u64 y4,.int .u64 y5,.int .u64 y6,.int .u64 y7],by kernel_rfl,by kernel_rfl,mG d x4 x5 x6 x7 y4 y5 y6 y7 w⟩
  | 2,_=>
   obtain⟨h1,h2⟩:=ave (avf hm);obtain rfl:=avf hr;rw[h1,h2];exact⟨.int .i64 x8,.int .i64 y8,by kernel_rfl,by kernel_rfl,sI (d+1) x8 y8 w⟩
  | 3,_=>
   obtain⟨h1,h2⟩:=ave (avf hm);obtain rfl:=avf hr;rw[h1,h2];exact⟨.int .i64 x9,.int .i64 y9,by kernel_rfl,by kernel_rfl,sI (d+1) x9 y9 w⟩
 rw[show d+3=(d+2)+1 from rfl,run_equalIn_agg w (d+2) 203 _ _ (by kernel_rfl) (by kernel_rfl),hq];congr 1;rw[avg];simp[and_assoc]
theorem ac9(d:Nat)(x0 x1 x2 x3 x4 x5 x6 x7 x8 x9 x10 qh qg y0 y1 y2 y3 y4 y5 y6 y7 y8 y9 uI DS DR:Int)(w:World):(Op.equalIn (d+4) 205 (.agg #[.int .u64 x0,.int .u64 x1,.int .u64 x2,.int .u64 x3,.int .u64 x4,.int .u64 x5,.int .u64 x6,.int .u64 x7,.int .i64 x8,.int .i64 x9,.int .u64 x10,.int .i64 qh,.int .u64 qg]) (.agg #[.int .u64 y0,.int .u64 y1,.int .u64 y2,.int .u64 y3,.int .u64 y4,.int .u64 y5,.int .u64 y6,.int .u64 y7,.int .i64 y8,.int .i64 y9,.int .u64 uI,.int .i64 DS,.int .u64 DR])).run Tryz.prog w=.ok (decide (x0=y0∧x1=y1∧x2=y2∧x3=y3∧x4=y4∧x5=y5∧x6=y6∧x7=y7∧x8=y8∧x9=y9∧x10=uI∧qh=DS∧qg=DR)) w:=by
 have hf:(Tryz.prog.fieldsOf 205).toList.map (fun f=>(f.type,f.offset))=[(54,0),(54,4),(3,8),(72,9)]:=by kernel_rfl
 have hq:(Op.eqFields (d+3) #[.int .u64 x0,.int .u64 x1,.int .u64 x2,.int .u64 x3,.int .u64 x4,.int .u64 x5,.int .u64 x6,.int .u64 x7,.int .i64 x8,.int .i64 x9,.int .u64 x10,.int .i64 qh,.int .u64 qg] #[.int .u64 y0,.int .u64 y1,.int .u64 y2,.int .u64 y3,.int .u64 y4,.int .u64 y5,.int .u64 y6,.int .u64 y7,.int .i64 y8,.int .i64 y9,.int .u64 uI,.int .i64 DS,.int .u64 DR] (Tryz.prog.fieldsOf 205).toList).run Tryz.prog w=.ok ([decide (x0=y0∧x1=y1∧x2=y2∧x3=y3),decide (x4=y4∧x5=y5∧x6=y6∧x7=y7),decide (x8=y8),decide (x9=y9∧x10=uI∧qh=DS∧qg=DR)].all id) w:=by
  refine dI _ _ (by kernel_rfl) (by kernel_rfl) fun i f r hi hr=>?_
  have hm:=congrArg (fun z:List (Nat×Nat)=>z[i]?) hf;simp only[avd,hi,Option.map_some] at hm;have hlt:i<4:=(au_.1 hr).1
  match i,hlt with
  | 0,_=>
   obtain⟨h1,h2⟩:=ave (avf hm);obtain rfl:=avf hr;rw[h1,h2];exact⟨.agg #[.int .u64 x0,.int .u64 x1,.int .u64 x2,.int .u64 x3],.agg #[.int .u64 y0,.int .u64 y1,.int .u64 y2,.int .u64 y3],by kernel_rfl,by kernel_rfl,mG (d+1) x0 x1 x2 x3 y0 y1 y2 y3 w⟩
  | 1,_=>
   obtain⟨h1,h2⟩:=ave (avf hm);obtain rfl:=avf hr;rw[h1,h2];exact⟨.agg #[.int .u64 x4,.int .u64 x5,.int .u64 x6,.int .u64 x7],.agg #[.int .u64 y4,.int .u64 y5,.int .u64 y6,.int .u64 y7],by kernel_rfl,by kernel_rfl,mG (d+1) x4 x5 x6 x7 y4 y5 y6 y7 w⟩
  | 2,_=>
   obtain⟨h1,h2⟩:=ave (avf hm);obtain rfl:=avf hr;rw[h1,h2];exact⟨.int .i64 x8,.int .i64 y8,by kernel_rfl,by kernel_rfl,sI (d+2) x8 y8 w⟩
  | 3,_=>
   obtain⟨h1,h2⟩:=ave (avf hm);obtain rfl:=avf hr;rw[h1,h2];exact⟨.agg #[.int .i64 x9,.int .u64 x10,.int .i64 qh,.int .u64 qg],.agg #[.int .i64 y9,.int .u64 uI,.int .i64 DS,.int .u64 DR],by kernel_rfl,by kernel_rfl,WS d x9 x10 qh qg y9 uI DS DR w⟩
 rw[show d+4=(d+3)+1 from rfl,run_equalIn_agg w (d+3) 205 _ _ (by kernel_rfl) (by kernel_rfl),hq];congr 1;rw[avg];simp[and_assoc]
end Go.Proofs.YtdcofoaihmongaaGreat
namespace Go.Proofs.YtdcofoaihmongaaGreat
open Go Go.RowKit
theorem JC{P:Program}{a:Act}{w:World}{o:Oper}{ty yt:TypeId}{x y:Operand}{q r:Nat}(hq:q<4)(hr:r<64)(ho:o.op=.binOp .quo ty x y yt)(hx:a.eval x=.int .i64 ((64*q+r:Nat):Int))(hy:a.eval y=.int .i64 64):(execOp a.eval o).run P w=.ok (.value (.int .i64 (q:Int))) w:=by
 rw[Xc ho hx hy (by decide),Int.tdiv_eq_ediv_of_nonneg (by omega),show((64*q+r:Nat):Int)/64=q by omega,wrap_i64];constructor<;>omega
theorem UE{x r:Nat}(hx:Bl x)(hr:r<64):bits .or .u64 (x:Int) ((2^r:Nat):Int)=((x|||2^r:Nat):Int):=bits_or_u64_nat _ _ hx (FL hr)
theorem aeJ{P:Program}{a:Act}{w:World}{o:Oper}{ty yt:TypeId}{x y:Operand}{q r:Nat}(hr:r<64)(ho:o.op=.binOp .rem ty x y yt)(hx:a.eval x=.int .i64 ((64*q+r:Nat):Int))(hy:a.eval y=.int .i64 64):(execOp a.eval o).run P w=.ok (.value (.int .i64 (r:Int))) w:=by
 unfold execOp;simp[ho,hx,hy,eqGuard,binOp,Op.intDiv];rw[Int.tmod_eq_emod_of_nonneg (by omega)];omega
theorem aeC{P:Program}{a:Act}{w:World}{o:Oper}{ty yt:TypeId}{x y:Operand}{r:Nat}(hr:r<64)(ho:o.op=.binOp .shl ty x y yt)(hx:a.eval x=.int .u64 1)(hy:a.eval y=.int .i64 (r:Int)):(execOp a.eval o).run P w=.ok (.value (.int .u64 ((2^r:Nat):Int))) w:=by
 rw[ku ho hx hy (by omega) (by simp[IntKind.bits];omega),Int.toNat_natCast,Int.one_mul,Bq hr]
theorem Ov(w:World){q r:Nat}(hq:q<4)(hr:r<64):Calls Tryz.prog 64 #[.int .i64 ((64*q+r:Nat):Int)] w fun e w'=>e=.returned (.int .u64 ((2^r:Nat):Int))∧avc w.heap.size w w':=(ZL w (64*q+r) (by omega)).mono fun _ _ ⟨h1,h2⟩=>⟨by rw[h1,show(64*q+r)%64=r by omega],h2▸avc.refl _ _⟩
theorem xK{n:Int}(h:0≤n∧n<256):∃ q r:Nat,q<4∧r<64∧n=((64*q+r:Nat):Int):=⟨n.toNat/64,n.toNat%64,by omega,by omega,by omega⟩
theorem Bt{s:ay}{q r:Nat}(hq:q<4)(hr:r<64):s.with ((64*q+r:Nat):Int)=s.put q (s.word q|||2^r):=by
 unfold ay.with ay.add;rw[if_pos ⟨by omega,by omega⟩,Int.toNat_natCast,show(64*q+r)/64=q by omega,show(64*q+r)%64=r by omega]
theorem U0(w0:World)(s:ay)(hs:s.Ok)(n:Int):Calls Tryz.prog 130 #[.agg #[.int .u64 s.a,.int .u64 s.b,.int .u64 s.c,.int .u64 s.d],.int .i64 n] w0 fun e w'=>e=.returned (.agg #[.int .u64 (s.with n).a,.int .u64 (s.with n).b,.int .u64 (s.with n).c,.int .u64 (s.with n).d])∧avc w0.heap.size w0 w':=by
 refine bP [] (fn:=Tryz.f130) Tryz.func130 rfl Tryz.ntmps130 rfl<|fun g1 w1 M1=>ei<|an tE fun g2 w2 M2=>an (fun h=>?_) fun h=>lb 1<|an rfl<|lb 0<|an ⟨rfl,rfl⟩ fun w M=>ei (x:=0)<|an rfl fun M=>⟨?_,M.below⟩
 ·obtain⟨q,r,hq,hr,rfl⟩:=xK (n:=n) (by simpa using h);rw[Bt hq hr];clear h;rcases(show q=0∨q=1∨q=2∨q=3 by omega) with rfl|rfl|rfl|rfl
  all_goals
   refine dr (by kernel_rfl)<|ei<|an (fun a w o ho hv=>JC hq hr ho (dU hv) (fE hv))<|ei<|an (fun a w o ho hv=>JC hq hr ho (dU hv) (fE hv))<|ei<|an ⟨rfl,by decide⟩<|lb 1<|an rfl<|cl<|an (fun w' hb M'=>Ov w' hq hr)<|ei<|an (UE (by first|exact hs.a|exact hs.b|exact hs.c|exact hs.d) hr)<|ei<|an ⟨rfl,by decide⟩<|fun w3 pQ M3=>lb 1<|an ⟨rfl,rfl⟩ fun w4 M4=>lb 1<|an rfl<|lb 0<|an ⟨rfl,rfl⟩ fun w5 M5=>ei (x:=0)<|an rfl fun M=>⟨rfl,M.below⟩
 ·rw[show s.with n=s from if_neg (by intro h2;rw[Bool.and_eq_false_iff,decide_eq_false_iff_not,decide_eq_false_iff_not] at h;omega)]
theorem Yg{x r:Nat}(hx:Bl x)(hr:r<64):(!decide (bits .and .u64 (x:Int) ((2^r:Nat):Int)=0))=x.testBit r:=by
 rw[bits_and_u64_nat _ _ hx (FL hr)]
 have h:x&&&2^r=if x.testBit r=true then 2^r else 0:=by
  refine Nat.eq_of_testBit_eq fun j=>?_
  rw[Nat.testBit_and,Nat.testBit_two_pow];by_cases e:r=j
  ·subst e;cases hb:x.testBit r<;>simp
  ·cases hb:x.testBit r<;>simp[e]
 rw[h];have:=Nat.two_pow_pos r
 cases x.testBit r with
 | false=>rw[if_neg (by decide)];rfl
 | true=>rw[if_pos rfl,decide_eq_false (by omega)];rfl
theorem RS{s:ay}{q r:Nat}(hq:q<4)(hr:r<64):s.mem ((64*q+r:Nat):Int)=(s.word q).testBit r:=by
 unfold ay.mem ay.has;rw[decide_eq_true ⟨by omega,by omega⟩,Bool.true_and,Int.toNat_natCast,show(64*q+r)/64=q by omega,show(64*q+r)%64=r by omega]
theorem Pu(w0:World)(s:ay)(hs:s.Ok)(n:Int):Calls Tryz.prog 18 #[.agg #[.int .u64 s.a,.int .u64 s.b,.int .u64 s.c,.int .u64 s.d],.int .i64 n] w0 fun e w'=>e=.returned (.bool (s.mem n))∧avc w0.heap.size w0 w':=by
 by_cases h:0≤n∧n<256
 ·obtain⟨q,r,hq,hr,rfl⟩:=xK h;rw[RS hq hr];rcases(show q=0∨q=1∨q=2∨q=3 by omega) with rfl|rfl|rfl|rfl
  all_goals
   refine bP [] (fn:=Tryz.f18) Tryz.func18 rfl Tryz.ntmps18 rfl<|fun g1 w1 M1=>dr (by kernel_rfl)<|ei<|an (fun _ a w o ho hv=>JC hq hr ho (dU hv) (fE hv))<|ei<|an (fun _=>⟨rfl,by decide⟩)<|lb 0<|an (fun _=>rfl)<|cl<|an (fun _ w' hb M'=>Ov w' hq hr)<|ei<|an (fun _=>rfl)<|fun w3 pQ M3=>fun M=>⟨?_,M.below⟩
   rw[decide_eq_true h.1,decide_eq_true h.2];exact congrArg (fun b=>Ending.returned (.bool b)) (Yg (by first|exact hs.a|exact hs.b|exact hs.c|exact hs.d) hr)
 ·refine bP [] (fn:=Tryz.f18) Tryz.func18 rfl Tryz.ntmps18 rfl<|fun g1 w1 M1=>dr (by kernel_rfl)<|ei (x:=.int .i64 0)<|an (fun h2=>absurd h (by simpa using h2))<|ei (x:=0)<|an (fun h2=>⟨rfl,by decide⟩)<|lb 0<|an (fun _=>rfl)<|cl (v:=.int .u64 0)<|an (fun h2=>absurd h (by simpa using h2))<|ei<|an (fun _=>rfl)<|fun w3 pQ M3=>fun M=>⟨?_,M.below⟩
  rw[show s.mem n=false by unfold ay.mem;rw[decide_eq_false h];rfl]
  have:(decide (0≤n)&&decide (n<256))=false:=by
   rw[Bool.and_eq_false_iff,decide_eq_false_iff_not,decide_eq_false_iff_not];omega
  simp[lS,this]
theorem Rn(w0:World)(s:ay)(hs:s.Ok):Calls Tryz.prog 195 #[.agg #[.int .u64 s.a,.int .u64 s.b,.int .u64 s.c,.int .u64 s.d],.int .i64 0] w0 fun e w'=>e=.returned (.agg #[.int .u64 ((s.a&&&(18446744073709551615-1):Nat):Int),.int .u64 s.b,.int .u64 s.c,.int .u64 s.d])∧avc w0.heap.size w0 w':=by
 exact bP [] (fn:=Tryz.f195) Tryz.func195 rfl Tryz.ntmps195 rfl<|fun g1 w1 M1=>ei<|an tE fun g2 w2 M2=>an (fun _=>dr (by kernel_rfl)<|ei<|an (fun a w o ho hv=>JC (q:=0) (r:=0) (by decide) (by decide) ho (dU hv) (fE hv))<|ei<|an (fun a w o ho hv=>JC (q:=0) (r:=0) (by decide) (by decide) ho (dU hv) (fE hv))<|ei<|an ⟨rfl,by decide⟩<|lb 1<|an rfl<|cl<|an (fun w' hb M'=>Ov w' (q:=0) (r:=0) (by decide) (by decide))<|ei<|an (u64_andNot_nat s.a 1 hs.a (by decide))<|ei<|an ⟨rfl,by decide⟩<|fun w3 pQ M3=>lb 1<|an ⟨rfl,rfl⟩ fun w4 M4=>lb 1<|an rfl<|lb 0<|an ⟨rfl,rfl⟩ fun w5 M5=>ei (x:=0)<|an rfl fun M=>⟨rfl,M.below⟩) fun h=>by simp at h
theorem aeo(w0:World)(s:ay)(hs:s.Ok)(n:Int):Calls Tryz.prog 124 #[.agg #[.int .u64 s.a,.int .u64 s.b,.int .u64 s.c,.int .u64 s.d],.int .i64 n] w0 fun e w'=>e=.returned (.agg #[.int .u64 (s.with n).a,.int .u64 (s.with n).b,.int .u64 (s.with n).c,.int .u64 (s.with n).d])∧avc w0.heap.size w0 w':=by
 by_cases h:0≤n∧n<256
 ·have hin:∀ w:World,Calls Tryz.prog 206 #[.int .i64 n] w fun e w'=>e=.returned (.bool true)∧avc w.heap.size w w':=fun w=>(NN w n h.1 h.2).mono fun _ _ ⟨h1,h2⟩=>⟨h1,h2▸avc.refl _ _⟩
  obtain⟨q,r,hq,hr,rfl⟩:=xK h;rw[Bt hq hr];clear h;rcases(show q=0∨q=1∨q=2∨q=3 by omega) with rfl|rfl|rfl|rfl
  all_goals
   exact bP [] (fn:=Tryz.f124) Tryz.func124 rfl Tryz.ntmps124 rfl<|fun g1 w1 M1=>ei<|an tE fun g2 w2 M2=>cl<|an (hin _) fun w3 M3=>an (fun _=>dr (by kernel_rfl)<|ei<|an (fun a w o ho hv=>JC hq hr ho (dU hv) (fE hv))<|ei<|an ⟨rfl,by decide⟩<|lb 1<|an rfl<|ei<|an (fun a w o ho hv=>aeJ hr ho (dU hv) (fE hv))<|ei<|an (fun a w o ho hv=>aeC hr ho (dU hv) (fE hv))<|ei<|an (UE (by first|exact hs.a|exact hs.b|exact hs.c|exact hs.d) hr)<|ei<|an ⟨rfl,by decide⟩<|fun w3 pQ M3=>lb 1<|an ⟨rfl,rfl⟩ fun w4 M4=>lb 1<|an rfl<|lb 0<|an ⟨rfl,rfl⟩ fun w5 M5=>ei (x:=0)<|an rfl fun M=>⟨rfl,M.below⟩) fun h=>by simp at h
 ·have hin:∀ w:World,Calls Tryz.prog 206 #[.int .i64 n] w fun e w'=>e=.returned (.bool false)∧avc w.heap.size w w':=fun w=>(if h0:0≤n then R8 w n h0 (fun h1=>h ⟨h0,h1⟩) else R7 w n h0:Calls Tryz.prog 206 #[.int .i64 n] w (fun e w'=>e=.returned (.bool false)∧w=w')).mono fun _ _ ⟨h1,h2⟩=>⟨h1,h2▸avc.refl _ _⟩
  rw[show s.with n=s from if_neg h];exact bP [] (fn:=Tryz.f124) Tryz.func124 rfl Tryz.ntmps124 rfl<|fun g1 w1 M1=>ei<|an tE fun g2 w2 M2=>cl<|an (hin _) fun w3 M3=>an (fun h=>by simp at h) fun _=>lb 1<|an rfl<|lb 0<|an ⟨rfl,rfl⟩ fun w5 M5=>ei (x:=0)<|an rfl fun M=>⟨rfl,M.below⟩
theorem of2(w0:World)(v:Value)(l:List Int)(h:SliceAt w0 v 1 l.length (l.map kC)):Calls Tryz.prog 66 #[v] w0 fun e w'=>e=.returned (.agg #[.int .u64 (TP l).a,.int .u64 (TP l).b,.int .u64 (TP l).c,.int .u64 (TP l).d])∧avc w0.heap.size w0 w':=by
 have h0:SliceAt w0 v 1 l.length (l.flatMap fun x=>[kC x]):=List.map_eq_flatMap▸h;clear h;obtain⟨_,_,rfl,-,hm,-⟩:=SliceAt.form h0 (by decide);refine bP [] (fn:=Tryz.f66) Tryz.func66 rfl Tryz.ntmps66 rfl<|ei<|an tE fun g1 w1 M1=>ei (x:=.agg #[.int .u64 0,.int .u64 0,.int .u64 0,.int .u64 0])<|an (bd (by kernel_rfl))<|ei<|an tE fun g2 w2 M2=>lb 0<|an ⟨rfl,rfl⟩ fun w3 M3=>lp (ι:=Nat×ay) (fun(m,s)=>[(4,.int .i64 (m:Int))]) (fun(m,s)=>(g2,54,#[.int .u64 s.a,.int .u64 s.b,.int .u64 s.c,.int .u64 s.d])::_) (fun _=>[]) (fun(m,s) _=>m≤l.length∧s=TP (l.take m)) (fun(m,s)=>l.length-m) (0,ay.zero) (an ⟨⟨rfl,trivial⟩,fun M=>⟨M,avh _,rfl⟩⟩ ?_)
 rintro⟨m,s⟩ w M ⟨hm2,rfl⟩;refine an (fun h=>?_) fun h=>?_
 ·have hlt:m<l.length:=by simp at h;omega
  obtain⟨y,hy⟩:∃ y,l[m]?=some y:=⟨_,ava hlt⟩;obtain⟨b,o,e,hc⟩:=SliceAt.elt h0 (fun _=>rfl) (by decide) hy hlt;exact dr (by kernel_rfl)<|lb 0<|an rfl<|ia<|an ⟨e,rfl,hlt⟩<|lc (x:=.int .i64 y)<|an (bY M.below hc 0 _ rfl)<|cl<|an (fun w' hb' M'=>U0 w' _ (abS _) y)<|fun w4 hb4 M4=>lb 0<|an ⟨rfl,rfl⟩ fun w5 M5=>an (by omega)<|bk (m+1,TP (l.take (m+1))) ⟨rfl,trivial⟩ (fun M=>⟨M.cast (by dsimp only;rw[show TP (l.take (m+1))=(TP (l.take m)).with y by unfold TP;rw[List.take_add_one,hy];simp]) rfl,by omega,rfl⟩) (by dsimp only;omega)
 ·obtain rfl:m=l.length:=by simp at h;omega
  exact lb 0<|an rfl<|lb 1<|an ⟨rfl,rfl⟩ fun w5 M5=>ei (x:=1)<|an rfl fun M=>⟨by dsimp only;rw[avi],M.below⟩
def yN:Nat→ay
 | 0=>ay.zero
 | k+1=>(yN k).with (k:Int)
def ay.all(n:Nat):ay:=yN (min n 256)
theorem Ir:∀ k,(yN k).Ok
 | 0=>Ae
 | k+1=>ay.FE (Ir k) _
theorem Cc(w:World)(n:Nat)(hn:n≤140737488355328):Calls Tryz.prog 104 #[.int .i64 (n:Int)] w fun e w'=>e=.returned (.agg #[.int .u64 (ay.all n).a,.int .u64 (ay.all n).b,.int .u64 (ay.all n).c,.int .u64 (ay.all n).d])∧avc w.heap.size w w':=by
 refine bP [] (fn:=Tryz.f104) Tryz.func104 rfl Tryz.ntmps104 rfl<|ei<|an tE fun g1 w1 M1=>ei (x:=.agg #[.int .u64 0,.int .u64 0,.int .u64 0,.int .u64 0])<|an (bd (by kernel_rfl))<|ei<|an tE fun g2 w2 M2=>lb 0<|an ⟨rfl,rfl⟩ fun w3 M3=>lp (ι:=Nat) (fun k=>[(4,.int .i64 (k:Int))]) (fun k=>[(g2,54,#[.int .u64 (yN k).a,.int .u64 (yN k).b,.int .u64 (yN k).c,.int .u64 (yN k).d]),_]) (fun _=>[]) (fun k _=>k≤n∧k≤256) (fun k=>256-k) 0 (an ⟨⟨rfl,trivial⟩,fun M=>⟨M,avh _,avh _⟩⟩ ?_)
 intro k w M ⟨hk1,hk2⟩;refine an (fun h=>?_) fun h=>?_
 ·simp only[avj,decide_eq_true_eq] at h;exact lb 0<|an rfl<|cl<|an (U0 _ (yN k) (Ir k) k) fun w4 M4=>lb 0<|an ⟨rfl,rfl⟩ fun w5 M5=>an (by omega)<|bk (k+1) ⟨rfl,trivial⟩ (fun M=>⟨M,by omega⟩) (by dsimp only;omega)
 ·obtain rfl:k=min n 256:=by
   rw[Bool.and_eq_false_iff,decide_eq_false_iff_not,decide_eq_false_iff_not] at h;omega
  exact lb 0<|an rfl<|lb 1<|an ⟨rfl,rfl⟩ fun w M=>ei (x:=1)<|an rfl fun M=>⟨rfl,M.below⟩
def sK(x y:Nat):Nat:=x&&&(18446744073709551615-y)
theorem ZP{x:Nat}(hx:Bl x)(y:Nat):Bl (sK x y):=Nat.lt_of_le_of_lt Nat.and_le_left hx
def ay.minus(a b:ay):ay:=⟨sK a.a b.a,sK a.b b.b,sK a.c b.c,sK a.d b.d⟩
theorem ay.Ma(a b:ay){j:Nat}(hj:j<4):(a.minus b).word j=sK (a.word j) (b.word j):=by
 rcases four hj with rfl|rfl|rfl|rfl<;>rfl
def YW(m:Nat)(x y:ay)(i:Nat):Nat:=if i<m then sK (x.word i) (y.word i) else x.word i
theorem MK(w:World)(a b:ay)(ha:a.Ok)(hb:b.Ok):Calls Tryz.prog 194 #[.agg #[.int .u64 a.a,.int .u64 a.b,.int .u64 a.c,.int .u64 a.d],.agg #[.int .u64 b.a,.int .u64 b.b,.int .u64 b.c,.int .u64 b.d]] w fun e w'=>e=.returned (.agg #[.int .u64 (a.minus b).a,.int .u64 (a.minus b).b,.int .u64 (a.minus b).c,.int .u64 (a.minus b).d])∧avc w.heap.size w w':=by
 refine bP [] (fn:=Tryz.f194) Tryz.func194 rfl Tryz.ntmps194 rfl<|fun gx w1 M1=>fun gy w2 M2=>ei<|an tE fun go w3 M3=>lp (ι:=Nat) (fun m=>[(5,.int .i64 (m:Int))]) (fun m=>[(go,54,#[.int .u64 0,.int .u64 0,.int .u64 0,.int .u64 0]),(gy,54,#[.int .u64 b.a,.int .u64 b.b,.int .u64 b.c,.int .u64 b.d]),(gx,54,#[.int .u64 ((YW m a b 0:Nat):Int),.int .u64 ((YW m a b 1:Nat):Int),.int .u64 ((YW m a b 2:Nat):Int),.int .u64 ((YW m a b 3:Nat):Int)])]) (fun _=>[]) (fun m _=>m≤4) (fun m=>4-m) 0 (an ⟨⟨rfl,trivial⟩,fun M=>⟨M,avh _⟩⟩ ?_)
 intro m w M hm;refine an (fun h=>?_) fun h=>?_
 ·have hlt:m<4:=by simp at h;omega
  obtain rfl|rfl|rfl|rfl:m=0∨m=1∨m=2∨m=3:=by omega
  all_goals
   refine dr (by kernel_rfl)<|ei<|an ⟨rfl,by decide⟩<|lb 2<|an rfl<|ei<|an ⟨rfl,by decide⟩<|lb 1<|an rfl<|ei<|an (u64_andNot_nat _ _ (by first|exact ha.a|exact ha.b|exact ha.c|exact ha.d) (by first|exact hb.a|exact hb.b|exact hb.c|exact hb.d))<|ei<|an ⟨rfl,by decide⟩<|fun w hb M=>lb 2<|an ⟨rfl,rfl⟩ fun w M=>an (by omega)<|bk _ ⟨rfl,trivial⟩ (fun M=>⟨M.cast rfl rfl,by decide⟩) (by decide)
 obtain rfl:m=4:=by simp at h;omega
 exact lb 2<|an rfl<|lb 0<|an ⟨rfl,rfl⟩ fun w M=>ei (x:=0)<|an rfl fun M=>⟨rfl,M.below⟩
def ay.within(a b:ay):Bool:=decide (a.minus b=ay.zero)
def ay.unit(s:ay):ay:=⟨sK s.a 1,s.b,s.c,s.d⟩
theorem ay.Yb{s:ay}(h:s.Ok):s.unit.Ok:=⟨ZP h.a _,h.b,h.c,h.d⟩
theorem D6(w:World)(s:ay)(hs:s.Ok):Calls Tryz.prog 195 #[.agg #[.int .u64 s.a,.int .u64 s.b,.int .u64 s.c,.int .u64 s.d],.int .i64 0] w fun e w'=>e=.returned (.agg #[.int .u64 s.unit.a,.int .u64 s.unit.b,.int .u64 s.unit.c,.int .u64 s.unit.d])∧avc w.heap.size w w':=Rn w s hs
theorem nY(t:ay)(W:World):(Op.equalIn 10000 54 (.agg #[.int .u64 t.a,.int .u64 t.b,.int .u64 t.c,.int .u64 t.d]) (.agg #[.int .u64 0,.int .u64 0,.int .u64 0,.int .u64 0])).run Tryz.prog W=.ok (decide (t=ay.zero)) W:=by
 rw[ac8];congr 1;obtain⟨a,b,c,d⟩:=t;simp[ay.zero]
theorem qG(w:World)(a b:ay)(ha:a.Ok)(hb:b.Ok):Calls Tryz.prog 105 #[.agg #[.int .u64 a.a,.int .u64 a.b,.int .u64 a.c,.int .u64 a.d],.agg #[.int .u64 b.a,.int .u64 b.b,.int .u64 b.c,.int .u64 b.d]] w fun e w'=>e=.returned (.bool (a.within b))∧avc w.heap.size w w':=by
 have HOA:=avk ha;have HOB:=avk hb;obtain⟨t,ht⟩:∃ t,t=a.minus b:=⟨_,rfl⟩;have HT:=avk ht;unfold ay.within;rw[← ht];have hq:∀ W,(Op.equalIn 10000 54 (.agg #[.int .u64 t.a,.int .u64 t.b,.int .u64 t.c,.int .u64 t.d]) (.agg #[.int .u64 0,.int .u64 0,.int .u64 0,.int .u64 0])).run Tryz.prog W=.ok (decide (t=ay.zero)) W:=nY t;obtain⟨q,hqq⟩:∃ q,q=decide (t=ay.zero):=⟨_,rfl⟩;rw[← hqq];rw[← hqq] at hq;clear ha hb ht hqq;obtain⟨wo,jB⟩:∃ wo,wo=(w.alloc (.cells #[.int .u64 a.a,.int .u64 a.b,.int .u64 a.c,.int .u64 a.d] 54)).alloc (.cells #[.int .u64 b.a,.int .u64 b.b,.int .u64 b.c,.int .u64 b.d] 54):=⟨_,rfl⟩;have HA0:=avk (show Whole wo w.heap.size 54 #[.int .u64 a.a,.int .u64 a.b,.int .u64 a.c,.int .u64 a.d] by rw[jB];exact(Whole.new w 54 _).alloc _);have HA1:=avk (show Whole wo (w.heap.size+1) 54 #[.int .u64 b.a,.int .u64 b.b,.int .u64 b.c,.int .u64 b.d] by rw[jB];exact wS w _ _ _);have zM:=avk (show avc w.heap.size w wo by rw[jB];exact((Below.refl _ w).alloc (Nat.le_refl _) _).alloc (by simp) _)
 go_enter Tryz.func105,Tryz.ntmps105
 go_upto_region 1 with(fail)
 rw[← jB];clear jB
 go_wp2_with (first|(refine wpList_load_row rfl 54 _ rfl (w.heap.size) rfl 54 _ (0,0) _ HA0.out Tryz.underlying54 rfl FU ?_)|(refine wpList_load_row rfl 54 _ rfl (w.heap.size+1) rfl 54 _ (0,0) _ HA1.out Tryz.underlying54 rfl FU ?_)|(go_at_call 194;go_must (refine(MK wo a b HOA.out HOB.out).mono ?_;rintro e w1 ⟨rfl,hb1⟩;rw[← HT.out];have Fq:=avk hb1;clear hb1)))
 go_ret
 exact⟨rfl,zM.out.trans (Fq.out.mono zM.out.size)⟩
theorem aq.size{α:Type}{k:Nat}{R:List Value→α→Prop}{w:World}{v:Value}{l:List α}(h:aq k R w v l)(hk:0<k):∃ a c,v=.slice a l.length c∧l.length≤c∧l.length≤9223372036854775807:=by
 obtain⟨a,c,h1,h2,h3,-⟩:=h.form hk;exact⟨a,c,h1,h2,h3⟩
theorem fJ{w:World}{v:Value}{k n:Nat}{cs:List Value}(h:SliceAt w v k n cs)(hk:0<k):∃ a c,v=.slice a n c∧n≤c∧n≤9223372036854775807:=by
 obtain⟨a,c,h1,h2,h3,-⟩:=h.form hk;exact⟨a,c,h1,h2,h3⟩
theorem aJ.f0{w:World}{c0 c1 c2 c3 c4 c5 c6 c7 c8 c9 aQ aL aK aP aO aN aM:Value}{p:aA}(h:aJ w c0 c1 c2 c3 c4 c5 c6 c7 c8 c9 aQ aL aK aP aO aN aM p):∃ a c,c0=.slice a p.classes.length c∧p.classes.length≤c∧p.classes.length≤9223372036854775807:=aq.size h.classes (by decide)
theorem aJ.f1{w:World}{c0 c1 c2 c3 c4 c5 c6 c7 c8 c9 aQ aL aK aP aO aN aM:Value}{p:aA}(h:aJ w c0 c1 c2 c3 c4 c5 c6 c7 c8 c9 aQ aL aK aP aO aN aM p):∃ a c,c1=.slice a p.types.length c∧p.types.length≤c∧p.types.length≤9223372036854775807:=aq.size h.types (by decide)
theorem aJ.f2{w:World}{c0 c1 c2 c3 c4 c5 c6 c7 c8 c9 aQ aL aK aP aO aN aM:Value}{p:aA}(h:aJ w c0 c1 c2 c3 c4 c5 c6 c7 c8 c9 aQ aL aK aP aO aN aM p):∃ a c,c2=.slice a p.attrs.length c∧p.attrs.length≤c∧p.attrs.length≤9223372036854775807:=fJ h.attrs (by decide)
theorem aJ.f3{w:World}{c0 c1 c2 c3 c4 c5 c6 c7 c8 c9 aQ aL aK aP aO aN aM:Value}{p:aA}(h:aJ w c0 c1 c2 c3 c4 c5 c6 c7 c8 c9 aQ aL aK aP aO aN aM p):∃ a c,c3=.slice a p.roles.length c∧p.roles.length≤c∧p.roles.length≤9223372036854775807:=fJ h.roles (by decide)
theorem aJ.f4{w:World}{c0 c1 c2 c3 c4 c5 c6 c7 c8 c9 aQ aL aK aP aO aN aM:Value}{p:aA}(h:aJ w c0 c1 c2 c3 c4 c5 c6 c7 c8 c9 aQ aL aK aP aO aN aM p):∃ a c,c4=.slice a p.users.length c∧p.users.length≤c∧p.users.length≤9223372036854775807:=fJ h.users (by decide)
theorem aJ.f5{w:World}{c0 c1 c2 c3 c4 c5 c6 c7 c8 c9 aQ aL aK aP aO aN aM:Value}{p:aA}(h:aJ w c0 c1 c2 c3 c4 c5 c6 c7 c8 c9 aQ aL aK aP aO aN aM p):∃ a c,c5=.slice a p.bools.length c∧p.bools.length≤c∧p.bools.length≤9223372036854775807:=fJ h.bools (by decide)
theorem aJ.f6{w:World}{c0 c1 c2 c3 c4 c5 c6 c7 c8 c9 aQ aL aK aP aO aN aM:Value}{p:aA}(h:aJ w c0 c1 c2 c3 c4 c5 c6 c7 c8 c9 aQ aL aK aP aO aN aM p):∃ a c,c6=.slice a p.aW.length c∧p.aW.length≤c∧p.aW.length≤9223372036854775807:=fJ h.aW (by decide)
theorem aJ.f7{w:World}{c0 c1 c2 c3 c4 c5 c6 c7 c8 c9 aQ aL aK aP aO aN aM:Value}{p:aA}(h:aJ w c0 c1 c2 c3 c4 c5 c6 c7 c8 c9 aQ aL aK aP aO aN aM p):∃ a c,c7=.slice a p.cats.length c∧p.cats.length≤c∧p.cats.length≤9223372036854775807:=fJ h.cats (by decide)
theorem aJ.f8{w:World}{c0 c1 c2 c3 c4 c5 c6 c7 c8 c9 aQ aL aK aP aO aN aM:Value}{p:aA}(h:aJ w c0 c1 c2 c3 c4 c5 c6 c7 c8 c9 aQ aL aK aP aO aN aM p):∃ a c,c8=.slice a p.conds.length c∧p.conds.length≤c∧p.conds.length≤9223372036854775807:=aq.size h.conds (by decide)
theorem aJ.f9{w:World}{c0 c1 c2 c3 c4 c5 c6 c7 c8 c9 aQ aL aK aP aO aN aM:Value}{p:aA}(h:aJ w c0 c1 c2 c3 c4 c5 c6 c7 c8 c9 aQ aL aK aP aO aN aM p):∃ a c,c9=.slice a p.rules.length c∧p.rules.length≤c∧p.rules.length≤9223372036854775807:=fJ h.rules (by decide)
theorem aJ.f11{w:World}{c0 c1 c2 c3 c4 c5 c6 c7 c8 c9 aQ aL aK aP aO aN aM:Value}{p:aA}(h:aJ w c0 c1 c2 c3 c4 c5 c6 c7 c8 c9 aQ aL aK aP aO aN aM p):∃ a c,aL=.slice a p.aS.length c∧p.aS.length≤c∧p.aS.length≤9223372036854775807:=fJ h.aS (by decide)
theorem aJ.f12{w:World}{c0 c1 c2 c3 c4 c5 c6 c7 c8 c9 aQ aL aK aP aO aN aM:Value}{p:aA}(h:aJ w c0 c1 c2 c3 c4 c5 c6 c7 c8 c9 aQ aL aK aP aO aN aM p):∃ a c,aK=.slice a p.ranges.length c∧p.ranges.length≤c∧p.ranges.length≤9223372036854775807:=fJ h.ranges (by decide)
def bh(i n:Int):Bool:=decide (0≤i)&&decide (i<n)
theorem fU(w:World)(i n:Int):Calls Tryz.prog 113 #[.int .i64 i,.int .i64 n] w fun e w'=>e=.returned (.bool (bh i n))∧w=w':=by
 unfold bh
 cases h:decide (0≤i) with
 | false=>
  go_enter Tryz.func113,Tryz.ntmps113
  go_wp2
  go_ret
  exact⟨rfl,rfl⟩
 | true=>
  go_enter Tryz.func113,Tryz.ntmps113
  go_wp2
  go_ret
  exact⟨rfl,rfl⟩
def yG(a b:sM):Bool:=decide (b.aW≤a.aW)&&decide (sK b.cats a.cats=0)
theorem vU(w:World)(a b:sM)(ha:a.Ok)(hb:b.Ok):Calls Tryz.prog 109 #[.agg #[.int .i64 a.aW,.int .u64 a.cats],.agg #[.int .i64 b.aW,.int .u64 b.cats]] w fun e w'=>e=.returned (.bool (yG a b))∧avc w.heap.size w w':=by
 have hd:(bits .andNot .u64 (b.cats:Int) (a.cats:Int) == 0)=decide (sK b.cats a.cats=0):=by
  rw[u64_andNot_nat b.cats a.cats hb.cats ha.cats];show(((sK b.cats a.cats:Nat):Int) == 0)=_;rw[avg];simp
 have HD:=avk hd;clear hd ha hb;obtain⟨wo,jB⟩:∃ wo,wo=((w).alloc (.cells #[.int .i64 a.aW,.int .u64 a.cats] 70)).alloc (.cells #[.int .i64 b.aW,.int .u64 b.cats] 70):=⟨_,rfl⟩;have W0:=avk (show Whole wo w.heap.size 70 #[.int .i64 a.aW,.int .u64 a.cats] by rw[jB];exact((show Whole _ w.heap.size 70 #[.int .i64 a.aW,.int .u64 a.cats] from Whole.new w 70 _).alloc _));have W1:=avk (show Whole wo (w.heap.size+1) 70 #[.int .i64 b.aW,.int .u64 b.cats] by rw[jB];exact(wS w _ _ _));have zM:=avk (show avc w.heap.size w wo by rw[jB];exact(((Below.refl _ w).alloc (Nat.le_refl _) _).alloc (by simp) _));have ka0:wo.cell? ⟨w.heap.size,0,none⟩=some (.int .i64 a.aW):=W0.out.cell 0;have ka1:wo.cell? ⟨w.heap.size,1,none⟩=some (.int .u64 a.cats):=W0.out.cell 1;have kb0:wo.cell? ⟨w.heap.size+1,0,none⟩=some (.int .i64 b.aW):=W1.out.cell 0;have kb1:wo.cell? ⟨w.heap.size+1,1,none⟩=some (.int .u64 b.cats):=W1.out.cell 1;unfold yG;by_cases h:b.aW≤a.aW
 ·have h1:decide (b.aW≤a.aW)=true:=by simp[h]
  rw[h1]
  go_enter Tryz.func109,Tryz.ntmps109
  go_upto_region 1 with(fail)
  rw[← jB];clear jB
  go_wp2
  go_ret
  exact⟨aD (by rw[← HD.out];rfl),zM.out⟩
 ·have h1:decide (b.aW≤a.aW)=false:=by simp[h]
  rw[h1]
  go_enter Tryz.func109,Tryz.ntmps109
  go_upto_region 1 with(fail)
  rw[← jB];clear jB
  go_wp2
  go_ret
  exact⟨rfl,zM.out⟩
def kB(n:Nat)(k:Int):Bool:=decide (-(n:Int)≤k)&&decide (k≤(n:Int))
theorem KM(w:World)(c0 c1 c2 c3 c4 c5 c6 c7 c8 c9 aQ aL aK aP aO aN aM:Value)(p:aA)(hp:aJ w c0 c1 c2 c3 c4 c5 c6 c7 c8 c9 aQ aL aK aP aO aN aM p)(k:Int):Calls Tryz.prog 112 #[.agg #[c0,c1,c2,c3,c4,c5,c6,c7,c8,c9,aQ,aL,aK,aP,aO,aN,aM],.int .i64 k] w fun e w'=>e=.returned (.bool (kB p.conds.length k))∧avc w.heap.size w w':=by
 obtain⟨a8,k8,rfl,hk8,hm8⟩:=aJ.f8 hp;obtain⟨n8,hn8⟩:∃ n,n=p.conds.length:=⟨_,rfl⟩;have N8:=avk hn8;rw[← hn8] at hk8 hm8 ⊢;clear hn8;obtain⟨wo,jB⟩:∃ wo,wo=(w).alloc (.cells #[c0,c1,c2,c3,c4,c5,c6,c7,.slice a8 n8 k8,c9,aQ,aL,aK,aP,aO,aN,aM] 39):=⟨_,rfl⟩;have W0:=avk (show Whole wo w.heap.size 39 #[c0,c1,c2,c3,c4,c5,c6,c7,.slice a8 n8 k8,c9,aQ,aL,aK,aP,aO,aN,aM] by rw[jB];exact(Whole.new w 39 _));have zM:=avk (show avc w.heap.size w wo by rw[jB];exact((Below.refl _ w).alloc (Nat.le_refl _) _));have kp8:wo.cell? ⟨w.heap.size,8,none⟩=some (.slice a8 n8 k8):=W0.out.cell 8;clear hp;unfold kB;by_cases h:-(n8:Int)≤k
 ·have h1:decide (-(n8:Int)≤k)=true:=by simp[h]
  rw[h1]
  go_enter Tryz.func112,Tryz.ntmps112
  go_upto_region 1 with(fail)
  rw[← jB];clear jB
  go_wp2
  go_ret
  exact⟨aD (by simp),zM.out⟩
 ·have h1:decide (-(n8:Int)≤k)=false:=by simp[h]
  rw[h1]
  go_enter Tryz.func112,Tryz.ntmps112
  go_upto_region 1 with(fail)
  rw[← jB];clear jB
  go_wp2
  go_ret
  exact⟨aD (by simp),zM.out⟩
def dW(s:ByteArray)(i:Nat):Nat:=if h:i<s.size then (s[i]'h).toNat else 0
theorem oR{s:ByteArray}{i:Nat}(h:i<s.size):(s[i]'h).toNat=dW s i:=by unfold dW;rw[dif_pos h]
theorem oQ(s:ByteArray)(i:Nat):dW s i<256:=by
 unfold dW;split
 ·exact UInt8.toNat_lt _
 ·decide
def Dz(s:ByteArray)(i:Nat):Bool:=decide ((dW s i:Int)<32)||decide ((126:Int)<dW s i)||decide ((dW s i:Int)=34)
def pH(s:ByteArray):Bool:=!(fI (Dz s) s.size 0)&&decide ((s.size:Int)≤256)
theorem MU(w:World)(s:ByteArray)(hs:dw s):Calls Tryz.prog 200 #[.string s] w fun e w'=>e=.returned (.bool (pH s))∧w=w':=by
 have hs':s.size≤140737488355328:=hs;obtain⟨n,hn⟩:∃ n,n=s.size:=⟨_,rfl⟩;have HN:=avk hn;have hnb:n≤140737488355328:=by rw[hn];exact hs'
 unfold pH;clear hs hs'
 go_enter Tryz.func200,Tryz.ntmps200
 go_wp2_with fail
 go_loopw [3] (fun i wr=>wr=w∧∃ k:Nat,k≤n∧i=.int .i64 k∧Hid (fI (Dz s) s.size 0=fI (Dz s) (n-k) k)) (fun i _=>n-(intOf i).toNat)
 case atStart=>exact⟨rfl,0,avh _,rfl,avk (by rw[hn,Nat.sub_zero])⟩
 case round=>
  obtain⟨rfl,k,hk,rfl,hinv⟩:=hrel;by_cases hlt:k<n
  ·have hks:k<s.size:=by rw[← hn];exact hlt
   obtain⟨x,hx⟩:∃ x,x=dW s k:=⟨_,rfl⟩;have hsx:(s[k]'hks).toNat=x:=by rw[oR hks,hx]
   have V8:x<256:=by rw[hx];exact oQ s k
   have hlt2:0≤(k:Int)∧(k:Int)<s.size:=by omega
   have HX:=avk hx;clear hx;by_cases h1:(x:Int)<32
   ·have HB:=avk (show Dz s k=true by unfold Dz;rw[← HX.out];simp[h1]);have hd1:decide ((x:Int)<32)=true:=by simp[h1]
    go_wp2_with fail
    go_ret
    exact⟨aD (by rw[hinv.out,eM hlt HB.out];rfl),rfl⟩
   ·by_cases h2:(126:Int)<x
    ·have HB:=avk (show Dz s k=true by unfold Dz;rw[← HX.out];simp[h2]);have hd1:decide ((x:Int)<32)=false:=by simp;omega
     go_wp2_with fail
     go_ret
     exact⟨aD (by rw[hinv.out,eM hlt HB.out];rfl),rfl⟩
    ·by_cases h3:(x:Int)=34
     ·have HB:=avk (show Dz s k=true by unfold Dz;rw[← HX.out];simp[h3])
      go_wp2_with fail
      go_ret
      exact⟨aD (by rw[hinv.out,eM hlt HB.out];rfl),rfl⟩
     ·have HB:=avk (show Dz s k=false by unfold Dz;rw[← HX.out];simp[h1,h2,h3])
      go_wp2_with fail
      go_roundw
      case rel=>exact⟨by first|trivial|rfl,k+1,by omega,by go_num,avk (hinv.out.trans (j6 hlt HB.out))⟩
      case measure=>simp[intOf];omega
  ·obtain rfl:k=n:=by omega
   go_wp2_with fail
   go_ret
   exact⟨aD (by rw[hinv.out,iR];rfl),rfl⟩
def jV(x:Nat):Bool:=(decide ((65:Int)≤x)&&decide ((x:Int)≤90))||(decide ((97:Int)≤x)&&decide ((x:Int)≤122))||decide ((x:Int)=95)
def nW(x:Nat):Bool:=decide ((48:Int)≤x)&&decide ((x:Int)≤57)
theorem pK(w:World)(x:Nat):Calls Tryz.prog 248 #[.int .u8 (x:Int)] w fun e w'=>e=.returned (.bool (jV x))∧w=w':=by
 unfold jV;by_cases t0:(65:Int)≤x
 ·have d0:decide ((65:Int)≤x)=true:=by simp;omega
  by_cases t1:(x:Int)≤90
  ·have d1:decide ((x:Int)≤90)=true:=by simp;omega
   have d2:decide ((97:Int)≤x)=false:=by simp;omega
   have d3:decide ((x:Int)≤122)=true:=by simp;omega
   go_enter Tryz.func248,Tryz.ntmps248
   go_wp2
   go_ret
   exact⟨aD (by first|rfl|(simp<;>omega)|(simp[*];done)|(simp;omega)),rfl⟩
  ·have d1:decide ((x:Int)≤90)=false:=by simp;omega
   by_cases t2:(97:Int)≤x
   ·have d2:decide ((97:Int)≤x)=true:=by simp;omega
    by_cases t3:(x:Int)≤122
    ·have d3:decide ((x:Int)≤122)=true:=by simp;omega
     go_enter Tryz.func248,Tryz.ntmps248
     go_wp2
     go_ret
     exact⟨aD (by first|rfl|(simp<;>omega)|(simp[*];done)|(simp;omega)),rfl⟩
    ·have d3:decide ((x:Int)≤122)=false:=by simp;omega
     go_enter Tryz.func248,Tryz.ntmps248
     go_wp2
     go_ret
     exact⟨aD (by first|rfl|(simp<;>omega)|(simp[*];done)|(simp;omega)),rfl⟩
   ·have d2:decide ((97:Int)≤x)=false:=by simp;omega
    have d3:decide ((x:Int)≤122)=true:=by simp;omega
    go_enter Tryz.func248,Tryz.ntmps248
    go_wp2
    go_ret
    exact⟨aD (by first|rfl|(simp<;>omega)|(simp[*];done)|(simp;omega)),rfl⟩
 ·have d0:decide ((65:Int)≤x)=false:=by simp;omega
  have d1:decide ((x:Int)≤90)=true:=by simp;omega
  have d2:decide ((97:Int)≤x)=false:=by simp;omega
  have d3:decide ((x:Int)≤122)=true:=by simp;omega
  go_enter Tryz.func248,Tryz.ntmps248
  go_wp2
  go_ret
  exact⟨aD (by first|rfl|(simp<;>omega)|(simp[*];done)|(simp;omega)),rfl⟩
theorem E6(w:World)(x:Nat):Calls Tryz.prog 249 #[.int .u8 (x:Int)] w fun e w'=>e=.returned (.bool (nW x))∧w=w':=by
 unfold nW;by_cases t0:(48:Int)≤x
 ·have d0:decide ((48:Int)≤x)=true:=by simp;omega
  go_enter Tryz.func249,Tryz.ntmps249
  go_wp2
  go_ret
  exact⟨aD (by first|rfl|(simp<;>omega)|(simp[*];done)|(simp;omega)),rfl⟩
 ·have d0:decide ((48:Int)≤x)=false:=by simp;omega
  go_enter Tryz.func249,Tryz.ntmps249
  go_wp2
  go_ret
  exact⟨aD (by first|rfl|(simp<;>omega)|(simp[*];done)|(simp;omega)),rfl⟩
def jO(s ws:ByteArray):Nat→Nat→Nat→Bool
 | 0,_,_=>false
 | k+1,fr,i=>if dW ws i=32 then (if (ws.extract fr i).toList=s.toList∧s.toList.isEmpty=false then true else jO s ws k (i+1) (i+1)) else jO s ws k fr (i+1)
def FC(s ws:ByteArray):Bool:=jO s ws ws.size 0 0
theorem FD{s ws:ByteArray}{n fr i:Nat}(h:i<n)(hb:dW ws i≠32):jO s ws (n-i) fr i=jO s ws (n-(i+1)) fr (i+1):=by
 obtain⟨k,hk⟩:∃ k,n-i=k+1:=⟨n-i-1,by omega⟩;rw[hk,show n-(i+1)=k by omega];exact if_neg hb
theorem I9{s ws:ByteArray}{n fr i:Nat}(h:i<n)(hb:dW ws i=32)(h1:(ws.extract fr i).toList=s.toList)(h2:s.toList.isEmpty=false):jO s ws (n-i) fr i=true:=by
 obtain⟨k,hk⟩:∃ k,n-i=k+1:=⟨n-i-1,by omega⟩;rw[hk];exact(if_pos hb).trans (if_pos ⟨h1,h2⟩)
theorem uK{s ws:ByteArray}{n fr i:Nat}(h:i<n)(hb:dW ws i=32)(h1:¬ ((ws.extract fr i).toList=s.toList∧s.toList.isEmpty=false)):jO s ws (n-i) fr i=jO s ws (n-(i+1)) (i+1) (i+1):=by
 obtain⟨k,hk⟩:∃ k,n-i=k+1:=⟨n-i-1,by omega⟩;rw[hk,show n-(i+1)=k by omega];exact(if_pos hb).trans (if_neg h1)
theorem I8(w:World)(s ws:ByteArray)(hs:dw ws):Calls Tryz.prog 201 #[.string s,.string ws] w fun e w'=>e=.returned (.bool (FC s ws))∧w=w':=by
 have hs':ws.size≤140737488355328:=hs;obtain⟨n,hn⟩:∃ n,n=ws.size:=⟨_,rfl⟩;have HN:=avk hn;have hnb:n≤140737488355328:=by rw[hn];exact hs'
 unfold FC;clear hs hs'
 go_enter Tryz.func201,Tryz.ntmps201
 go_wp2_with fail
 go_loopw [5,6] (fun f i wr=>wr=w∧∃ fr k:Nat,fr≤k∧k≤n∧f=.int .i64 fr∧i=.int .i64 k∧Hid (jO s ws ws.size 0 0=jO s ws (n-k) fr k)) (fun _ i _=>n-(intOf i).toNat)
 case atStart=>exact⟨rfl,0,0,Nat.le_refl _,avh _,rfl,rfl,avk (by rw[hn,Nat.sub_zero])⟩
 case round=>
  obtain⟨rfl,fr,k,hfr,hk,rfl,rfl,hinv⟩:=hrel;by_cases hlt:k<n
  ·have hks:k<ws.size:=by rw[← hn];exact hlt
   obtain⟨x,hx⟩:∃ x,x=dW ws k:=⟨_,rfl⟩;have hsx:(ws[k]'hks).toNat=x:=by rw[oR hks,hx]
   have V8:x<256:=by rw[hx];exact oQ ws k
   have hlt2:0≤(k:Int)∧(k:Int)<ws.size:=by omega
   have HX:=avk hx;clear hx;by_cases h32:x=32
   ·subst h32;have Tt:=avk HX.out.symm;have hlt3:0≤(k:Int)∧(k:Int)≤ws.size:=by omega
    have apq:0≤(fr:Int)∧(fr:Int)≤k:=by omega
    by_cases h1:(ws.extract fr k).toList=s.toList
    ·by_cases h2:s.toList.isEmpty=true
     ·have HM:=avk (uK (fr:=fr) hlt Tt.out (fun h=>by rw[h2] at h;cases h.2));clear HX Tt
      go_wp2_with fail
      go_roundw
      case rel=>exact⟨by first|trivial|rfl,k+1,k+1,Nat.le_refl _,by omega,by go_num,by go_num,avk (hinv.out.trans HM.out)⟩
      case measure=>simp[intOf];omega
     ·have HM:=avk (I9 (fr:=fr) hlt Tt.out h1 (Bool.eq_false_iff.2 h2));have h2':s.toList.isEmpty=false:=Bool.eq_false_iff.2 h2;clear h2;clear HX Tt
      go_wp2_with fail
      go_ret
      exact⟨aD (by rw[hinv.out,HM.out]),rfl⟩
    ·have HM:=avk (uK (fr:=fr) hlt Tt.out (fun h=>h1 h.1));clear HX Tt
     go_wp2_with fail
     go_roundw
     case rel=>exact⟨by first|trivial|rfl,k+1,k+1,Nat.le_refl _,by omega,by go_num,by go_num,avk (hinv.out.trans HM.out)⟩
     case measure=>simp[intOf];omega
   ·have HM:=avk (FD (s:=s) (fr:=fr) hlt (by rw[← HX.out];exact h32));clear HX
    go_wp2_with fail
    go_roundw
    case rel=>exact⟨by first|trivial|rfl,fr,k+1,by omega,by omega,rfl,by go_num,avk (hinv.out.trans HM.out)⟩
    case measure=>simp[intOf];omega
  ·obtain rfl:k=n:=by omega
   go_wp2_with fail
   go_ret
   exact⟨aD (by rw[hinv.out,Nat.sub_self];rfl),rfl⟩
def kwB:ByteArray:=⟨#[109,111,100,117,108,101,32,99,108,97,115,115,32,116,121,112,101,32,97,108,105,97,115,32,116,121,112,101,97,116,116,114,105,98,117,116,101,32,97,116,116,114,105,98,117,116,101,32,114,111,108,101,32,116,121,112,101,115,32,114,111,108,101,97,108,108,111,119,32,114,111,108,101,95,116,114,97,110,115,105,116,105,111,110,32,117,115,101,114,32,114,111,108,101,115,32,108,101,118,101,108,32,114,97,110,103,101,32,98,111,111,108,32,116,114,117,101,32,102,97,108,115,101,32,115,101,110,115,105,116,105,118,105,116,121,32,99,97,116,101,103,111,114,121,32,97,108,108,111,119,32,97,117,100,105,116,97,108,108,111,119,32,100,111,110,116,97,117,100,105,116,32,110,101,118,101,114,97,108,108,111,119,32,116,121,112,101,95,116,114,97,110,115,105,116,105,111,110,32,116,121,112,101,95,99,104,97,110,103,101,32,116,121,112,101,95,109,101,109,98,101,114,32,114,97,110,103,101,95,116,114,97,110,115,105,116,105,111,110,32,99,111,110,115,116,114,97,105,110,32,118,97,108,105,100,97,116,101,116,114,97,110,115,32,105,102,32,101,108,115,101,32,111,112,116,105,111,110,97,108,32,114,101,113,117,105,114,101,32,115,105,100,32,102,105,108,101,99,111,110,32,112,101,114,109,105,115,115,105,118,101,32,97,115,115,101,114,116,32,115,101,108,102,32,105,110,32]⟩
theorem ab4:dw kwB:=by
 show kwB.size≤140737488355328;have:kwB.size=327:=by kernel_rfl
 omega
def kq(s:ByteArray):Bool:=FC s kwB
theorem zy(w:World)(s:ByteArray):Calls Tryz.prog 278 #[.string s] w fun e w'=>e=.returned (.bool (kq s))∧w=w':=by
 obtain⟨q,hq⟩:∃ q,q=kq s:=⟨_,rfl⟩;have HQ:=avk hq;rw[← hq];clear hq
 go_enter Tryz.func278,Tryz.ntmps278
 go_wp2_with (go_at_call 201;go_must (refine(show Calls Tryz.prog 201 _ _ (fun e w'=>e=.returned (.bool q)∧w=w') from by rw[HQ.out];exact I8 w s kwB ab4).mono ?_;rintro e w' ⟨rfl,rfl⟩))
 go_ret
 exact⟨rfl,rfl⟩
def uz(s:ByteArray)(i:Nat):Bool:=!jV (dW s i)&&(decide (i=0)||!nW (dW s i))
def zw(s:ByteArray):Bool:=!(fI (uz s) s.size 0)&&(decide ((1:Int)≤(s.size:Int))&&decide ((s.size:Int)≤32))
theorem Cv(w:World)(s:ByteArray)(hs:dw s):Calls Tryz.prog 198 #[.string s] w fun e w'=>e=.returned (.bool (zw s))∧w=w':=by
 have hs':s.size≤140737488355328:=hs;obtain⟨n,hn⟩:∃ n,n=s.size:=⟨_,rfl⟩;have HN:=avk hn;have hnb:n≤140737488355328:=by rw[hn];exact hs'
 unfold zw;clear hs hs'
 go_enter Tryz.func198,Tryz.ntmps198
 go_wp2_with fail
 go_loopw [3] (fun i wr=>wr=w∧∃ k:Nat,k≤n∧i=.int .i64 k∧Hid (fI (uz s) s.size 0=fI (uz s) (n-k) k)) (fun i _=>n-(intOf i).toNat)
 case atStart=>exact⟨rfl,0,avh _,rfl,avk (by rw[hn,Nat.sub_zero])⟩
 case round=>
  obtain⟨rfl,k,hk,rfl,hinv⟩:=hrel;by_cases hlt:k<n
  ·have hks:k<s.size:=by rw[← hn];exact hlt
   obtain⟨x,hx⟩:∃ x,x=dW s k:=⟨_,rfl⟩;have hsx:(s[k]'hks).toNat=x:=by rw[oR hks,hx]
   have V8:x<256:=by rw[hx];exact oQ s k
   have hlt2:0≤(k:Int)∧(k:Int)<s.size:=by omega
   have HX:=avk hx;clear hx
   cases hl:jV x with
   | true=>
    have HB:=avk (show uz s k=false by unfold uz;rw[← HX.out,hl];rfl);have HL:=avk hl;clear hl HX
    go_wp2_with (have hZ:=HL;clear hZ;go_at_call 248;go_must (refine(show Calls Tryz.prog 248 _ _ (fun e w'=>e=.returned (.bool true)∧_=w') from by have h:=pK wr x;rw[HL.out] at h;exact h).mono ?_;rintro e w' ⟨rfl,rfl⟩;clear HL))
    go_roundw
    case rel=>exact⟨by first|trivial|rfl,k+1,by omega,by go_num,avk (hinv.out.trans (j6 hlt HB.out))⟩
    case measure=>simp[intOf];omega
   | false=>
    have HL:=avk hl;by_cases h0:k=0
    ·subst h0;have HB:=avk (show uz s 0=true by unfold uz;rw[← HX.out,hl];rfl);clear hl HX
     go_wp2_with (have hZ:=HL;clear hZ;go_at_call 248;go_must (refine(show Calls Tryz.prog 248 _ _ (fun e w'=>e=.returned (.bool false)∧_=w') from by have h:=pK wr x;rw[HL.out] at h;exact h).mono ?_;rintro e w' ⟨rfl,rfl⟩;clear HL))
     go_ret
     exact⟨aD (by rw[hinv.out,eM hlt HB.out];rfl),rfl⟩
    ·have hd0:decide ((k:Int)=0)=false:=by simp;omega
     cases hg:nW x with
     | true=>
      have HB:=avk (show uz s k=false by unfold uz;rw[← HX.out,hl,hg];simp[h0]);have HDG:=avk hg;clear hl hg HX
      go_wp2_with (first|(have hZ:=HL;clear hZ;go_at_call 248;go_must (refine(show Calls Tryz.prog 248 _ _ (fun e w'=>e=.returned (.bool false)∧_=w') from by have h:=pK wr x;rw[HL.out] at h;exact h).mono ?_;rintro e w' ⟨rfl,rfl⟩;clear HL))|(have hZ:=HDG;clear hZ;go_at_call 249;go_must (refine(show Calls Tryz.prog 249 _ _ (fun e w'=>e=.returned (.bool true)∧_=w') from by have h:=E6 wr x;rw[HDG.out] at h;exact h).mono ?_;rintro e w' ⟨rfl,rfl⟩;clear HDG)))
      go_roundw
      case rel=>exact⟨by first|trivial|rfl,k+1,by omega,by go_num,avk (hinv.out.trans (j6 hlt HB.out))⟩
      case measure=>simp[intOf];omega
     | false=>
      have HB:=avk (show uz s k=true by unfold uz;rw[← HX.out,hl,hg];simp);have HDG:=avk hg;clear hl hg HX
      go_wp2_with (first|(have hZ:=HL;clear hZ;go_at_call 248;go_must (refine(show Calls Tryz.prog 248 _ _ (fun e w'=>e=.returned (.bool false)∧_=w') from by have h:=pK wr x;rw[HL.out] at h;exact h).mono ?_;rintro e w' ⟨rfl,rfl⟩;clear HL))|(have hZ:=HDG;clear hZ;go_at_call 249;go_must (refine(show Calls Tryz.prog 249 _ _ (fun e w'=>e=.returned (.bool false)∧_=w') from by have h:=E6 wr x;rw[HDG.out] at h;exact h).mono ?_;rintro e w' ⟨rfl,rfl⟩;clear HDG)))
      go_ret
      exact⟨aD (by rw[hinv.out,eM hlt HB.out];rfl),rfl⟩
  ·obtain rfl:k=n:=by omega
   have HF:=avk hinv.out;clear hinv;by_cases h1:(1:Int)≤(s.size:Int)
   ·have hd1:decide ((1:Int)≤(s.size:Int))=true:=by simp;omega
    go_wp2_with fail
    go_ret
    exact⟨aD (by first|rfl|(rw[HF.out,iR];simp;omega)),rfl⟩
   ·have hd1:decide ((1:Int)≤(s.size:Int))=false:=by simp;omega
    go_wp2_with fail
    go_ret
    exact⟨aD (by first|rfl|(rw[HF.out,iR];simp;omega)),rfl⟩
def yL(s:ByteArray)(i:Nat):Bool:=decide ((dW s i:Int)<33)||decide ((126:Int)<dW s i)||decide ((dW s i:Int)=34)||decide ((dW s i:Int)=47)
def ng(s:ByteArray):Bool:=!(fI (yL s) s.size 0)&&(decide ((1:Int)≤(s.size:Int))&&decide ((s.size:Int)≤32))
theorem Ng(w:World)(s:ByteArray)(hs:dw s):Calls Tryz.prog 114 #[.string s] w fun e w'=>e=.returned (.bool (ng s))∧w=w':=by
 have hs':s.size≤140737488355328:=hs;obtain⟨n,hn⟩:∃ n,n=s.size:=⟨_,rfl⟩;have HN:=avk hn;have hnb:n≤140737488355328:=by rw[hn];exact hs'
 unfold ng;clear hs hs'
 go_enter Tryz.func114,Tryz.ntmps114
 go_wp2_with fail
 go_loopw [3] (fun i wr=>wr=w∧∃ k:Nat,k≤n∧i=.int .i64 k∧Hid (fI (yL s) s.size 0=fI (yL s) (n-k) k)) (fun i _=>n-(intOf i).toNat)
 case atStart=>exact⟨rfl,0,avh _,rfl,avk (by rw[hn,Nat.sub_zero])⟩
 case round=>
  obtain⟨rfl,k,hk,rfl,hinv⟩:=hrel;by_cases hlt:k<n
  ·have hks:k<s.size:=by rw[← hn];exact hlt
   obtain⟨x,hx⟩:∃ x,x=dW s k:=⟨_,rfl⟩;have hsx:(s[k]'hks).toNat=x:=by rw[oR hks,hx]
   have V8:x<256:=by rw[hx];exact oQ s k
   have hlt2:0≤(k:Int)∧(k:Int)<s.size:=by omega
   have HX:=avk hx;clear hx;by_cases h1:(x:Int)<33
   ·have HB:=avk (show yL s k=true by unfold yL;rw[← HX.out];simp[h1]);have hd1:decide ((x:Int)<33)=true:=by simp[h1]
    go_wp2_with fail
    go_ret
    exact⟨aD (by rw[hinv.out,eM hlt HB.out];rfl),rfl⟩
   ·by_cases h2:(126:Int)<x
    ·have HB:=avk (show yL s k=true by unfold yL;rw[← HX.out];simp[h2]);have hd1:decide ((x:Int)<33)=false:=by simp;omega
     go_wp2_with fail
     go_ret
     exact⟨aD (by rw[hinv.out,eM hlt HB.out];rfl),rfl⟩
    ·by_cases h3:(x:Int)=34
     ·have HB:=avk (show yL s k=true by unfold yL;rw[← HX.out];simp[h3])
      go_wp2_with fail
      go_ret
      exact⟨aD (by rw[hinv.out,eM hlt HB.out];rfl),rfl⟩
     ·have hd3:decide ((x:Int)=34)=false:=by simp[h3]
      have apG:((x:Int) == 34)=false:=by simpa using h3
      by_cases h4:(x:Int)=47
      ·have HB:=avk (show yL s k=true by unfold yL;rw[← HX.out];simp[h4])
       go_wp2_with fail
       go_ret
       exact⟨aD (by rw[hinv.out,eM hlt HB.out];rfl),rfl⟩
      ·have HB:=avk (show yL s k=false by unfold yL;rw[← HX.out];simp[h1,h2,h3,h4])
       go_wp2_with fail
       go_roundw
       case rel=>exact⟨by first|trivial|rfl,k+1,by omega,by go_num,avk (hinv.out.trans (j6 hlt HB.out))⟩
       case measure=>simp[intOf];omega
  ·obtain rfl:k=n:=by omega
   have HF:=avk hinv.out;clear hinv;by_cases h1:(1:Int)≤(s.size:Int)
   ·have hd1:decide ((1:Int)≤(s.size:Int))=true:=by simp;omega
    go_wp2_with fail
    go_ret
    exact⟨aD (by first|rfl|(rw[HF.out,iR];simp;omega)),rfl⟩
   ·have hd1:decide ((1:Int)≤(s.size:Int))=false:=by simp;omega
    go_wp2_with fail
    go_ret
    exact⟨aD (by first|rfl|(rw[HF.out,iR];simp;omega)),rfl⟩
def iO(s:ByteArray):Bool:=zw s&&!kq s
theorem EW(w:World)(s:ByteArray)(hs:dw s):Calls Tryz.prog 243 #[.string s] w fun e w'=>e=.returned (.bool (iO s))∧w=w':=by
 have HS:=avk hs;clear hs;unfold iO
 cases h1:zw s with
 | false=>
  have H1:=avk h1;clear h1
  go_enter Tryz.func243,Tryz.ntmps243
  go_wp2_with (have hZ:=H1;clear hZ;go_at_call 198;go_must (refine(show Calls Tryz.prog 198 _ _ (fun e w'=>e=.returned (.bool false)∧_=w') from by have h:=Cv w s HS.out;rw[H1.out] at h;exact h).mono ?_;rintro e w' ⟨rfl,rfl⟩;clear H1))
  go_ret
  exact⟨rfl,rfl⟩
 | true=>
  have H1:=avk h1
  cases h2:kq s with
  | false=>
   have H2:=avk h2;clear h1 h2
   go_enter Tryz.func243,Tryz.ntmps243
   go_wp2_with (first|(have hZ:=H1;clear hZ;go_at_call 198;go_must (refine(show Calls Tryz.prog 198 _ _ (fun e w'=>e=.returned (.bool true)∧_=w') from by have h:=Cv w s HS.out;rw[H1.out] at h;exact h).mono ?_;rintro e w' ⟨rfl,rfl⟩;clear H1))|(have hZ:=H2;clear hZ;go_at_call 278;go_must (refine(show Calls Tryz.prog 278 _ _ (fun e w'=>e=.returned (.bool false)∧_=w') from by have h:=zy w s;rw[H2.out] at h;exact h).mono ?_;rintro e w' ⟨rfl,rfl⟩;clear H2)))
   go_ret
   exact⟨rfl,rfl⟩
  | true=>
   have H2:=avk h2;clear h1 h2
   go_enter Tryz.func243,Tryz.ntmps243
   go_wp2_with (first|(have hZ:=H1;clear hZ;go_at_call 198;go_must (refine(show Calls Tryz.prog 198 _ _ (fun e w'=>e=.returned (.bool true)∧_=w') from by have h:=Cv w s HS.out;rw[H1.out] at h;exact h).mono ?_;rintro e w' ⟨rfl,rfl⟩;clear H1))|(have hZ:=H2;clear hZ;go_at_call 278;go_must (refine(show Calls Tryz.prog 278 _ _ (fun e w'=>e=.returned (.bool true)∧_=w') from by have h:=zy w s;rw[H2.out] at h;exact h).mono ?_;rintro e w' ⟨rfl,rfl⟩;clear H2)))
   go_ret
   exact⟨rfl,rfl⟩
theorem CN(w:World)(s:ByteArray)(hs:dw s):Calls Tryz.prog 192 #[.string s] w fun e w'=>e=.returned (.bool (iO s))∧w=w':=by
 have HS:=avk hs;clear hs
 go_enter Tryz.func192,Tryz.ntmps192
 go_wp2_with (go_at_call 243;go_must (refine(EW w s HS.out).mono ?_;rintro e w' ⟨rfl,rfl⟩))
 go_ret
 exact⟨rfl,rfl⟩
theorem SliceAt.front{w:World}{a:Addr}{k n c i:Nat}{cs:List Value}(h:SliceAt w (.slice (some a) n c) k n cs)(hi:i≤n):SliceAt w (.slice (some a) i c) k i (cs.take (i*k)):=by
 obtain⟨h1,h2,h3,⟨h4,h5⟩|⟨a',c',h4,h5,h6⟩⟩:=h
 ·cases h4
 ·cases h4;refine⟨?_,by omega,fun u hu=>h3 u (List.mem_of_mem_take hu),.inr ⟨a,c,rfl,by omega,fun j u hj=>?_⟩⟩
  ·rw[List.length_take,h1];exact Nat.min_eq_left (Nat.mul_le_mul_right k hi)
  ·rw[List.getElem?_take] at hj;split at hj
   ·exact h6 j u hj
   ·cases hj
theorem Q_(l:List ByteArray)(i:Nat):(l.flatMap aT).take (i*1)=(l.take i).flatMap aT:=by
 rw[Nat.mul_one]
 induction l generalizing i with
 | nil=>simp
 | cons x l ih=>
  cases i with
  | zero=>simp
  | succ i=>simp[aT,List.flatMap_cons,ih]
theorem aF.front{w:World}{a:Addr}{n c i:Nat}{l:List ByteArray}(h:aF w (.slice (some a) n c) l)(hn:n=l.length)(hi:i≤n):aF w (.slice (some a) i c) (l.take i):=by
 subst hn;have h1:=SliceAt.front h hi;rw[Q_] at h1;unfold aF;rw[List.length_take,Nat.min_eq_left hi];exact h1
theorem aF.open{w:World}{v:Value}{l:List ByteArray}(h:aF w v l):∃ a c,v=.slice a l.length c∧l.length≤c∧l.length≤9223372036854775807∧∀ i s,l[i]?=some s→∃ b off,a=some ⟨b,off,none⟩∧w.cell? ⟨b,off+i,none⟩=some (.string s):=by
 obtain⟨a,c,h1,h2,h3,h4⟩:=SliceAt.form h (by decide);refine⟨a,c,h1,h2,h3,fun i s hs=>?_⟩;have hi:=(au_.1 hs).1;obtain⟨b,off,ha,hc⟩:=h4 i hi;have h5:=hc 0 (.string s) (by rw[nr Jq hs 0 (by decide)];rfl);simp only[Nat.mul_one,Nat.add_zero] at h5;exact⟨b,off,ha,h5⟩
def N5(l:List ByteArray)(s:ByteArray)(i:Nat):Bool:=match l[i]? with
 | some x=>decide (x.toList=s.toList)
 | none=>false
def hasB(l:List ByteArray)(s:ByteArray):Bool:=fI (N5 l s) l.length 0
theorem Gs{l:List ByteArray}{s x:ByteArray}{i:Nat}(h:l[i]?=some x):N5 l s i=decide (x.toList=s.toList):=by unfold N5;rw[h]
theorem Ko(w:World)(s:ByteArray)(v:Value)(l:List ByteArray)(h:aF w v l):Calls Tryz.prog 193 #[.string s,v] w fun e w'=>e=.returned (.bool (hasB l s))∧w=w':=by
 obtain⟨a,c,rfl,hc,hm,hcell⟩:=h.open;obtain⟨n,hn⟩:∃ n,n=l.length:=⟨_,rfl⟩;have HN:=avk hn;have HC:=avk hcell;unfold hasB;rw[← hn] at hc hm ⊢;clear hcell h hn
 go_enter Tryz.func193,Tryz.ntmps193
 go_wp2_with fail
 go_loopw [5] (fun i wr=>wr=w∧∃ k:Nat,k≤n∧i=.int .i64 k∧Hid (fI (N5 l s) n 0=fI (N5 l s) (n-k) k)) (fun i _=>n-(intOf i).toNat)
 case atStart=>exact⟨rfl,0,avh _,rfl,avk (by rw[Nat.sub_zero])⟩
 case round=>
  obtain⟨rfl,k,hk,rfl,hinv⟩:=hrel;by_cases hlt:k<n
  ·obtain⟨x,hx⟩:∃ x,l[k]?=some x:=⟨_,ava (by rw[← HN.out];exact hlt)⟩;have HX:=avk hx;obtain⟨b,off,rfl,k0⟩:=HC.out k x hx;clear hx;by_cases he:x.toList=s.toList
   ·have HB:=avk (show N5 l s k=true by rw[Gs HX.out];simp[he])
    go_wp2_with fail
    go_ret
    exact⟨aD (by rw[hinv.out,eM hlt HB.out]),rfl⟩
   ·have HB:=avk (show N5 l s k=false by rw[Gs HX.out];simp[he]);have hb1:(x.toList == s.toList)=false:=by simp[he]
    go_wp2_with fail
    go_roundw
    case rel=>exact⟨by first|trivial|rfl,k+1,by omega,by go_num,avk (hinv.out.trans (j6 hlt HB.out))⟩
    case measure=>simp[intOf];omega
  ·obtain rfl:k=n:=by omega
   go_wp2_with fail
   go_ret
   exact⟨aD (by rw[hinv.out,iR]),rfl⟩
def tT(l o:List ByteArray)(i:Nat):Int:=match l[i]? with
 | some s=>if iO s=true then (if hasB (l.take i) s=true then 12 else if hasB o s=true then 12 else 0) else 10
 | none=>0
def bM(l o:List ByteArray):Int:=aH (tT l o) l.length 0
theorem xP{l o:List ByteArray}{s:ByteArray}{i:Nat}(h:l[i]?=some s):tT l o i=if iO s=true then (if hasB (l.take i) s=true then 12 else if hasB o s=true then 12 else 0) else 10:=by unfold tT;rw[h]
theorem E5{P:Program}{a:Act}{w:World}{o:Oper}{t e:TypeId}{x hi:Operand}{g off n c h k:Nat}{hk:IntKind}(ho:o.op=.slice t x none (some hi) none)(hx:a.eval x=.slice (some ⟨g,off,none⟩) n c)(hh:a.eval hi=.int hk (h:Int))(hhc:h≤c)(hc:0<c)
 (hu:P.underlying t=some (.slice e)) (hs:(P.info? e).map (·.size)=some k):(execOp a.eval o).run P w=.ok (.value (.slice (some ⟨g,off,none⟩) h c)) w:=by
 have hadd:(⟨g,off,none⟩:Addr).add 0=⟨g,off,none⟩:=by unfold Addr.add;split<;>simp_all
 have h1:(0:Int)≤(h:Int)∧(h:Int)≤(c:Int):=by omega
 have hne:¬ c=0:=by omega
 unfold execOp;simp[ho,hx,hh,Instr.sliceAt,Sem.run_bind,run_underlying hu w,Result.andThen_ok,Instr.slice,Instr.sliceBounds,Instr.sliceBound,asIntOf,Sem.run_pure,h1,run_sizeOf hs,hne,hadd];intro h';omega
theorem fA(w:World)(v v':Value)(l o:List ByteArray)(h:aF w v l)(ho:aF w v' o)(hok:∀ s∈l,dw s):Calls Tryz.prog 101 #[v,v'] w fun e w'=>e=.returned (.int .i64 (bM l o))∧avc w.heap.size w w':=by
 obtain⟨a,c,rfl,EX,hget⟩:=aF.get h;obtain⟨_,_,rfl,-⟩:=aF.get ho;have hcl:l.length≤c:=by obtain⟨_,_,e,hk,-⟩:=SliceAt.form h (by decide);injection e with e1 e2 e3;omega
 unfold bM;refine bP [] (fn:=Tryz.f101) Tryz.func101 rfl Tryz.ntmps101 rfl<|lr (ι:=Nat) (fun m=>[(5,.int .i64 (m:Int))]) (fun m _=>m≤l.length∧aH (tT l o) l.length 0=aH (tT l o) (l.length-m) m) (fun m=>l.length-m) 0 (an ⟨⟨rfl,trivial⟩,fun M=>⟨M,avh _,by rw[Nat.sub_zero]⟩⟩ ?_);rintro m w1 M ⟨hm,hinv⟩;refine an (fun h2=>?_) fun h2 M=>⟨ri (by rw[hinv,show m=l.length by simp at h2;omega,cL]),M.below⟩
 have hlt:m<l.length:=by simp at h2;omega
 obtain⟨s,hs⟩:∃ s,l[m]?=some s:=⟨_,ava hlt⟩;obtain⟨b,off,rfl,hc⟩:=hget m s hs;have hcf:=xP (o:=o) hs;have out:∀ v:Int,tT l o m=v→v≠0→aH (tT l o) l.length 0=v:=fun v h1 h2=>by rw[hinv,cM hlt (by rw[h1];exact h2),h1]
 refine ia<|an ⟨rfl,rfl,hlt⟩<|lc (x:=.string s)<|an (cell_later M.below hc)<|cl<|an ((CN _ s (hok s (avb hs))).mono fun _ _ ⟨h1,h2⟩=>⟨h1,h2▸Below.refl _ _⟩) fun w2 M2=>an (fun h3 M=>⟨ri (out 10 (by rw[hcf,if_neg (by simpa using h3)]) (by decide)),M.below⟩) fun h3=>?_
 rw[if_pos (by simpa using h3)] at hcf;refine dr (by kernel_rfl)<|ia<|an ⟨rfl,rfl,hlt⟩<|lc (x:=.string s)<|an (cell_later M2.below hc)<|ei (x:=.slice (some ⟨b,off,none⟩) m c)<|an (fun a w o ho hv=>E5 ho (dU hv) (fE hv) (by omega) (by omega) u28 sz9)<|cl<|an (fun w' hb M'=>(Ko w' s _ _ ((aF.front h rfl (Nat.le_of_lt hlt)).keep M'.below)).mono fun _ _ ⟨h1,h2⟩=>⟨h1,h2▸Below.refl _ _⟩)<|ia<|an (fun _=>⟨rfl,rfl,hlt⟩)<|lc (x:=.string s)<|an (fun _=>cell_later M2.below hc)<|cl<|an (fun _ w' hb M'=>(Ko w' s _ _ (ho.keep M'.below)).mono fun _ _ ⟨h1,h2⟩=>⟨h1,h2▸Below.refl _ _⟩) fun w3 pQ M3=>an (fun h4 M=>⟨ri (out 12 ?_ (by decide)),M.below⟩) fun h4=>an (by omega)<|bk (m+1) ⟨rfl,trivial⟩ (fun M=>⟨M,by omega,hinv.trans (bO hlt ?_)⟩) (by dsimp only;omega)
 all_goals rw[hcf];clear out hinv hcf;cases h5:hasB (l.take m) s<;>cases h6:hasB o s<;>simp_all
theorem abK:(Tryz.prog.info? 89).map (·.size)=some 10:=by kernel_rfl
theorem DE(n:Nat):(ay.all n).Ok:=Ir _
def dF(s:ay):Bool:=!(decide (s=ay.zero))
theorem oM(x y:ay)(w:World):(Op.equalIn 10000 54 (.agg #[.int .u64 x.a,.int .u64 x.b,.int .u64 x.c,.int .u64 x.d]) (.agg #[.int .u64 y.a,.int .u64 y.b,.int .u64 y.c,.int .u64 y.d])).run Tryz.prog w=.ok (decide (x=y)) w:=by
 rw[show(10000:Nat)=9998+2 from rfl,mG];congr 1;rw[avg];obtain⟨x_a,x_b,x_c,x_d⟩:=x;obtain⟨y_a,y_b,y_c,y_d⟩:=y;simp only[decide_eq_true_eq,ay.mk.injEq,Int.natCast_inj]
theorem gG(w:World)(s:ay)(hs:s.Ok)(n:Nat)(hn:n≤140737488355328):Calls Tryz.prog 103 #[.agg #[.int .u64 s.a,.int .u64 s.b,.int .u64 s.c,.int .u64 s.d],.int .i64 (n:Int)] w fun e w'=>e=.returned (.tuple #[.bool (dF s),.bool (s.within (ay.all n))])∧avc w.heap.size w w':=by
 exact bP [] (fn:=Tryz.f103) Tryz.func103 rfl Tryz.ntmps103 rfl<|fun g1 w1 M1=>dr (by kernel_rfl)<|lb 0<|an rfl<|ei (x:=.agg #[.int .u64 0,.int .u64 0,.int .u64 0,.int .u64 0])<|an (bd (by kernel_rfl))<|ei (x:=decide (s=ay.zero))<|an ⟨rA,fun w=>oM s ay.zero w⟩<|lb 0<|an rfl<|cl<|an (fun w' hb' M'=>Cc w' n hn)<|cl<|an (fun w' hb' M'=>qG w' s _ hs (DE n))<|fun w hb M=>fun M=>⟨rfl,M.below⟩
def xw(n:Nat)(s:ay):Bool:=s.within (ay.all n).unit
theorem jv(w:World)(c0 c1 c2 c3 c4 c5 c6 c7 c8 c9 aQ aL aK aP aO aN aM:Value)(p:aA)(hp:aJ w c0 c1 c2 c3 c4 c5 c6 c7 c8 c9 aQ aL aK aP aO aN aM p)(hok:p.Ok)(s:ay)(hs:s.Ok):Calls Tryz.prog 106 #[.agg #[c0,c1,c2,c3,c4,c5,c6,c7,c8,c9,aQ,aL,aK,aP,aO,aN,aM],.agg #[.int .u64 s.a,.int .u64 s.b,.int .u64 s.c,.int .u64 s.d]] w fun e w'=>e=.returned (.bool (xw p.roles.length s))∧avc w.heap.size w w':=by
 obtain⟨_,_,_,_,_,_,_,_,_,_,_,_,_,_,_,_,_,_,_,_,_,_,_,_,_,_,_,_,_,_,_,_,_,_,rfl,rfl,rfl,rfl,rfl,rfl,rfl,rfl,rfl,rfl,rfl,rfl,rfl,rfl,rfl,rfl,rfl⟩:=hp.open;have hn3:p.roles.length≤140737488355328:=hok.U5;exact bP [] (fn:=Tryz.f106) Tryz.func106 rfl Tryz.ntmps106 rfl<|fun g1 w1 M1=>fun g2 w2 M2=>dr (by kernel_rfl)<|lb 0<|an rfl<|lb 1<|an rfl<|cl<|an (fun w' hb' M'=>Cc w' _ hn3)<|cl<|an (fun w' hb' M'=>D6 w' (ay.all p.roles.length) (DE _))<|cl<|an (fun w' hb' M'=>qG w' s _ hs (ay.Yb (DE _)))<|fun w hb M=>fun M=>⟨rfl,M.below⟩
def xV(nS nC:Nat)(l:sM):Bool:=bh l.aW (nS:Int)&&(decide ((64:Int)≤(nC:Int))||decide ((l.cats:Int)/2^nC=0))
theorem xU(w:World)(c0 c1 c2 c3 c4 c5 c6 c7 c8 c9 aQ aL aK aP aO aN aM:Value)(p:aA)(hp:aJ w c0 c1 c2 c3 c4 c5 c6 c7 c8 c9 aQ aL aK aP aO aN aM p)(l:sM)(hl:l.Ok):Calls Tryz.prog 108 #[.agg #[c0,c1,c2,c3,c4,c5,c6,c7,c8,c9,aQ,aL,aK,aP,aO,aN,aM],.agg #[.int .i64 l.aW,.int .u64 l.cats]] w fun e w'=>e=.returned (.bool (xV p.aW.length p.cats.length l))∧avc w.heap.size w w':=by
 obtain⟨a6,k6,rfl,hk6,hm6⟩:=aJ.f6 hp;obtain⟨n6,hn6⟩:∃ n,n=p.aW.length:=⟨_,rfl⟩;have N6:=avk hn6;rw[← hn6] at hk6 hm6 ⊢;clear hn6;obtain⟨a7,k7,rfl,hk7,hm7⟩:=aJ.f7 hp;obtain⟨n7,hn7⟩:∃ n,n=p.cats.length:=⟨_,rfl⟩;have N7:=avk hn7;rw[← hn7] at hk7 hm7 ⊢;clear hn7;have hcl:l.cats<18446744073709551616:=hl.cats;clear hp hl;obtain⟨wo,jB⟩:∃ wo,wo=((w).alloc (.cells #[c0,c1,c2,c3,c4,c5,.slice a6 n6 k6,.slice a7 n7 k7,c8,c9,aQ,aL,aK,aP,aO,aN,aM] 39)).alloc (.cells #[.int .i64 l.aW,.int .u64 l.cats] 70):=⟨_,rfl⟩;have W0:=avk (show Whole wo w.heap.size 39 #[c0,c1,c2,c3,c4,c5,.slice a6 n6 k6,.slice a7 n7 k7,c8,c9,aQ,aL,aK,aP,aO,aN,aM] by rw[jB];exact((show Whole _ w.heap.size 39 #[c0,c1,c2,c3,c4,c5,.slice a6 n6 k6,.slice a7 n7 k7,c8,c9,aQ,aL,aK,aP,aO,aN,aM] from Whole.new w 39 _).alloc _));have W1:=avk (show Whole wo (w.heap.size+1) 70 #[.int .i64 l.aW,.int .u64 l.cats] by rw[jB];exact(wS w _ _ _));have zM:=avk (show avc w.heap.size w wo by rw[jB];exact(((Below.refl _ w).alloc (Nat.le_refl _) _).alloc (by simp) _));have ka6:wo.cell? ⟨w.heap.size,6,none⟩=some (.slice a6 n6 k6):=W0.out.cell 6;have ka7:wo.cell? ⟨w.heap.size,7,none⟩=some (.slice a7 n7 k7):=W0.out.cell 7;have kb0:wo.cell? ⟨w.heap.size+1,0,none⟩=some (.int .i64 l.aW):=W1.out.cell 0;have kb1:wo.cell? ⟨w.heap.size+1,1,none⟩=some (.int .u64 l.cats):=W1.out.cell 1;unfold xV
 cases hb:bh l.aW (n6:Int) with
 | false=>
  have H1:=avk hb;clear hb
  go_enter Tryz.func108,Tryz.ntmps108
  go_upto_region 1 with(fail)
  rw[← jB];clear jB
  go_wp2_with (have hZ:=H1;clear hZ;go_at_call 113;go_must (refine(show Calls Tryz.prog 113 _ _ (fun e w'=>e=.returned (.bool false)∧wo=w') from by have h:=fU wo l.aW (n6:Int);rw[H1.out] at h;exact h).mono ?_;rintro e w' ⟨rfl,rfl⟩;clear H1))
  go_ret
  exact⟨rfl,zM.out⟩
 | true=>
  have H1:=avk hb;clear hb;by_cases h64:(64:Int)≤(n7:Int)
  ·have d1:decide ((64:Int)≤(n7:Int))=true:=by simp;omega
   rw[d1]
   go_enter Tryz.func108,Tryz.ntmps108
   go_upto_region 1 with(fail)
   rw[← jB];clear jB
   go_wp2_with (have hZ:=H1;clear hZ;go_at_call 113;go_must (refine(show Calls Tryz.prog 113 _ _ (fun e w'=>e=.returned (.bool true)∧wo=w') from by have h:=fU wo l.aW (n6:Int);rw[H1.out] at h;exact h).mono ?_;rintro e w' ⟨rfl,rfl⟩;clear H1))
   go_ret
   exact⟨rfl,zM.out⟩
  ·have d1:decide ((64:Int)≤(n7:Int))=false:=by simp;omega
   rw[d1];have h7:n7<64:=by omega
   go_enter Tryz.func108,Tryz.ntmps108
   go_upto_region 1 with(fail)
   rw[← jB];clear jB
   go_wp2_with (have hZ:=H1;clear hZ;go_at_call 113;go_must (refine(show Calls Tryz.prog 113 _ _ (fun e w'=>e=.returned (.bool true)∧wo=w') from by have h:=fU wo l.aW (n6:Int);rw[H1.out] at h;exact h).mono ?_;rintro e w' ⟨rfl,rfl⟩;clear H1))
   go_ret
   exact⟨aD (by first|rfl|(simp<;>rfl)),zM.out⟩
def tO(nS nC:Nat)(r:wH):Bool:=xV nS nC r.low&&xV nS nC r.high&&yG r.high r.low
theorem xD(w:World)(c0 c1 c2 c3 c4 c5 c6 c7 c8 c9 aQ aL aK aP aO aN aM:Value)(p:aA)(hp:aJ w c0 c1 c2 c3 c4 c5 c6 c7 c8 c9 aQ aL aK aP aO aN aM p)(r:wH)(hr:r.Ok):Calls Tryz.prog 107 #[.agg #[c0,c1,c2,c3,c4,c5,c6,c7,c8,c9,aQ,aL,aK,aP,aO,aN,aM],.agg #[.int .i64 r.low.aW,.int .u64 r.low.cats,.int .i64 r.high.aW,.int .u64 r.high.cats]] w fun e w'=>e=.returned (.bool (tO p.aW.length p.cats.length r))∧avc w.heap.size w w':=by
 obtain⟨_,_,_,_,_,_,_,_,_,_,_,_,_,_,_,_,_,_,_,_,_,_,_,_,_,_,_,_,_,_,_,_,_,_,rfl,rfl,rfl,rfl,rfl,rfl,rfl,rfl,rfl,rfl,rfl,rfl,rfl,rfl,rfl,rfl,rfl⟩:=hp.open;exact bP [] (fn:=Tryz.f107) Tryz.func107 rfl Tryz.ntmps107 rfl<|fun g1 w1 M1=>fun g2 w2 M2=>lb 1<|an rfl<|lb 0<|an rfl<|cl<|an (xU _ _ _ _ _ _ _ _ _ _ _ _ _ _ _ _ _ _ p (hp.keep M2.below) r.low hr.low) fun w3 M3=>lb 1<|an (fun _=>rfl)<|lb 0<|an (fun _=>rfl)<|cl<|an (fun _=>xU _ _ _ _ _ _ _ _ _ _ _ _ _ _ _ _ _ _ p (hp.keep M3.below) r.high hr.high) fun w4 M4=>lb 0<|an (fun _=>rfl)<|lb 0<|an (fun _=>rfl)<|cl<|an (fun _=>vU _ r.high r.low hr.high hr.low) fun w5 M5=>fun M=>⟨rfl,M.below⟩
def fH(cl:List jL)(c:Int)(v:Int):Bool:=match (if 0≤c then cl[c.toNat]? else none) with
 | some x=>decide ((32:Int)≤(x.perms.length:Int))||decide (v/2^x.perms.length=0)
 | none=>false
theorem yZ{cl:List jL}{c v:Int}(h:bh c (cl.length:Int)=false):fH cl c v=false:=by
 unfold fH;by_cases h0:0≤c
 ·rw[if_pos h0,List.getElem?_eq_none (by unfold bh at h;simp[h0] at h;omega)]
 ·rw[if_neg h0]
theorem Bz(w:World)(c0 c1 c2 c3 c4 c5 c6 c7 c8 c9 aQ aL aK aP aO aN aM:Value)(p:aA)(hp:aJ w c0 c1 c2 c3 c4 c5 c6 c7 c8 c9 aQ aL aK aP aO aN aM p)(c v:Int)(hv:QF v):Calls Tryz.prog 111 #[.agg #[c0,c1,c2,c3,c4,c5,c6,c7,c8,c9,aQ,aL,aK,aP,aO,aN,aM],.int .i64 c,.int .u32 v] w fun e w'=>e=.returned (.bool (fH p.classes c v))∧avc w.heap.size w w':=by
 obtain⟨a0,k0,rfl,hk0,hm0,hcell⟩:=aq.form hp.classes (by decide);obtain⟨n0,hn0⟩:∃ n,n=p.classes.length:=⟨_,rfl⟩;have N0:=avk hn0;have HC:=avk hcell;rw[← hn0] at hk0 hm0 ⊢;have hv':0≤v∧v<4294967296:=hv;clear hn0 hcell hp hv;obtain⟨wo,jB⟩:∃ wo,wo=(w).alloc (.cells #[.slice a0 n0 k0,c1,c2,c3,c4,c5,c6,c7,c8,c9,aQ,aL,aK,aP,aO,aN,aM] 39):=⟨_,rfl⟩;have W0:=avk (show Whole wo w.heap.size 39 #[.slice a0 n0 k0,c1,c2,c3,c4,c5,c6,c7,c8,c9,aQ,aL,aK,aP,aO,aN,aM] by rw[jB];exact(Whole.new w 39 _));have zM:=avk (show avc w.heap.size w wo by rw[jB];exact((Below.refl _ w).alloc (Nat.le_refl _) _));have ka0:wo.cell? ⟨w.heap.size,0,none⟩=some (.slice a0 n0 k0):=W0.out.cell 0
 cases hb:bh c (n0:Int) with
 | false=>
  have H1:=avk hb;rw[yZ (by rw[← N0.out];exact hb)];clear hb
  go_enter Tryz.func111,Tryz.ntmps111
  go_upto_region 1 with(fail)
  rw[← jB];clear jB
  go_wp2_with (have hZ:=H1;clear hZ;go_at_call 113;go_must (refine(show Calls Tryz.prog 113 _ _ (fun e w'=>e=.returned (.bool false)∧wo=w') from by have h:=fU wo c (n0:Int);rw[H1.out] at h;exact h).mono ?_;rintro e w' ⟨rfl,rfl⟩;clear H1))
  go_ret
  exact⟨rfl,zM.out⟩
 | true=>
  have H1:=avk hb;obtain⟨hc0,XQ⟩:0≤c∧c<(n0:Int):=by unfold bh at hb;simpa using hb
  obtain⟨i,rfl⟩:∃ i:Nat,c=i:=⟨c.toNat,by omega⟩;obtain⟨x,hx⟩:∃ x,p.classes[i]?=some x:=⟨_,ava (by have:=N0.out;omega)⟩
  have hval:fH p.classes (i:Int) v=(decide ((32:Int)≤(x.perms.length:Int))||decide (v/2^x.perms.length=0)):=by
   unfold fH;rw[if_pos hc0];simp only[Int.toNat_natCast,hx]
  rw[hval];obtain⟨b,off,cs,rfl,hrow,hlen,hcc⟩:=HC.out i x hx;obtain⟨pv,rfl,hst⟩:=hrow;obtain⟨a1,k1,rfl,hk1,hm1,-⟩:=hst.open;have kx:wo.cell? ⟨b,off+i*2+1,none⟩=some (.slice a1 x.perms.length k1):=cell_later zM.out (hcc 1 _ rfl);obtain⟨m,hm⟩:∃ m,m=x.perms.length:=⟨_,rfl⟩;rw[← hm] at kx hm1 hk1 ⊢;clear hb hval hx hst hcc hm;by_cases h32:(32:Int)≤(m:Int)
  ·have d1:decide ((32:Int)≤(m:Int))=true:=by simp;omega
   rw[d1]
   go_enter Tryz.func111,Tryz.ntmps111
   go_upto_region 1 with(fail)
   rw[← jB];clear jB
   go_wp2_with (have hZ:=H1;clear hZ;go_at_call 113;go_must (refine(show Calls Tryz.prog 113 _ _ (fun e w'=>e=.returned (.bool true)∧wo=w') from by have h:=fU wo (i:Int) (n0:Int);rw[H1.out] at h;exact h).mono ?_;rintro e w' ⟨rfl,rfl⟩;clear H1))
   go_ret
   exact⟨rfl,zM.out⟩
  ·have d1:decide ((32:Int)≤(m:Int))=false:=by simp;omega
   rw[d1];have h7:m<32:=by omega
   go_enter Tryz.func111,Tryz.ntmps111
   go_upto_region 1 with(fail)
   rw[← jB];clear jB
   go_wp2_with (have hZ:=H1;clear hZ;go_at_call 113;go_must (refine(show Calls Tryz.prog 113 _ _ (fun e w'=>e=.returned (.bool true)∧wo=w') from by have h:=fU wo (i:Int) (n0:Int);rw[H1.out] at h;exact h).mono ?_;rintro e w' ⟨rfl,rfl⟩;clear H1))
   go_ret
   exact⟨aD (by first|rfl|(simp<;>rfl)),zM.out⟩
def bw:Nat→ak→Int
 | 0,_=>0
 | m+1,e=>mo (fun i=>match e.kids[i]? with|some k=>bw m k|none=>0) e.kids.length+1
theorem jU:∀ (m:Nat) (e:ak),0≤bw m e∧bw m e≤m
 | 0,_=>⟨Int.le_refl 0,Int.le_refl 0⟩
 | m+1,e=>by
  unfold bw;have h1:=jS (fun i=>match e.kids[i]? with|some k=>bw m k|none=>0) e.kids.length
  have h2:=xQ (f:=fun i=>match e.kids[i]? with|some k=>bw m k|none=>0) (b:=m) (by omega) e.kids.length fun i _=>by
   split
   ·exact(jU m _).2
   ·omega
  omega
theorem Nt:∀ (m:Nat) (w:World) (cs:List Value) (e:ak),m≤13→aZ w cs e→Calls Tryz.prog 100 #[.agg cs.toArray,.int .i64 (m:Int)] w fun r w'=>r=.returned (.int .i64 (bw m e))∧avc w.heap.size w w':=by
 intro m
 induction m with
 | zero=>
  intro w cs e _ h;obtain⟨_,_,rfl,hn,hk⟩:=h.open;obtain⟨_,_,rfl,-⟩:=aF.get hn;obtain⟨_,_,rfl,-⟩:=aq.form hk (by decide);refine bP [] (fn:=Tryz.f100) Tryz.func100 rfl Tryz.ntmps100 rfl<|fun g1 w1 M1=>?_
  exact an (fun _ M=>⟨rfl,M.below⟩) fun h=>by simp at h
 | succ m ih=>
  intro w cs e hm h;obtain⟨_,_,rfl,hn,hk⟩:=h.open;obtain⟨_,_,rfl,-⟩:=aF.get hn;obtain⟨_,_,rfl,-,hkm,-⟩:=aq.form hk (by decide);refine bP [] (fn:=Tryz.f100) Tryz.func100 rfl Tryz.ntmps100 rfl<|fun g1 w1 M1=>?_
  refine an (fun h=>by simp at h;omega) fun _=>?_
  refine lr (ι:=Nat) (fun k=>[(5,.int .i64 (mo (fun i=>match e.kids[i]? with|some k=>bw m k|none=>0) k)),(6,.int .i64 (k:Int))]) (fun k _=>k≤e.kids.length) (fun k=>e.kids.length-k) 0 (an ⟨⟨rfl,rfl,trivial⟩,fun M=>⟨M,avh _⟩⟩ ?_);intro k w M hkl;have hx:=jS (fun i=>match e.kids[i]? with|some k=>bw m k|none=>0) k
  have hz:=xQ (f:=fun i=>match e.kids[i]? with|some k=>bw m k|none=>0) (b:=m) (by omega) k fun i _=>by
   split
   ·exact(jU m _).2
   ·omega
  refine lb 0<|an rfl<|an (fun h1=>?_) fun h1=>?_
  ·have hlt:k<e.kids.length:=by simp at h1;omega
   obtain⟨y,hy⟩:∃ y,e.kids[k]?=some y:=⟨_,ava hlt⟩;obtain⟨b,o,_,e1,hE,hc⟩:=aq.elt hk (by decide) hy;obtain⟨_,_,rfl,hn2,hk2⟩:=hE.open;obtain⟨_,_,rfl,-⟩:=aF.get hn2;obtain⟨_,_,rfl,-⟩:=aq.form hk2 (by decide);refine lb 0<|an rfl<|ia<|an ⟨e1,rfl,hlt⟩<|lc<|an (bY M.below hc)<|an (by omega)<|cl (v:=.int .i64 (bw m y))<|an ?_ fun w2 M2=>fbp M2 (v:=.int .i64 (mo (fun i=>match e.kids[i]? with|some k=>bw m k|none=>0) (k+1))) (fun a o ho hv=>?_)<|?_
   ·have h2:=ih _ _ y (by omega) (hE.keep M.below)
    rwa [show((m:Nat):Int)=((m+1:Nat):Int)-1 by omega] at h2
   ·rw[Di ho (dU hv) (fE hv)]
    have e2:mo (fun i=>match e.kids[i]? with|some k=>bw m k|none=>0) (k+1)=max (mo (fun i=>match e.kids[i]? with|some k=>bw m k|none=>0) k) (bw m y):=by
     show max _ (match e.kids[k]? with|some k=>bw m k|none=>0)=_;rw[hy]
    rw[e2,Int.max_def];congr 3;split<;>split<;>omega
   ·exact an (by omega)<|bk (k+1) ⟨rfl,rfl,trivial⟩ (fun M=>⟨M,by omega⟩) (by dsimp only;omega)
  ·obtain rfl:k=e.kids.length:=by simp at h1;omega
   exact an (by omega) fun M=>⟨rfl,M.below⟩
def oK(o:Int):Int:=if o=1 then 0 else if o=8 then 0 else if o=9 then 0 else if o=2 then 1 else if o=3 then 2 else if o=4 then 2 else if o=5 then 2 else if o=6 then 2 else if o=7 then 2 else -1
theorem J4(w:World)(o:Int):Calls Tryz.prog 244 #[.int .i64 o] w fun e w'=>e=.returned (.int .i64 (oK o))∧w=w':=by
 unfold oK;by_cases h0:o=1
 ·rw[if_pos h0];subst h0
  go_enter Tryz.func244,Tryz.ntmps244
  go_wp2
  go_ret
  exact⟨rfl,rfl⟩
 ·rw[if_neg h0];by_cases h1:o=8
  ·rw[if_pos h1];subst h1
   go_enter Tryz.func244,Tryz.ntmps244
   go_wp2
   go_ret
   exact⟨rfl,rfl⟩
  ·rw[if_neg h1];by_cases h2:o=9
   ·rw[if_pos h2];subst h2
    go_enter Tryz.func244,Tryz.ntmps244
    go_wp2
    go_ret
    exact⟨rfl,rfl⟩
   ·rw[if_neg h2];by_cases h3:o=2
    ·rw[if_pos h3];subst h3
     go_enter Tryz.func244,Tryz.ntmps244
     go_wp2
     go_ret
     exact⟨rfl,rfl⟩
    ·rw[if_neg h3];by_cases h4:o=3
     ·rw[if_pos h4];subst h4
      go_enter Tryz.func244,Tryz.ntmps244
      go_wp2
      go_ret
      exact⟨rfl,rfl⟩
     ·rw[if_neg h4];by_cases h5:o=4
      ·rw[if_pos h5];subst h5
       go_enter Tryz.func244,Tryz.ntmps244
       go_wp2
       go_ret
       exact⟨rfl,rfl⟩
      ·rw[if_neg h5];by_cases h6:o=5
       ·rw[if_pos h6];subst h6
        go_enter Tryz.func244,Tryz.ntmps244
        go_wp2
        go_ret
        exact⟨rfl,rfl⟩
       ·rw[if_neg h6];by_cases h7:o=6
        ·rw[if_pos h7];subst h7
         go_enter Tryz.func244,Tryz.ntmps244
         go_wp2
         go_ret
         exact⟨rfl,rfl⟩
        ·rw[if_neg h7];by_cases h8:o=7
         ·rw[if_pos h8];subst h8
          go_enter Tryz.func244,Tryz.ntmps244
          go_wp2
          go_ret
          exact⟨rfl,rfl⟩
         ·rw[if_neg h8]
          go_enter Tryz.func244,Tryz.ntmps244
          go_wp2
          go_ret
          exact⟨rfl,rfl⟩
theorem pX(w:World)(cs:List Value)(e:ak)(h:aZ w cs e):Calls Tryz.prog 39 #[.agg cs.toArray] w fun r w'=>r=.returned (.int .i64 (bw 13 e))∧avc w.heap.size w w':=by
 have HE:=avk h;obtain⟨nv,kv,hcs,-,-⟩:=h.open;rw[hcs] at HE;subst hcs;clear h;show Calls Tryz.prog 39 #[.agg #[.int .i64 e.op,.int .i64 e.a,.int .i64 e.rel,.int .i64 e.b,nv,.int .u64 e.set.a,.int .u64 e.set.b,.int .u64 e.set.c,.int .u64 e.set.d,kv]] w _;obtain⟨wo,jB⟩:∃ wo,wo=(w).alloc (.cells #[.int .i64 e.op,.int .i64 e.a,.int .i64 e.rel,.int .i64 e.b,nv,.int .u64 e.set.a,.int .u64 e.set.b,.int .u64 e.set.c,.int .u64 e.set.d,kv] 89):=⟨_,rfl⟩;have W0:=avk (show Whole wo w.heap.size 89 #[.int .i64 e.op,.int .i64 e.a,.int .i64 e.rel,.int .i64 e.b,nv,.int .u64 e.set.a,.int .u64 e.set.b,.int .u64 e.set.c,.int .u64 e.set.d,kv] by rw[jB];exact(Whole.new w 89 _));have zM:=avk (show avc w.heap.size w wo by rw[jB];exact((Below.refl _ w).alloc (Nat.le_refl _) _))
 go_enter Tryz.func39,Tryz.ntmps39
 go_upto_region 1 with(fail)
 rw[← jB];clear jB
 go_wp2_with (first|(refine wpList_load_row rfl 89 _ rfl (w.heap.size) rfl 89 _ (0,0) _ W0.out Tryz.underlying89 rfl abK ?_)|(go_at_call 100;go_must (refine(Nt 13 wo _ e (by omega) (aZ.keep zM.out HE.out)).mono ?_;rintro r w1 ⟨rfl,hb1⟩;have Fq:=avk hb1;clear hb1)))
 go_ret
 exact⟨rfl,zM.out.trans (Fq.out.mono zM.out.size)⟩
def kX(e:ak):Bool:=(((((((decide (e.op=8)||decide (e.op=9))||(!decide (oK e.op=(e.kids.length:Int))))||(!decide (e.rel=0)))||(!decide (e.b=0)))||decide (0<(e.names.length:Int)))||(!decide (e.set=ay.zero)))||((!decide (e.op=1))&&(!decide (e.a=0))))
theorem ak.ind{M:ak→Prop}(h:∀ e,(∀ k∈e.kids,M k)→M e):∀ e,M e:=
 fun e=>ak.rec (motive_1:=M) (motive_2:=fun l=>∀ k∈l,M k) (fun _ _ _ _ _ _ _ ih=>h _ ih) (fun _ hk=>by cases hk) (fun _ _ hk hl x hx=>by
  rcases List.mem_cons.1 hx with rfl|hx
  ·exact hk
  ·exact hl x hx) e
mutual
def kQ(nB:Nat):ak→Int
 | .node op a rel b names set kids=>if kX (.node op a rel b names set kids)=true then 2 else if (decide (op=1)&&!bh a (nB:Int))=true then 3 else mH nB kids
def mH(nB:Nat):List ak→Int
 | []=>0
 | k::l=>if kQ nB k=0 then mH nB l else kQ nB k
end
theorem rF(nB:Nat)(e:ak):kQ nB e=if kX e=true then 2 else if (decide (e.op=1)&&!bh e.a (nB:Int))=true then 3 else mH nB e.kids:=by
 cases e;rw[kQ];rfl
theorem Dt{nB:Nat}{l:List ak}{k:Nat}{y:ak}(h:l[k]?=some y):mH nB (l.drop k)=if kQ nB y=0 then mH nB (l.drop (k+1)) else kQ nB y:=by
 obtain⟨hk,rfl⟩:=au_.1 h;rw[List.drop_eq_getElem_cons hk,mH]
section
variable {nB:Nat} {e:ak}
theorem SX(h:kX e=true):kQ nB e=2:=by rw[rF,if_pos h]
theorem SV(h:kX e=false)(h2:(decide (e.op=1)&&!bh e.a (nB:Int))=true):kQ nB e=3:=by rw[rF,if_neg (by rw[h];decide),if_pos h2]
theorem Dr(h:kX e=false)(h2:(decide (e.op=1)&&!bh e.a (nB:Int))=false):kQ nB e=mH nB e.kids:=by rw[rF,if_neg (by rw[h];decide),if_neg (by rw[h2];decide)]
end
theorem Ee:∀ e:ak,∀ (w0:World) (cs:List Value) (c0 c1 c2 c3 c4 c5 c6 c7 c8 c9 aQ aL aK aP aO aN aM:Value) (p:aA),aJ w0 c0 c1 c2 c3 c4 c5 c6 c7 c8 c9 aQ aL aK aP aO aN aM p→aZ w0 cs e→Calls Tryz.prog 196 #[.agg #[c0,c1,c2,c3,c4,c5,c6,c7,c8,c9,aQ,aL,aK,aP,aO,aN,aM],.agg cs.toArray] w0 (RI w0 (kQ p.bools.length e)):=by
 refine ak.ind fun e ih=>?_
 intro w0 cs c0 c1 c2 c3 c4 c5 c6 c7 c8 c9 aQ aL aK aP aO aN aM p hp h;obtain⟨nv,kv,rfl,D7,hk⟩:=h.open;obtain⟨_,_,rfl,-⟩:=aF.get D7;obtain⟨_,_,rfl,-,EX,-⟩:=aq.form hk (by decide);obtain⟨_,_,_,_,_,_,_,_,_,_,_,_,_,_,_,_,_,_,_,_,_,_,_,_,_,_,_,_,_,_,_,_,_,_,rfl,rfl,rfl,rfl,rfl,rfl,rfl,rfl,rfl,rfl,rfl,rfl,rfl,rfl,rfl,rfl,rfl⟩:=hp.open;refine bP [] (fn:=Tryz.f196) Tryz.func196 rfl Tryz.ntmps196 rfl<|fun g1 w1 M1=>fun g2 w2 M2=>dr (by kernel_rfl)<|lb 0<|an rfl<|lb 0<|an (fun _=>rfl)<|lb 0<|an (fun _=>rfl)<|cl<|an (fun _ w' hb M=>(J4 _ _).mono fun _ _ ⟨h1,h2⟩=>⟨h1,h2▸Below.refl _ _⟩)<|lb 0<|an (fun _=>rfl)<|lb 0<|an (fun _=>rfl)<|lb 0<|an (fun _=>rfl)<|lb 0<|an (fun _=>rfl)<|lb 0<|an (fun _=>rfl)<|ei (x:=.agg #[.int .u64 0,.int .u64 0,.int .u64 0,.int .u64 0])<|an (fun _=>bd (by kernel_rfl))<|ei<|an (fun _=>⟨rA,fun w=>nY e.set w⟩)<|lb 0<|an (fun _=>rfl)<|lb 0<|an (fun _=>rfl)<|fun w3 hb M3=>an (fun h1 M=>⟨ri (SX h1),M.below⟩) fun h1=>lb 0<|an rfl<|lb 0<|an (fun _=>rfl)<|lb 1<|an (fun _=>rfl)<|cl<|an (fun _=>(fU _ _ _).mono fun _ _ ⟨h1,h2⟩=>⟨h1,h2▸Below.refl _ _⟩) fun w4 M4=>an (fun h2 M=>⟨ri (SV h1 h2),M.below⟩) fun h2=>lr (ι:=Nat) (fun m=>[(5,.int .i64 (m:Int))]) (fun m _=>m≤e.kids.length∧mH p.bools.length e.kids=mH p.bools.length (e.kids.drop m)) (fun m=>e.kids.length-m) 0 (an ⟨⟨rfl,trivial⟩,fun M=>⟨M,avh _,rfl⟩⟩ ?_)
 rintro m w M ⟨hm,hinv⟩;refine lb 0<|an rfl<|an (fun h3=>?_) fun h3 M=>⟨ri (by rw[Dr h1 h2,hinv,show m=e.kids.length by simp at h3;omega,List.drop_length];rfl),M.below⟩
 have hlt:m<e.kids.length:=by simp at h3;omega
 obtain⟨y,hy⟩:∃ y,e.kids[m]?=some y:=⟨_,ava hlt⟩;obtain⟨b,o,_,e1,hE,hc⟩:=aq.elt hk (by decide) hy;obtain⟨nv',kv',rfl,hn',hk'⟩:=hE.open;obtain⟨_,_,rfl,-⟩:=aF.get hn';obtain⟨_,_,rfl,-⟩:=aq.form hk' (by decide);exact dr (by kernel_rfl)<|lb 1<|an rfl<|lb 0<|an rfl<|ia<|an ⟨e1,rfl,hlt⟩<|lc<|an (bY M.below hc)<|cl<|an (fun w' hb M'=>ih y (avb hy) w' _ _ _ _ _ _ _ _ _ _ _ _ _ _ _ _ _ _ p (hp.keep M'.below) (hE.keep M'.below)) fun w5 CU M5=>an (fun h4 M=>⟨ri (by rw[Dr h1 h2,hinv,Dt hy,if_neg (by simpa using h4)]),M.below⟩) fun h4=>an (by omega)<|bk (m+1) ⟨rfl,trivial⟩ (fun M=>⟨M,by omega,by rw[hinv,Dt hy,if_pos (by simpa using h4)]⟩) (by dsimp only;omega)
def cF(nB:Nat)(e:ak):Int:=if (12:Int)<bw 13 e then 4 else kQ nB e
theorem tD(e:ak)(w0:World)(cs:List Value)(c0 c1 c2 c3 c4 c5 c6 c7 c8 c9 aQ aL aK aP aO aN aM:Value)(p:aA)(hp:aJ w0 c0 c1 c2 c3 c4 c5 c6 c7 c8 c9 aQ aL aK aP aO aN aM p)(h:aZ w0 cs e):Calls Tryz.prog 110 #[.agg #[c0,c1,c2,c3,c4,c5,c6,c7,c8,c9,aQ,aL,aK,aP,aO,aN,aM],.agg cs.toArray] w0 (RI w0 (cF p.bools.length e)):=by
 obtain⟨nv,kv,rfl,-,-⟩:=h.open;have ct:=hr1 Tryz.prog Tryz.f110 (RI w0 (cF p.bools.length e)) 11 4 rfl;refine en Tryz.func110 rfl Tryz.ntmps110 rfl (vs:=[.agg #[c0,c1,c2,c3,c4,c5,c6,c7,c8,c9,aQ,aL,aK,aP,aO,aN,aM],.agg #[.int .i64 e.op,.int .i64 e.a,.int .i64 e.rel,.int .i64 e.b,nv,.int .u64 e.set.a,.int .u64 e.set.b,.int .u64 e.set.c,.int .u64 e.set.d,kv]]) rfl fun _ F=>?_
 have M:=Mm.start w0;refine avl fun K1 jq=>ah<|PZ (on rfl) rfl (F.u rf) rfl F rfl M fun g1 _ _ F M=>PZ (on rfl) rfl (F.u rf) rfl F rfl M fun g2 _ _ F M=>xA (v:=.int .i64 0) F rf rf rf fun _ F=>avm<|jq _ _ ?_
 refine avl fun K2 jW=>avl fun K3 pR=>ah<|xW F (M.b 0 rfl) rf rf rf O9 rf sF rf fun _ F=>xC F M rf rf q39 (args1 (F.u rf)) (pX _ _ e (aZ.keep M.below h)) fun _ _ F M=>kz F rf (KD rfl (F.u rf) rfl) fun _ F=>avm<|pR _ _ ?_
 refine wp_cond_split (F.e 7 rfl) (fun hc3=>?_) (fun hc3=>?_)
 ·have Wo:=of_decide_eq_true hc3;refine avl fun K4 p9=>ah<|xA (v:=.int .i64 4) F rf rf rf fun _ F=>avm<|p9 _ _ ?_
  refine wp_ret<|ct _ _ _ _ F rfl ?_;exact⟨iI (by unfold cF;repeat (first|with_reducible rfl|assumption|(with_reducible refine Eq.trans (if_pos ?_) ?_;focus (first|assumption|(refine sQ ?_;assumption)|(refine sP ?_;assumption)|omega|(simp[Wo];done)))|(with_reducible refine Eq.trans (if_neg ?_) ?_;focus (first|assumption|(refine sQ ?_;assumption)|(refine sP ?_;assumption)|omega|(simp[Wo];done)))|omega)),M.below⟩
 ·have Wn:=of_decide_eq_false hc3;refine wp_skip<|jW _ _ ?_;refine avl fun K5 q5=>ah<|xW F (M.b 1 rfl) rf rf rf O_ rf BO rf fun _ F=>xW F (M.b 0 rfl) rf rf rf O9 rf sF rf fun _ F=>xC F M rf rf ah5 (args2 (F.u rf) (F.u rf)) (Ee e _ _ _ _ _ _ _ _ _ _ _ _ _ _ _ _ _ _ _ p (hp.keep M.below) (aZ.keep M.below h)) fun _ _ F M=>xA F rf rf rf fun _ F=>avm<|q5 _ _ ?_
  refine wp_ret<|ct _ _ _ _ F rfl ?_;exact⟨iI (by unfold cF;repeat (first|with_reducible rfl|assumption|(with_reducible refine Eq.trans (if_pos ?_) ?_;focus (first|assumption|(refine sQ ?_;assumption)|(refine sP ?_;assumption)|omega|(simp[Wn];done)))|(with_reducible refine Eq.trans (if_neg ?_) ?_;focus (first|assumption|(refine sQ ?_;assumption)|(refine sP ?_;assumption)|omega|(simp[Wn];done)))|omega)),M.below⟩
end Go.Proofs.YtdcofoaihmongaaGreat
namespace Go.Proofs.YtdcofoaihmongaaGreat
open Go Go.RowKit
def jX(e:ak):Bool:=
 if e.op=2∨e.op=3∨e.op=4 then (((((decide ((e.kids.length:Int)=oK e.op)&&decide (e.a=0))&&decide (e.rel=0))&&decide (e.b=0))&&decide ((e.names.length:Int)=0))&&decide (e.set=ay.zero))
 else if e.op=8 then ((decide ((e.kids.length:Int)=0)&&decide ((e.names.length:Int)=0))&&decide (e.set=ay.zero))
 else if e.op=9 then (((decide ((e.kids.length:Int)=0)&&decide (e.rel=0))&&decide (e.b=0))&&decide ((e.names.length:Int)=0))
 else false
theorem Oh(w0:World)(cs:List Value)(e:ak)(h:aZ w0 cs e):Calls Tryz.prog 245 #[.agg cs.toArray] w0 (fun(r:Ending) (w':World)=>r=.returned (.bool (jX e))∧avc w0.heap.size w0 w'):=by
 obtain⟨nv,kv,rfl,D7,hk⟩:=h.open;obtain⟨_,_,rfl,-⟩:=aF.get D7;obtain⟨_,_,rfl,-,EX,-⟩:=aq.form hk (by decide);refine bP [] (fn:=Tryz.f245) Tryz.func245 rfl Tryz.ntmps245 rfl<|fun g1 w1 M1=>lb 0<|an rfl<|an (fun h=>an (fun _=>?_) fun h'=>by rw[h] at h';cases h') fun h1=>an (fun h=>an (fun _=>?_) fun h'=>by rw[h] at h';cases h') fun h2=>an (fun h=>?_) fun h3=>an (fun h4=>lb 0<|an rfl<|lb 0<|an (fun _=>rfl)<|lb 0<|an (fun _=>rfl)<|ei (x:=.agg #[.int .u64 0,.int .u64 0,.int .u64 0,.int .u64 0])<|an (fun _=>bd (by kernel_rfl))<|ei<|an (fun _=>⟨rA,fun w=>nY e.set w⟩)<|fun M=>⟨rb ?_,M.below⟩) fun h4=>an (fun h5=>lb 0<|an rfl<|lb 0<|an (fun _=>rfl)<|lb 0<|an (fun _=>rfl)<|lb 0<|an (fun _=>rfl)<|fun M=>⟨rb ?_,M.below⟩) fun h5 M=>⟨rb ?_,M.below⟩
 rotate_left 3
 ·simp only[decide_eq_true_eq,decide_eq_false_iff_not] at h1 h2 h3 h4;unfold jX;rw[if_neg (by omega),if_pos h4]
 ·simp only[decide_eq_true_eq,decide_eq_false_iff_not] at h1 h2 h3 h4 h5;unfold jX;rw[if_neg (by omega),if_neg h4,if_pos h5]
 ·simp only[decide_eq_false_iff_not] at h1 h2 h3 h4 h5;unfold jX;rw[if_neg (by omega),if_neg h4,if_neg h5]
 all_goals
  refine dr (by kernel_rfl)<|lb 0<|an rfl<|lb 0<|an rfl<|cl<|an (fun w' hb M=>(J4 _ _).mono fun _ _ ⟨h1,h2⟩=>⟨h1,h2▸Below.refl _ _⟩)<|lb 0<|an (fun _=>rfl)<|lb 0<|an (fun _=>rfl)<|lb 0<|an (fun _=>rfl)<|lb 0<|an (fun _=>rfl)<|lb 0<|an (fun _=>rfl)<|ei (x:=.agg #[.int .u64 0,.int .u64 0,.int .u64 0,.int .u64 0])<|an (fun _=>bd (by kernel_rfl))<|ei<|an (fun _=>⟨rA,fun w=>nY e.set w⟩)<|fun w2 hb2 M2 M=>⟨rb ?_,M.below⟩
  simp only[decide_eq_true_eq] at h;unfold jX;rw[if_pos (by omega)]
def kT(nU nR nT k:Nat):Int:=if k%5=0 then (nU:Int) else if k%5=1 then (nR:Int) else if k%5=2 then (nT:Int) else -1
theorem Nh(w:World)(c0 c1 c2 c3 c4 c5 c6 c7 c8 c9 aQ aL aK aP aO aN aM:Value)(p:aA)(hp:aJ w c0 c1 c2 c3 c4 c5 c6 c7 c8 c9 aQ aL aK aP aO aN aM p)(k:Nat)(hk:k<1000):Calls Tryz.prog 247 #[.agg #[c0,c1,c2,c3,c4,c5,c6,c7,c8,c9,aQ,aL,aK,aP,aO,aN,aM],.int .i64 (k:Int)] w fun e w'=>e=.returned (.int .i64 (kT p.users.length p.roles.length p.types.length k))∧avc w.heap.size w w':=by
 obtain⟨a1,k1,rfl,hk1,hm1⟩:=aJ.f1 hp;obtain⟨n1,hn1⟩:∃ n,n=p.types.length:=⟨_,rfl⟩;have N1:=avk hn1;rw[← hn1] at hk1 hm1 ⊢;clear hn1;obtain⟨a3,k3,rfl,hk3,hm3⟩:=aJ.f3 hp;obtain⟨n3,hn3⟩:∃ n,n=p.roles.length:=⟨_,rfl⟩;have N3:=avk hn3;rw[← hn3] at hk3 hm3 ⊢;clear hn3;obtain⟨a4,k4,rfl,hk4,hm4⟩:=aJ.f4 hp;obtain⟨n4,hn4⟩:∃ n,n=p.users.length:=⟨_,rfl⟩;have N4:=avk hn4;rw[← hn4] at hk4 hm4 ⊢;clear hn4;clear hp;unfold kT;obtain⟨wo,jB⟩:∃ wo,wo=(w).alloc (.cells #[c0,.slice a1 n1 k1,c2,.slice a3 n3 k3,.slice a4 n4 k4,c5,c6,c7,c8,c9,aQ,aL,aK,aP,aO,aN,aM] 39):=⟨_,rfl⟩;have W0:=avk (show Whole wo w.heap.size 39 #[c0,.slice a1 n1 k1,c2,.slice a3 n3 k3,.slice a4 n4 k4,c5,c6,c7,c8,c9,aQ,aL,aK,aP,aO,aN,aM] by rw[jB];exact(Whole.new w 39 _));have zM:=avk (show avc w.heap.size w wo by rw[jB];exact((Below.refl _ w).alloc (Nat.le_refl _) _));have kp1:wo.cell? ⟨w.heap.size,1,none⟩=some (.slice a1 n1 k1):=W0.out.cell 1;have kp3:wo.cell? ⟨w.heap.size,3,none⟩=some (.slice a3 n3 k3):=W0.out.cell 3;have kp4:wo.cell? ⟨w.heap.size,4,none⟩=some (.slice a4 n4 k4):=W0.out.cell 4;by_cases h0:k%5=0
 ·rw[if_pos h0]
  go_enter Tryz.func247,Tryz.ntmps247
  go_upto_region 1 with(fail)
  rw[← jB];clear jB
  go_wp2_with fail
  go_ret
  exact⟨rfl,zM.out⟩
 ·rw[if_neg h0];by_cases h1:k%5=1
  ·rw[if_pos h1]
   go_enter Tryz.func247,Tryz.ntmps247
   go_upto_region 1 with(fail)
   rw[← jB];clear jB
   go_wp2_with fail
   go_ret
   exact⟨rfl,zM.out⟩
  ·rw[if_neg h1];by_cases h2:k%5=2
   ·rw[if_pos h2]
    go_enter Tryz.func247,Tryz.ntmps247
    go_upto_region 1 with(fail)
    rw[← jB];clear jB
    go_wp2_with fail
    go_ret
    exact⟨rfl,zM.out⟩
   ·rw[if_neg h2];have g0:¬ ((k%5:Nat):Int)=0:=by omega
    have g1:¬ ((k%5:Nat):Int)=1:=by omega
    have g2:¬ ((k%5:Nat):Int)=2:=by omega
    go_enter Tryz.func247,Tryz.ntmps247
    go_upto_region 1 with(fail)
    rw[← jB];clear jB
    go_wp2_with fail
    go_ret
    exact⟨rfl,zM.out⟩
def Du(er:Int)(ka kb:Nat):Int:=if 3≤ka%5∧3≤kb%5 then 0 else if ¬ ka%5=kb%5 then 13 else if (1:Int)<er then 13 else 0
def rG(n:Nat)(e:ak):Int:=if bh e.a (n:Int)=false then 3 else if bh e.b (n:Int)=false then 3 else if bh e.rel 5=false then 3 else Du e.rel e.a.toNat e.b.toNat
theorem Dy(w:World)(i n:Int):Calls Tryz.prog 113 #[.int .i64 i,.int .i64 n] w fun e w'=>e=.returned (.bool (bh i n))∧avc w.heap.size w w':=(fU w i n).mono fun _ _ ⟨h1,h2⟩=>⟨h1,h2▸avc.refl _ _⟩
theorem aeK{P:Program}{a:Act}{w:World}{o:Oper}{ty yt:TypeId}{x y:Operand}{m:Int}(hm:0≤m)(ho:o.op=.binOp .rem ty x y yt)(hx:a.eval x=.int .i64 m)(hy:a.eval y=.int .i64 5):(execOp a.eval o).run P w=.ok (.value (.int .i64 ((m.toNat%5:Nat):Int))) w:=by
 unfold execOp;simp[ho,hx,hy,eqGuard,binOp,Op.intDiv];rw[Int.tmod_eq_emod_of_nonneg hm];omega
theorem F5(w:World)(cs:List Value)(e:ak)(h:aZ w cs e)(n:Nat):Calls Tryz.prog 246 #[.agg cs.toArray,.int .i64 (n:Int)] w fun r w'=>r=.returned (.int .i64 (rG n e))∧avc w.heap.size w w':=by
 obtain⟨nv,kv,rfl,-,-⟩:=h.open;refine bP [] (fn:=Tryz.f246) Tryz.func246 rfl Tryz.ntmps246 rfl<|fun g1 w1 M1=>lb 0<|an rfl<|cl<|an (Dy _ e.a n) fun w2 M2=>lb 0<|an (fun _=>rfl)<|cl<|an (fun _=>Dy _ e.b n) fun w3 M3=>lb 0<|an (fun _=>rfl)<|cl<|an (fun _=>Dy _ e.rel 5) fun w4 M4=>an (fun h M=>⟨ri ?_,M.below⟩) fun h=>?_
 ·unfold rG;cases h1:bh e.a (n:Int)<;>cases h2:bh e.b (n:Int)<;>cases h3:bh e.rel 5<;>simp_all
 simp only[Bool.or_eq_false_iff,Bool.not_eq_false'] at h;obtain⟨⟨h1,h2⟩,h3⟩:=h;have hc:rG n e=Du e.rel e.a.toNat e.b.toNat:=by unfold rG;rw[h1,h2,h3];rfl
 rw[hc];have a0:0≤e.a:=by unfold bh at h1;rw[avj,decide_eq_true_eq] at h1;exact h1.1
 have b0:0≤e.b:=by unfold bh at h2;rw[avj,decide_eq_true_eq] at h2;exact h2.1
 unfold Du;refine dr (by kernel_rfl)<|lb 0<|an rfl<|ei<|an (fun a w o ho hv=>aeK a0 ho (dU hv) (fE hv))<|lb 0<|an rfl<|ei<|an (fun a w o ho hv=>aeK b0 ho (dU hv) (fE hv))<|fun w5 CU M5=>an (fun h4 M=>⟨ri (if_pos ?_),M.below⟩) fun h4=>?_
 ·rw[avj,decide_eq_true_eq,decide_eq_true_eq] at h4;omega
 rw[if_neg (by rw[Bool.and_eq_false_iff,decide_eq_false_iff_not,decide_eq_false_iff_not] at h4;omega)];refine lb 0<|an (fun _=>rfl)<|an (fun h5 M=>⟨ri ?_,M.below⟩) fun h5 M=>⟨ri ?_,M.below⟩
 ·by_cases e1:e.a.toNat%5=e.b.toNat%5
  ·rw[if_neg (by omega),if_pos];simp[e1] at h5;omega
  ·rw[if_pos e1]
 ·simp at h5;rw[if_neg (by omega),if_neg (by omega)]
theorem ak.Ok.set'{e:ak}(h:e.Ok):e.set.Ok:=by cases h;assumption
theorem ak.Ok.afc{e:ak}(h:e.Ok):∀ k∈e.kids,k.Ok:=by cases h;assumption
def ji(nU nR nT N:Nat)(e:ak):Option Int:=
 if jX e=false then some 2
 else if e.op=8 then some (rG N e)
 else if e.op=9 then
  (if bh e.a (N:Int)=false then some 3
   else if kT nU nR nT e.a.toNat<0 then some 13
   else if e.set.within (ay.all (kT nU nR nT e.a.toNat).toNat)=false then some 3
   else if dF e.set=false then some 2 else none)
 else none
mutual
def kN(nU nR nT N:Nat):ak→Int
 | .node op a rel b names set kids=>match ji nU nR nT N (.node op a rel b names set kids) with
  | some r=>r
  | none=>q_ nU nR nT N kids
def q_(nU nR nT N:Nat):List ak→Int
 | []=>0
 | k::l=>if kN nU nR nT N k=0 then q_ nU nR nT N l else kN nU nR nT N k
end
theorem ug{nU nR nT N:Nat}{e:ak}{r:Int}(h:ji nU nR nT N e=some r):kN nU nR nT N e=r:=by
 cases e;rw[kN,h]
theorem Dc{nU nR nT N:Nat}{e:ak}(h:ji nU nR nT N e=none):kN nU nR nT N e=q_ nU nR nT N e.kids:=by
 cases e;rw[kN,h];rfl
theorem Df{nU nR nT N:Nat}{l:List ak}{k:Nat}{y:ak}(h:l[k]?=some y):q_ nU nR nT N (l.drop k)=if kN nU nR nT N y=0 then q_ nU nR nT N (l.drop (k+1)) else kN nU nR nT N y:=by
 obtain⟨hk,rfl⟩:=au_.1 h;rw[List.drop_eq_getElem_cons hk,q_]
theorem RK{nU nR nT:Nat}(k:Nat){B:Nat}(h1:nU≤B)(h2:nR≤B)(h3:nT≤B):kT nU nR nT k≤(B:Int):=by
 unfold kT;split
 ·omega
 ·split
  ·omega
  ·split<;>omega
theorem q8(N:Nat)(hN:N≤100):∀ e:ak,e.Ok→∀ (w0:World) (cs:List Value) (c0 c1 c2 c3 c4 c5 c6 c7 c8 c9 aQ aL aK aP aO aN aM:Value) (p:aA),aJ w0 c0 c1 c2 c3 c4 c5 c6 c7 c8 c9 aQ aL aK aP aO aN aM p→p.Ok→aZ w0 cs e→Calls Tryz.prog 197 #[.agg #[c0,c1,c2,c3,c4,c5,c6,c7,c8,c9,aQ,aL,aK,aP,aO,aN,aM],.agg cs.toArray,.int .i64 (N:Int)] w0 (RI w0 (kN p.users.length p.roles.length p.types.length N e)):=by
 refine ak.ind fun e ih=>?_
 intro he w0 cs c0 c1 c2 c3 c4 c5 c6 c7 c8 c9 aQ aL aK aP aO aN aM p hp hok h;have hU:=hok.abx;have hR:=hok.U5;have hT:=hok.wY;obtain⟨_,_,_,_,_,_,_,_,_,_,_,_,_,_,_,_,_,_,_,_,_,_,_,_,_,_,_,_,_,_,_,_,_,_,rfl,rfl,rfl,rfl,rfl,rfl,rfl,rfl,rfl,rfl,rfl,rfl,rfl,rfl,rfl,rfl,rfl⟩:=hp.open;obtain⟨nv,kv,rfl,D7,hk⟩:=h.open;obtain⟨_,_,rfl,-⟩:=aF.get D7;obtain⟨_,_,rfl,-,EX,-⟩:=aq.form hk (by decide);have out:∀ r:Int,ji p.users.length p.roles.length p.types.length N e=some r→kN p.users.length p.roles.length p.types.length N e=r:=fun r h=>ug h
 have hs:ji p.users.length p.roles.length p.types.length N e=none→kN p.users.length p.roles.length p.types.length N e=q_ p.users.length p.roles.length p.types.length N e.kids:=Dc;unfold ji at out hs;refine bP [] (fn:=Tryz.f197) Tryz.func197 rfl Tryz.ntmps197 rfl<|fun g1 w1 M1=>fun g2 w2 M2=>lb 0<|an rfl<|cl<|an (Oh _ _ e (h.keep M2.below)) fun w3 M3=>an (fun h1 M=>⟨ri (out _ (if_pos (by simpa using h1))),M.below⟩) fun h1=>?_
 rw[if_neg (by simpa using h1)] at out hs;refine lb 0<|an rfl<|an (fun h2=>lb 0<|an rfl<|cl<|an (F5 _ _ e (h.keep M3.below) N) fun w4 M4 M=>⟨ri (out _ (if_pos (by simpa using h2))),M.below⟩) fun h2=>?_
 rw[if_neg (by simpa using h2)] at out hs;refine lb 0<|an rfl<|an (fun h3=>?_) fun h3=>?_
 focus
  rw[if_pos (by simpa using h3)] at out hs;refine lb 0<|an rfl<|cl<|an ((fU _ _ _).mono fun _ _ ⟨h1,h2⟩=>⟨h1,h2▸Below.refl _ _⟩) fun w5 M5=>an (fun h4 M=>⟨ri (out _ (if_pos (by simpa using h4))),M.below⟩) fun h4=>?_
  rw[if_neg (by simpa using h4)] at out hs;have hb:0≤e.a∧e.a<(N:Int):=by simpa[bh] using h4
  have hea:((e.a.toNat:Nat):Int)=e.a:=by omega
  have hle:=RK (nU:=p.users.length) (nR:=p.roles.length) (nT:=p.types.length) e.a.toNat (B:=140737488355328) hU hR hT;refine lb 1<|an rfl<|lb 0<|an rfl<|cl<|an (hea▸Nh _ _ _ _ _ _ _ _ _ _ _ _ _ _ _ _ _ _ p (hp.keep M5.below) e.a.toNat (by omega) :) fun w6 M6=>an (fun h5 M=>⟨ri (out _ (if_pos (by simpa using h5))),M.below⟩) fun h5=>?_
  rw[if_neg (by simpa using h5)] at out hs;have hnn:((kT p.users.length p.roles.length p.types.length e.a.toNat).toNat:Int)=kT p.users.length p.roles.length p.types.length e.a.toNat:=by simp at h5;omega
  refine lb 0<|an rfl<|cl<|an (hnn▸gG _ e.set he.set' (kT p.users.length p.roles.length p.types.length e.a.toNat).toNat (by omega) :) fun w7 M7=>an (fun h6 M=>⟨ri (out _ (if_pos (by simpa using h6))),M.below⟩) fun h6=>?_
  rw[if_neg (by simpa using h6)] at out hs;refine an (fun h7 M=>⟨ri (out _ (if_pos (by simpa using h7))),M.below⟩) fun h7=>?_
  rw[if_neg (by simpa using h7)] at out hs;replace hs:=hs rfl
 rotate_left 1
 focus
  replace hs:=hs (if_neg (by simpa using h3))
 all_goals
  refine lr (ι:=Nat) (fun m=>[(10,.int .i64 (m:Int))]) (fun m _=>m≤e.kids.length∧q_ p.users.length p.roles.length p.types.length N e.kids=q_ p.users.length p.roles.length p.types.length N (e.kids.drop m)) (fun m=>e.kids.length-m) 0 (an ⟨⟨rfl,trivial⟩,fun M=>⟨M,avh _,rfl⟩⟩ ?_);rintro m w M ⟨hm,hinv⟩;refine lb 0<|an rfl<|an (fun h9=>?_) fun h9 M=>⟨ri (by rw[hs,hinv,show m=e.kids.length by simp at h9;omega,List.drop_length];rfl),M.below⟩
  have hlt:m<e.kids.length:=by simp at h9;omega
  obtain⟨y,hy⟩:∃ y,e.kids[m]?=some y:=⟨_,ava hlt⟩;obtain⟨b,o,_,e1,hE,hc⟩:=aq.elt hk (by decide) hy;obtain⟨nv',kv',rfl,hn',hk'⟩:=hE.open;obtain⟨_,_,rfl,-⟩:=aF.get hn';obtain⟨_,_,rfl,-⟩:=aq.form hk' (by decide);exact dr (by kernel_rfl)<|lb 1<|an rfl<|lb 0<|an rfl<|ia<|an ⟨e1,rfl,hlt⟩<|lc<|an (bY M.below hc)<|cl<|an (fun w' hb M'=>ih y (avb hy) (he.afc y (avb hy)) w' _ _ _ _ _ _ _ _ _ _ _ _ _ _ _ _ _ _ p (hp.keep M'.below) hok (hE.keep M'.below)) fun w5 CU M5=>an (fun h4 M=>⟨ri (by rw[hs,hinv,Df hy,if_neg (by simpa using h4)]),M.below⟩) fun h4=>an (by omega)<|bk (m+1) ⟨rfl,trivial⟩ (fun M=>⟨M,by omega,by rw[hinv,Df hy,if_pos (by simpa using h4)]⟩) (by dsimp only;omega)
def gL(nU nR nT:Nat)(v:Bool)(e:ak):Int:=if (12:Int)<bw 13 e then 4 else if v=true then kN nU nR nT 15 e else kN nU nR nT 10 e
theorem DM(e:ak)(he:e.Ok)(w0:World)(cs:List Value)(c0 c1 c2 c3 c4 c5 c6 c7 c8 c9 aQ aL aK aP aO aN aM:Value)(p:aA)(hp:aJ w0 c0 c1 c2 c3 c4 c5 c6 c7 c8 c9 aQ aL aK aP aO aN aM p)(hok:p.Ok)(h:aZ w0 cs e)(v:Bool):Calls Tryz.prog 115 #[.agg #[c0,c1,c2,c3,c4,c5,c6,c7,c8,c9,aQ,aL,aK,aP,aO,aN,aM],.agg cs.toArray,.bool v] w0 (RI w0 (gL p.users.length p.roles.length p.types.length v e)):=by
 obtain⟨nv,kv,rfl,-,-⟩:=h.open;have ct:=hr1 Tryz.prog Tryz.f115 (RI w0 (gL p.users.length p.roles.length p.types.length v e)) 17 6 rfl;refine en Tryz.func115 rfl Tryz.ntmps115 rfl (vs:=[.agg #[c0,c1,c2,c3,c4,c5,c6,c7,c8,c9,aQ,aL,aK,aP,aO,aN,aM],.agg #[.int .i64 e.op,.int .i64 e.a,.int .i64 e.rel,.int .i64 e.b,nv,.int .u64 e.set.a,.int .u64 e.set.b,.int .u64 e.set.c,.int .u64 e.set.d,kv],.bool v]) rfl fun _ F=>?_
 have M:=Mm.start w0;refine avl fun K1 jq=>ah<|PZ (on rfl) rfl (F.u rf) rfl F rfl M fun g1 _ _ F M=>PZ (on rfl) rfl (F.u rf) rfl F rfl M fun g2 _ _ F M=>xA (v:=.int .i64 0) F rf rf rf fun _ F=>avm<|jq _ _ ?_
 refine avl fun K2 jW=>avl fun K3 pR=>ah<|xW F (M.b 0 rfl) rf rf rf O9 rf sF rf fun _ F=>xC F M rf rf q39 (args1 (F.u rf)) (pX _ _ e (aZ.keep M.below h)) fun _ _ F M=>kz F rf (KD rfl (F.u rf) rfl) fun _ F=>avm<|pR _ _ ?_
 refine wp_cond_split (F.e 9 rfl) (fun hc3=>?_) (fun hc3=>?_)
 ·have Wo:=of_decide_eq_true hc3;refine avl fun K4 p9=>ah<|xA (v:=.int .i64 4) F rf rf rf fun _ F=>avm<|p9 _ _ ?_
  refine wp_ret<|ct _ _ _ _ F rfl ?_;exact⟨iI (by unfold gL;refine Eq.symm ?_;repeat (first|with_reducible rfl|assumption|(with_reducible refine Eq.trans (if_pos ?_) ?_;focus (first|assumption|(refine sQ ?_;assumption)|(refine sP ?_;assumption)|omega|(simp[Wo];done)))|(with_reducible refine Eq.trans (if_neg ?_) ?_;focus (first|assumption|(refine sQ ?_;assumption)|(refine sP ?_;assumption)|omega|(simp[Wo];done)))|omega)),M.below⟩
 ·have Wn:=of_decide_eq_false hc3;refine wp_skip<|jW _ _ ?_;refine avl fun K5 q5=>avl fun K6 tu=>ah<|xM F rf rf rf fun _ F=>avm<|tu _ _ ?_
  refine wp_cond_split (F.e 10 rfl) (fun yj=>?_) (fun yj=>?_)
  ·refine avl fun K7 vK=>ah<|xW F (M.b 1 rfl) rf rf rf O_ rf BO rf fun _ F=>xW F (M.b 0 rfl) rf rf rf O9 rf sF rf fun _ F=>
    xC F M rf rf aeL (abb (F.u rf) (F.u rf) rfl) (q8 15 (by decide) e he _ _ _ _ _ _ _ _ _ _ _ _ _ _ _ _ _ _ _ p (hp.keep M.below) hok (aZ.keep M.below h)) fun _ _ F M=>
    xA F rf rf rf fun _ F=>
    avm<|
    vK _ _ ?_
   refine wp_ret<|ct _ _ _ _ F rfl ?_;exact⟨iI (by unfold gL;refine Eq.symm ?_;repeat (first|with_reducible rfl|assumption|(with_reducible refine Eq.trans (if_pos ?_) ?_;focus (first|assumption|(refine sQ ?_;assumption)|(refine sP ?_;assumption)|omega|(simp[Wn];done)))|(with_reducible refine Eq.trans (if_neg ?_) ?_;focus (first|assumption|(refine sQ ?_;assumption)|(refine sP ?_;assumption)|omega|(simp[Wn,yj];done)))|omega)),M.below⟩
  ·refine wp_skip<|q5 _ _ ?_
   refine avl fun K8 CW=>ah<|xW F (M.b 1 rfl) rf rf rf O_ rf BO rf fun _ F=>xW F (M.b 0 rfl) rf rf rf O9 rf sF rf fun _ F=>
    xC F M rf rf aeL (abb (F.u rf) (F.u rf) rfl) (q8 10 (by decide) e he _ _ _ _ _ _ _ _ _ _ _ _ _ _ _ _ _ _ _ p (hp.keep M.below) hok (aZ.keep M.below h)) fun _ _ F M=>
    xA F rf rf rf fun _ F=>
    avm<|
    CW _ _ ?_
   refine wp_ret<|ct _ _ _ _ F rfl ?_;exact⟨iI (by unfold gL;refine Eq.symm ?_;repeat (first|with_reducible rfl|assumption|(with_reducible refine Eq.trans (if_pos ?_) ?_;focus (first|assumption|(refine sQ ?_;assumption)|(refine sP ?_;assumption)|omega|(simp[Wn,yj];done)))|(with_reducible refine Eq.trans (if_neg ?_) ?_;focus (first|assumption|(refine sQ ?_;assumption)|(refine sP ?_;assumption)|omega|(simp[Wn,yj];done)))|omega)),M.below⟩
def pF(ok ig vc cd:Bool):Bool:=!ok||!ig||!vc||!cd
def rR(sa sb:Bool)(r:aj):Bool:=!sa||(!sb&&!r.self)||decide (r.perms=0)||(decide (r.kind=4)&&!(decide (r.cond=0)))
def zm(nT nC:Nat)(cl:List jL)(r:aj):Int:=
 if r.kind<1 then 13 else if 4<r.kind then 13
 else if pF (r.src.within (ay.all nT)) (r.tgt.within (ay.all nT)) (fH cl r.cls r.perms) (kB nC r.cond)=true then 3
 else if rR (dF r.src) (dF r.tgt) r=true then 2 else 0
def kA(p:aA)(i:Nat):Int:=match p.conds[i]? with
 | some e=>cF p.bools.length e
 | none=>0
def sZ(p:aA)(i:Nat):Int:=match p.rules[i]? with
 | some r=>zm p.types.length p.conds.length p.classes r
 | none=>0
def eB(p:aA):Int:=if 64<p.conds.length then 4 else if aH (kA p) p.conds.length 0=0 then (if 4096<p.rules.length then 4 else aH (sZ p) p.rules.length 0) else aH (kA p) p.conds.length 0
theorem Jz{p:aA}(h1:¬ 64<p.conds.length)(h2:¬ aH (kA p) p.conds.length 0=0):eB p=aH (kA p) p.conds.length 0:=by
 unfold eB;rw[if_neg h1,if_neg h2]
theorem Jy{p:aA}(h1:¬ 64<p.conds.length)(h2:aH (kA p) p.conds.length 0=0)(h3:4096<p.rules.length):eB p=4:=by
 unfold eB;rw[if_neg h1,if_pos h2,if_pos h3]
theorem Jx{p:aA}(h1:¬ 64<p.conds.length)(h2:aH (kA p) p.conds.length 0=0)(h3:¬ 4096<p.rules.length):eB p=aH (sZ p) p.rules.length 0:=by
 unfold eB;rw[if_neg h1,if_pos h2,if_neg h3]
theorem Ro(w:World)(c0 c1 c2 c3 c4 c5 c6 c7 c8 c9 aQ aL aK aP aO aN aM:Value)(p:aA)(hp:aJ w c0 c1 c2 c3 c4 c5 c6 c7 c8 c9 aQ aL aK aP aO aN aM p)(hok:p.Ok):Calls Tryz.prog 46 #[.agg #[c0,c1,c2,c3,c4,c5,c6,c7,c8,c9,aQ,aL,aK,aP,aO,aN,aM]] w fun e w'=>e=.returned (.int .i64 (eB p))∧avc w.heap.size w w':=by
 obtain⟨_,_,_,_,_,_,_,_,_,_,_,_,_,_,_,_,_,_,_,_,_,_,_,_,_,_,_,_,_,_,_,_,_,_,rfl,rfl,rfl,rfl,rfl,rfl,rfl,rfl,rfl,rfl,rfl,rfl,rfl,rfl,rfl,rfl,rfl⟩:=hp.open;have DT:=hok.wY;refine bP [] (fn:=Tryz.f46) Tryz.func46 rfl Tryz.ntmps46 rfl<|fun g1 w1 M1=>lb 0<|an rfl<|an (fun h M=>⟨ri (if_pos (by simp at h;omega)),M.below⟩) fun h=>?_
 have h1:¬ 64<p.conds.length:=by simp at h;omega
 refine lr (ι:=Nat) (fun m=>[(3,.int .i64 (m:Int))]) (fun m _=>m≤p.conds.length∧aH (kA p) p.conds.length 0=aH (kA p) (p.conds.length-m) m) (fun m=>p.conds.length-m) 0 (an ⟨⟨rfl,trivial⟩,fun M=>⟨M,avh _,by rw[Nat.sub_zero]⟩⟩ ?_);rintro m w2 M ⟨hm,hinv⟩;refine lb 0<|an rfl<|an (fun h2=>?_) fun h2=>?_
 ·have hlt:m<p.conds.length:=by simp at h2;omega
  obtain⟨y,hy⟩:∃ y,p.conds[m]?=some y:=⟨_,ava hlt⟩;obtain⟨b,o,_,e,hE,hc⟩:=aq.elt hp.conds (by decide) hy;obtain⟨nv,kv,rfl,hn,hk⟩:=hE.open;obtain⟨_,_,rfl,-⟩:=aF.get hn;obtain⟨_,_,rfl,-⟩:=aq.form hk (by decide);have hcf:kA p m=cF p.bools.length y:=by unfold kA;rw[hy]
  exact dr (by kernel_rfl)<|lb 0<|an rfl<|lb 0<|an rfl<|ia<|an ⟨e,rfl,hlt⟩<|lc<|an (bY M.below hc)<|cl<|an (fun w' hb' M'=>tD y _ _ _ _ _ _ _ _ _ _ _ _ _ _ _ _ _ _ _ p (hp.keep M'.below) (hE.keep M'.below)) fun w2 hb2 M2=>an (fun h3 M=>⟨ri (by
   have h3:kA p m≠0:=by rw[hcf];simpa using h3
   rw[Jz h1 (by rw[hinv,cM hlt h3];exact h3),hinv,cM hlt h3,hcf]),M.below⟩) fun h3=>an (by omega)<|bk (m+1) ⟨rfl,trivial⟩ (fun M=>⟨M,by omega,hinv.trans (bO hlt (by rw[hcf];simpa using h3))⟩) (by dsimp only;omega)
 have hz:aH (kA p) p.conds.length 0=0:=by rw[hinv,show m=p.conds.length by simp at h2;omega,cL]
 clear hinv h2 hm h;refine lb 0<|an rfl<|an (fun h M=>⟨ri (Jy h1 hz (by simp at h;omega)),M.below⟩) fun h=>?_
 rw[Jx h1 hz (by simp at h;omega)];have hr:¬ 4096<p.rules.length:=by simp at h;omega
 clear h M;refine lr (ι:=Nat) (fun m=>[(5,.int .i64 (m:Int))]) (fun i _=>i≤p.rules.length∧aH (sZ p) p.rules.length 0=aH (sZ p) (p.rules.length-i) i) (fun i=>p.rules.length-i) 0 (an ⟨⟨rfl,trivial⟩,fun M=>⟨M,avh _,by rw[Nat.sub_zero]⟩⟩ ?_);rintro i w M ⟨hi,hinv⟩;refine lb 0<|an rfl<|an (fun h2=>?_) fun h2 M=>⟨ri (by rw[hinv,show i=p.rules.length by simp at h2;omega,cL]),M.below⟩
 have hlt:i<p.rules.length:=by simp at h2;omega
 obtain⟨r,hy⟩:∃ y,p.rules[i]?=some y:=⟨_,ava hlt⟩;have okr:=hok.rules r (avb hy);obtain⟨b,o,e,hc⟩:=SliceAt.elt hp.rules (fun _=>rfl) (by decide) hy hlt;have hcf:sZ p i=zm p.types.length p.conds.length p.classes r:=by unfold sZ;rw[hy]
 have out:∀ v:Int,zm p.types.length p.conds.length p.classes r=v→v≠0→aH (sZ p) p.rules.length 0=v:=fun v h1 h2=>by rw[hinv,cM hlt (by rw[hcf,h1];exact h2),hcf,h1]
 unfold zm at hcf out;refine lb 0<|an rfl<|ia<|an ⟨e,rfl,hlt⟩<|lc<|an (bY M.below hc)<|ei<|an mP fun g2 w3 M3=>lb 0<|an ⟨rfl,rfl⟩ fun w4 M4=>lb 0<|an rfl<|lb 0<|an (fun _=>rfl)<|an (fun h M=>⟨ri (out 13 ?_ (by decide)),M.below⟩) fun h=>?_
 ·by_cases h5:r.kind<1
  ·rw[if_pos h5]
  ·rw[if_neg h5,if_pos (by simp at h;omega)]
 rw[if_neg (by simp at h;omega),if_neg (by simp at h;omega)] at hcf out;refine lb 0<|an rfl<|lb 1<|an rfl<|cl<|an (gG _ r.src okr.src _ DT) fun w5 M5=>lb 0<|an rfl<|lb 1<|an rfl<|cl<|an (gG _ r.tgt okr.tgt _ DT) fun w6 M6=>lb 1<|an (fun _=>rfl)<|lb 0<|an (fun _=>rfl)<|lb 0<|an (fun _=>rfl)<|cl<|an (fun _=>Bz _ _ _ _ _ _ _ _ _ _ _ _ _ _ _ _ _ _ p (hp.keep M6.below) r.cls r.perms okr.perms) fun w7 M7=>lb 1<|an (fun _=>rfl)<|lb 0<|an (fun _=>rfl)<|cl<|an (fun _=>KM _ _ _ _ _ _ _ _ _ _ _ _ _ _ _ _ _ _ p (hp.keep M7.below) _) fun w8 M8=>an (fun h3 M=>⟨ri (out 3 ?_ (by decide)),M.below⟩) fun h3=>?_
 ·clear out hcf;cases h6:r.src.within (ay.all p.types.length)<;>cases h7:r.tgt.within (ay.all p.types.length)<;>cases h8:fH p.classes r.cls r.perms<;>cases h9:kB p.conds.length r.cond<;>simp_all [pF]
 rw[if_neg (by clear out hcf;cases h6:r.src.within (ay.all p.types.length)<;>cases h7:r.tgt.within (ay.all p.types.length)<;>cases h8:fH p.classes r.cls r.perms<;>cases h9:kB p.conds.length r.cond<;>simp_all [pF])] at hcf out;exact lb 0<|an (fun _=>rfl)<|lb 0<|an (fun _=>rfl)<|lb 0<|an (fun _=>rfl)<|lb 0<|an (fun _=>rfl)<|an (fun h4 M=>⟨ri (out 2 (if_pos h4) (by decide)),M.below⟩) fun h4=>an (by omega)<|bk (i+1) ⟨rfl,trivial⟩ (fun M=>⟨M.only (.cons _ (.refl _)) (.refl _),by omega,hinv.trans (bO hlt (by rw[hcf,if_neg (fun e=>by rw[show rR (dF r.src) (dF r.tgt) r=false from h4] at e;cases e)]))⟩) (by dsimp only;omega)
def atI(l:List Int)(i:Nat):Int:=match l[i]? with
 | some x=>x
 | none=>0
def nQ(l:List Int):Int:=aH (atI l) l.length 0
theorem fG{l:List Int}:nQ l=0↔∀ x∈l,x=0:=by
 unfold nQ;rw[cI];constructor
 ·intro h x hx;obtain⟨i,hi⟩:=List.getElem?_of_mem hx;have:=h i (avh _) (by have:=(au_.1 hi).1;omega);unfold atI at this;rw[hi] at this;exact this
 ·intro h i _ hi;unfold atI;rw[ava (by omega:i<l.length)];exact h _ (List.getElem_mem _)
theorem Sy(w:World)(v:Value)(l:List Int)(h:SliceAt w v 1 l.length (l.map kC)):Calls Tryz.prog 40 #[v] w fun e w'=>e=.returned (.int .i64 (nQ l))∧w=w':=by
 obtain⟨a,c,rfl,hac,EX,HA⟩:=h.form (by decide);have H1:=avk HA;clear HA h;unfold nQ;obtain⟨n,hn⟩:∃ n,n=l.length:=⟨_,rfl⟩;have HN:=avk hn;rw[← hn] at H1 hac EX ⊢;clear hn
 go_enter Tryz.func40,Tryz.ntmps40
 go_wp2_with fail
 go_loopw [3] (fun i wr=>wr=w∧∃ k:Nat,k≤n∧i=.int .i64 k∧Hid (aH (atI l) n 0=aH (atI l) (n-k) k)) (fun i _=>n-(intOf i).toNat)
 case atStart=>exact⟨rfl,0,avh _,rfl,avk (by rw[Nat.sub_zero])⟩
 case round=>
  obtain⟨rfl,k,hk,rfl,hinv⟩:=hrel;by_cases hlt:k<n
  ·obtain⟨x,hx⟩:∃ x,l[k]?=some x:=⟨_,ava (by rw[← HN.out];exact hlt)⟩;obtain⟨b,off,rfl,hc⟩:=H1.out k hlt
   have k0:wr.cell? ⟨b,off+k,none⟩=some (.int .i64 x):=by
    have h:=hc 0 (.int .i64 x) (by simp[hx,kC])
    rwa [Nat.mul_one] at h
   have HF:=avk (show atI l k=x by unfold atI;rw[hx]);clear hx hc;by_cases hx0:x=0
   ·subst hx0
    go_wp2_with fail
    go_roundw
    case rel=>exact⟨by first|trivial|rfl,k+1,by omega,by go_num,avk (hinv.out.trans (bO hlt HF.out))⟩
    case measure=>simp[intOf];omega
   ·have d0:(x != 0)=true:=by simp[hx0]
    have HX0:=avk hx0;clear hx0
    go_wp2_with fail
    go_ret
    exact⟨iI (by rw[hinv.out,cM hlt (by rw[HF.out];exact HX0.out),HF.out]),rfl⟩
  ·obtain rfl:n=k:=by omega
   go_wp2_with fail
   go_ret
   exact⟨iI (by rw[hinv.out,cL]),rfl⟩
def akn(w:World)(base:Nat)(v:Value)(l:List ByteArray):Prop:=w.ownsRow base 9 1 v l.length (l.flatMap aT)
theorem Jp(l:List ByteArray):∀ u∈l.flatMap aT,u.oneCell'=true:=by
 intro u hu;obtain⟨s,-,hs⟩:=List.mem_flatMap.1 hu;rw[List.mem_singleton.1 hs];rfl
theorem SliceAt.Cl{w:World}{g:Nat}{t:TypeId}{cs:Array Value}{k n:Nat}(h:Whole w g t cs)(hl:cs.toList.length=n*k)(h1:cs.toList.all (·.oneCell')=true)(hn:n≤maxLen):
 SliceAt w (.slice (some ⟨g,0,none⟩) n n) k n cs.toList:=
 ⟨hl,hn,fun u hu=>List.all_eq_true.1 h1 u hu,.inr ⟨_,n,rfl,Nat.le_refl _,fun j u hu=>by rw[Addr.add_lit,Nat.zero_add,h.cell];simpa using hu⟩⟩
def Bj(nT:Nat)(before:List ByteArray)(y:lE):Int:=
 if bM [y.name] before=0 then
  (if y.kind<1 then 13 else if 3<y.kind then 13
   else if (!(y.src.within (ay.all nT))||!(y.tgt.within (ay.all nT)))=true then 3
   else if (!(dF y.src)||!(dF y.tgt))=true then 2 else 0)
 else bM [y.name] before
def pV(p:aA)(i:Nat):Int:=match p.asserts[i]? with
 | some y=>Bj p.types.length ((p.asserts.take i).map (·.name)) y
 | none=>0
def oT(p:aA):Int:=if 64<p.asserts.length then 4 else aH (pV p) p.asserts.length 0
theorem Le(w:World)(c0 c1 c2 c3 c4 c5 c6 c7 c8 c9 aQ aL aK aP aO aN aM:Value)(p:aA)(hp:aJ w c0 c1 c2 c3 c4 c5 c6 c7 c8 c9 aQ aL aK aP aO aN aM p)(hok:p.Ok):Calls Tryz.prog 51 #[.agg #[c0,c1,c2,c3,c4,c5,c6,c7,c8,c9,aQ,aL,aK,aP,aO,aN,aM]] w fun e w'=>e=.returned (.int .i64 (oT p))∧avc w.heap.size w w':=by
 obtain⟨_,_,_,_,_,_,_,_,_,_,_,_,_,_,_,_,_,_,_,_,_,_,_,_,_,_,_,_,_,_,_,_,_,_,rfl,rfl,rfl,rfl,rfl,rfl,rfl,rfl,rfl,rfl,rfl,rfl,rfl,rfl,rfl,rfl,rfl⟩:=hp.open;have DT:=hok.wY;refine bP [] (fn:=Tryz.f51) Tryz.func51 rfl Tryz.ntmps51 rfl<|fun g1 w1 M1=>lb 0<|an rfl<|an (fun h M=>⟨ri (if_pos (by simp at h;omega)),M.below⟩) fun h=>?_
 have hr:¬ 64<p.asserts.length:=by simp at h;omega
 rw[show oT p=aH (pV p) p.asserts.length 0 from if_neg hr];refine lq (ι:=Nat×Value) (fun(m,u)=>[(3,u),(4,.int .i64 (m:Int))]) (fun(m,u)=>[⟨u,9,1,m,((p.asserts.take m).map (·.name)).flatMap aT⟩]) (fun(m,u) _=>m≤p.asserts.length∧aH (pV p) p.asserts.length 0=aH (pV p) (p.asserts.length-m) m) (fun(m,u)=>p.asserts.length-m) (0,.slice none 0 0) (an ⟨⟨rfl,rfl,trivial⟩,fun M=>⟨M.bB 9 1,avh _,by rw[Nat.sub_zero]⟩⟩ ?_);rintro⟨m,u⟩ w M ⟨hm,hinv⟩;refine lb 0<|an rfl<|an (fun h2=>?_) fun h2 M=>⟨ri (by rw[hinv,show m=p.asserts.length by simp at h2;omega,cL]),M.below⟩
 have hlt:m<p.asserts.length:=by simp at h2;omega
 obtain⟨y,hy⟩:∃ y,p.asserts[m]?=some y:=⟨_,ava hlt⟩;have qO:=hok.asserts y (avb hy);obtain⟨b,o,e,hc⟩:=SliceAt.elt hp.asserts (fun _=>rfl) (by decide) hy hlt;have hcf:pV p m=Bj p.types.length ((p.asserts.take m).map (·.name)) y:=by unfold pV;rw[hy]
 have out:∀ v:Int,Bj p.types.length ((p.asserts.take m).map (·.name)) y=v→v≠0→aH (pV p) p.asserts.length 0=v:=fun v h1 h2=>by rw[hinv,cM hlt (by rw[hcf,h1];exact h2),hcf,h1]
 unfold Bj at hcf out;refine lb 0<|an rfl<|ia<|an ⟨e,rfl,hlt⟩<|lc<|an (bY M.below hc)<|ei<|an aej fun g2 w2 M2=>lb 0<|an ⟨rfl,rfl⟩ fun w3 M3=>lb 0<|an rfl<|fun g3 w4 M4=>cl<|an (fA _ _ _ [y.name] ((p.asserts.take m).map (·.name)) (M4.slice 0 rfl rfl rfl (by simp[maxLen])) (gE (M4.r 0 rfl) (by simp;omega) rfl) (by simpa using qO.name)) fun w5 M5=>an (fun h3 M=>⟨ri (out _ (if_neg (by simpa using h3)) (by simpa using h3)),M.below⟩) fun h3=>?_
 replace h3:bM [y.name] ((p.asserts.take m).map (·.name))=0:=by simpa using h3
 rw[if_pos h3] at hcf out;refine lb 1<|an rfl<|fun g4 w6 M6=>ap 0 id rfl (M6.slice 0 rfl rfl rfl (by simp[maxLen])) ⟨by unfold maxLen;omega,by omega⟩ fun v5 w7 M7=>lb 2<|an rfl<|lb 2<|an (fun _=>rfl)<|an (fun h M=>⟨ri (out 13 ?_ (by decide)),M.below⟩) fun h=>?_
 ·by_cases h5:y.kind<1
  ·rw[if_pos h5]
  ·rw[if_neg h5,if_pos (by simp at h;omega)]
 rw[if_neg (by simp at h;omega),if_neg (by simp at h;omega)] at hcf out;refine lb 2<|an rfl<|lb 3<|an rfl<|cl<|an (gG _ y.src qO.src _ DT) fun w8 M8=>lb 2<|an rfl<|lb 3<|an rfl<|cl<|an (gG _ y.tgt qO.tgt _ DT) fun w9 M9=>an (fun h4 M=>⟨ri (out 3 (if_pos h4) (by decide)),M.below⟩) fun h4=>?_
 rw[if_neg (fun e=>by rw[h4] at e;cases e)] at hcf out;exact an (fun h5 M=>⟨ri (out 2 (if_pos h5) (by decide)),M.below⟩) fun h5=>an (by omega)<|bk (m+1,v5) ⟨rfl,rfl,trivial⟩ (fun M=>⟨(M.only (.cons _ (.cons _ (.cons _ (.refl _)))) (.refl _)).cast rfl (by dsimp only;rw[rX hy]),by omega,hinv.trans (bO hlt (by rw[hcf,if_neg (fun e=>by rw[h5] at e;cases e)]))⟩) (by dsimp only;omega)
deriving instance DecidableEq for aj
def O8(x:Int):List Value:=[.int .u64 x]
theorem pE(x y:ByteArray):(x.toList == y.toList)=decide (x=y):=by
 rw[avg,decide_eq_true_eq,beq_iff_eq];exact⟨fun h=>by rw[ByteArray.toList_eq,ByteArray.toList_eq] at h;exact ByteArray.ext (Array.toList_inj.1 h),fun h=>by rw[h]⟩
section
variable {α:Type} [DecidableEq α] {l1 l2:List α} {m:Nat} {x y:α}
theorem gX(h:¬ l1.length=l2.length):false=decide (l1=l2):=(decide_eq_false fun e=>h (by rw[e])).symm
theorem jA(hx:l1[m]?=some x)(hy:l2[m]?=some y)(h:decide (x=y)=false):false=decide (l1=l2):=by
 refine(decide_eq_false fun e=>?_).symm;rw[e,hy] at hx;exact of_decide_eq_false h (avf hx).symm
theorem jy(hx:l1[m]?=some x)(hy:l2[m]?=some y)(h:l1.take m=l2.take m)(hq:decide (x=y)=true):l1.take (m+1)=l2.take (m+1):=by
 rw[bp hx,bp hy,h,of_decide_eq_true hq]
theorem gY(hm:m=l1.length)(hl:l1.length=l2.length)(h:l1.take m=l2.take m):true=decide (l1=l2):=by
 subst hm;rw[avi,hl,avi] at h;exact(decide_eq_true h).symm
end
theorem WV(x y:bE)(w:World):(Op.equalIn 10000 84 (.agg #[.int .i64 x.kind,.int .u64 x.src.a,.int .u64 x.src.b,.int .u64 x.src.c,.int .u64 x.src.d,.int .u64 x.tgt.a,.int .u64 x.tgt.b,.int .u64 x.tgt.c,.int .u64 x.tgt.d,.int .i64 x.cls,.string x.name,.int .i64 x.res,.int .i64 x.cond]) (.agg #[.int .i64 y.kind,.int .u64 y.src.a,.int .u64 y.src.b,.int .u64 y.src.c,.int .u64 y.src.d,.int .u64 y.tgt.a,.int .u64 y.tgt.b,.int .u64 y.tgt.c,.int .u64 y.tgt.d,.int .i64 y.cls,.string y.name,.int .i64 y.res,.int .i64 y.cond])).run Tryz.prog w=.ok (decide (x=y)) w:=by
 rw[show(10000:Nat)=9997+3 from rfl,agm];congr 1;rw[avg];obtain⟨L7,⟨L6,L5,L4,L3⟩,⟨L0,LZ,LY,LX⟩,Ul,wO,aen,abo⟩:=x;obtain⟨LW,⟨LV,LU,LS,LQ⟩,⟨LP,LO,LN,LM⟩,Uf,wL,aem,abl⟩:=y;simp only[decide_eq_true_eq,ay.mk.injEq,bE.mk.injEq,Int.natCast_inj,and_assoc]
theorem zD(w0:World)(v1 v2:Value)(l1 l2:List bE)(h1:SliceAt w0 v1 13 l1.length (l1.flatMap bE.cells))(h2:SliceAt w0 v2 13 l2.length (l2.flatMap bE.cells)):Calls Tryz.prog 74 #[v1,v2] w0 (fun(r:Ending) (w':World)=>r=.returned (.bool (decide (l1=l2)))∧avc w0.heap.size w0 w'):=by
 obtain⟨_,_,rfl,-,hm1,-⟩:=h1.form (by decide);obtain⟨_,_,rfl,-⟩:=h2.form (by decide);refine bP [] (fn:=Tryz.f74) Tryz.func74 rfl Tryz.ntmps74 rfl<|an (fun h M=>⟨aD (gX (by simp at h;omega)),M.below⟩) fun h=>lr (ι:=Nat) (fun m=>[(13,.int .i64 (m:Int))]) (fun m _=>m≤l1.length∧l1.take m=l2.take m) (fun m=>l1.length-m) 0 (an ⟨⟨rfl,trivial⟩,fun M=>⟨M,avh _,rfl⟩⟩ ?_)
 have hl:l1.length=l2.length:=by simp at h;omega
 rintro m w M ⟨hm,ht⟩;refine an (fun h3=>?_) fun h3 M=>⟨aD (gY (by simp at h3;omega) hl ht),M.below⟩
 have hlt:m<l1.length:=by simp at h3;omega
 obtain⟨x,y,_,_,_,_,hx,hy,e1,e2⟩:=dS (f:=bE.cells) (k:=13) (fun _=>rfl) (by decide) h1 h2 rfl rfl hlt hl M.below;exact dr (by kernel_rfl)<|ia<|an ⟨e1.1,rfl,hlt⟩<|lc<|an e1.2<|ia<|an ⟨e2.1,rfl,hl▸hlt⟩<|lc<|an e2.2<|ei<|an ⟨adj,WV x y⟩<|fun w hb M=>an (fun h M=>⟨aD (jA hx hy (by simpa using h)),M.below⟩) fun h=>an (by omega)<|bk (m+1) ⟨rfl,trivial⟩ (fun M=>⟨M,by omega,jy hx hy ht (by simpa using h)⟩) (by dsimp only;omega)
theorem ru(w0:World)(v1 v2:Value)(l1 l2:List Int)(h1:SliceAt w0 v1 1 l1.length (l1.flatMap O8))(h2:SliceAt w0 v2 1 l2.length (l2.flatMap O8)):Calls Tryz.prog 77 #[v1,v2] w0 (fun(r:Ending) (w':World)=>r=.returned (.bool (decide (l1=l2)))∧avc w0.heap.size w0 w'):=by
 obtain⟨_,_,rfl,-,hm1,-⟩:=h1.form (by decide);obtain⟨_,_,rfl,-⟩:=h2.form (by decide);refine bP [] (fn:=Tryz.f77) Tryz.func77 rfl Tryz.ntmps77 rfl<|an (fun h M=>⟨aD (gX (by simp at h;omega)),M.below⟩) fun h=>lr (ι:=Nat) (fun m=>[(13,.int .i64 (m:Int))]) (fun m _=>m≤l1.length∧l1.take m=l2.take m) (fun m=>l1.length-m) 0 (an ⟨⟨rfl,trivial⟩,fun M=>⟨M,avh _,rfl⟩⟩ ?_)
 have hl:l1.length=l2.length:=by simp at h;omega
 rintro m w M ⟨hm,ht⟩;refine an (fun h3=>?_) fun h3 M=>⟨aD (gY (by simp at h3;omega) hl ht),M.below⟩
 have hlt:m<l1.length:=by simp at h3;omega
 obtain⟨x,y,_,_,_,_,hx,hy,e1,e2⟩:=dS (f:=O8) (k:=1) (fun _=>rfl) (by decide) h1 h2 rfl rfl hlt hl M.below;exact dr (by kernel_rfl)<|ia<|an ⟨e1.1,rfl,hlt⟩<|lc (x:=.int .u64 x)<|an (e1.2 0 _ rfl)<|ia<|an ⟨e2.1,rfl,hl▸hlt⟩<|lc (x:=.int .u64 y)<|an (e2.2 0 _ rfl)<|fun w hb M=>an (fun h M=>⟨aD (jA hx hy (by simpa using h)),M.below⟩) fun h=>an (by omega)<|bk (m+1) ⟨rfl,trivial⟩ (fun M=>⟨M,by omega,jy hx hy ht (by simpa using h)⟩) (by dsimp only;omega)
theorem WW(x y:aj)(w:World):(Op.equalIn 10000 56 (.agg #[.int .i64 x.kind,.int .u64 x.src.a,.int .u64 x.src.b,.int .u64 x.src.c,.int .u64 x.src.d,.int .u64 x.tgt.a,.int .u64 x.tgt.b,.int .u64 x.tgt.c,.int .u64 x.tgt.d,.bool x.self,.int .i64 x.cls,.int .u32 x.perms,.int .i64 x.cond]) (.agg #[.int .i64 y.kind,.int .u64 y.src.a,.int .u64 y.src.b,.int .u64 y.src.c,.int .u64 y.src.d,.int .u64 y.tgt.a,.int .u64 y.tgt.b,.int .u64 y.tgt.c,.int .u64 y.tgt.d,.bool y.self,.int .i64 y.cls,.int .u32 y.perms,.int .i64 y.cond])).run Tryz.prog w=.ok (decide (x=y)) w:=by
 rw[show(10000:Nat)=9997+3 from rfl,agn];congr 1;rw[avg];obtain⟨L7,⟨L6,L5,L4,L3⟩,⟨L0,LZ,LY,LX⟩,ahI,Ul,agV,abo⟩:=x;obtain⟨LW,⟨LV,LU,LS,LQ⟩,⟨LP,LO,LN,LM⟩,ahF,Uf,agQ,abl⟩:=y;simp only[decide_eq_true_eq,aj.mk.injEq,ay.mk.injEq,Int.natCast_inj,and_assoc]
theorem GU(w0:World)(v1 v2:Value)(l1 l2:List aj)(h1:SliceAt w0 v1 13 l1.length (l1.flatMap aj.cells))(h2:SliceAt w0 v2 13 l2.length (l2.flatMap aj.cells)):Calls Tryz.prog 141 #[v1,v2] w0 (fun(r:Ending) (w':World)=>r=.returned (.bool (decide (l1=l2)))∧avc w0.heap.size w0 w'):=by
 obtain⟨_,_,rfl,-,hm1,-⟩:=h1.form (by decide);obtain⟨_,_,rfl,-⟩:=h2.form (by decide);refine bP [] (fn:=Tryz.f141) Tryz.func141 rfl Tryz.ntmps141 rfl<|an (fun h M=>⟨aD (gX (by simp at h;omega)),M.below⟩) fun h=>lr (ι:=Nat) (fun m=>[(13,.int .i64 (m:Int))]) (fun m _=>m≤l1.length∧l1.take m=l2.take m) (fun m=>l1.length-m) 0 (an ⟨⟨rfl,trivial⟩,fun M=>⟨M,avh _,rfl⟩⟩ ?_)
 have hl:l1.length=l2.length:=by simp at h;omega
 rintro m w M ⟨hm,ht⟩;refine an (fun h3=>?_) fun h3 M=>⟨aD (gY (by simp at h3;omega) hl ht),M.below⟩
 have hlt:m<l1.length:=by simp at h3;omega
 obtain⟨x,y,_,_,_,_,hx,hy,e1,e2⟩:=dS (f:=aj.cells) (k:=13) (fun _=>rfl) (by decide) h1 h2 rfl rfl hlt hl M.below;exact dr (by kernel_rfl)<|ia<|an ⟨e1.1,rfl,hlt⟩<|lc<|an e1.2<|ia<|an ⟨e2.1,rfl,hl▸hlt⟩<|lc<|an e2.2<|ei<|an ⟨adk,WW x y⟩<|fun w hb M=>an (fun h M=>⟨aD (jA hx hy (by simpa using h)),M.below⟩) fun h=>an (by omega)<|bk (m+1) ⟨rfl,trivial⟩ (fun M=>⟨M,by omega,jy hx hy ht (by simpa using h)⟩) (by dsimp only;omega)
theorem WY(x y:k_)(w:World):(Op.equalIn 10000 203 (.agg #[.int .u64 x.roles.a,.int .u64 x.roles.b,.int .u64 x.roles.c,.int .u64 x.roles.d,.int .u64 x.types.a,.int .u64 x.types.b,.int .u64 x.types.c,.int .u64 x.types.d,.int .i64 x.cls,.int .i64 x.res]) (.agg #[.int .u64 y.roles.a,.int .u64 y.roles.b,.int .u64 y.roles.c,.int .u64 y.roles.d,.int .u64 y.types.a,.int .u64 y.types.b,.int .u64 y.types.c,.int .u64 y.types.d,.int .i64 y.cls,.int .i64 y.res])).run Tryz.prog w=.ok (decide (x=y)) w:=by
 rw[show(10000:Nat)=9997+3 from rfl,ac_];congr 1;rw[avg];obtain⟨⟨Uj,Ui,Uh,Ug⟩,⟨I4,I3,IZ,IY⟩,Ul,aen⟩:=x;obtain⟨⟨Ud,Uc,Ub,Ua⟩,⟨IX,IW,IV,IU⟩,Uf,aem⟩:=y;simp only[decide_eq_true_eq,k_.mk.injEq,ay.mk.injEq,Int.natCast_inj,and_assoc]
theorem GS(w0:World)(v1 v2:Value)(l1 l2:List k_)(h1:SliceAt w0 v1 10 l1.length (l1.flatMap k_.cells))(h2:SliceAt w0 v2 10 l2.length (l2.flatMap k_.cells)):Calls Tryz.prog 142 #[v1,v2] w0 (fun(r:Ending) (w':World)=>r=.returned (.bool (decide (l1=l2)))∧avc w0.heap.size w0 w'):=by
 obtain⟨_,_,rfl,-,hm1,-⟩:=h1.form (by decide);obtain⟨_,_,rfl,-⟩:=h2.form (by decide);refine bP [] (fn:=Tryz.f142) Tryz.func142 rfl Tryz.ntmps142 rfl<|an (fun h M=>⟨aD (gX (by simp at h;omega)),M.below⟩) fun h=>lr (ι:=Nat) (fun m=>[(13,.int .i64 (m:Int))]) (fun m _=>m≤l1.length∧l1.take m=l2.take m) (fun m=>l1.length-m) 0 (an ⟨⟨rfl,trivial⟩,fun M=>⟨M,avh _,rfl⟩⟩ ?_)
 have hl:l1.length=l2.length:=by simp at h;omega
 rintro m w M ⟨hm,ht⟩;refine an (fun h3=>?_) fun h3 M=>⟨aD (gY (by simp at h3;omega) hl ht),M.below⟩
 have hlt:m<l1.length:=by simp at h3;omega
 obtain⟨x,y,_,_,_,_,hx,hy,e1,e2⟩:=dS (f:=k_.cells) (k:=10) (fun _=>rfl) (by decide) h1 h2 rfl rfl hlt hl M.below;exact dr (by kernel_rfl)<|ia<|an ⟨e1.1,rfl,hlt⟩<|lc<|an e1.2<|ia<|an ⟨e2.1,rfl,hl▸hlt⟩<|lc<|an e2.2<|ei<|an ⟨aaW,WY x y⟩<|fun w hb M=>an (fun h M=>⟨aD (jA hx hy (by simpa using h)),M.below⟩) fun h=>an (by omega)<|bk (m+1) ⟨rfl,trivial⟩ (fun M=>⟨M,by omega,jy hx hy ht (by simpa using h)⟩) (by dsimp only;omega)
theorem WX(x y:lu)(w:World):(Op.equalIn 10000 205 (.agg #[.int .u64 x.src.a,.int .u64 x.src.b,.int .u64 x.src.c,.int .u64 x.src.d,.int .u64 x.tgt.a,.int .u64 x.tgt.b,.int .u64 x.tgt.c,.int .u64 x.tgt.d,.int .i64 x.cls,.int .i64 x.rng.low.aW,.int .u64 x.rng.low.cats,.int .i64 x.rng.high.aW,.int .u64 x.rng.high.cats]) (.agg #[.int .u64 y.src.a,.int .u64 y.src.b,.int .u64 y.src.c,.int .u64 y.src.d,.int .u64 y.tgt.a,.int .u64 y.tgt.b,.int .u64 y.tgt.c,.int .u64 y.tgt.d,.int .i64 y.cls,.int .i64 y.rng.low.aW,.int .u64 y.rng.low.cats,.int .i64 y.rng.high.aW,.int .u64 y.rng.high.cats])).run Tryz.prog w=.ok (decide (x=y)) w:=by
 rw[show(10000:Nat)=9996+4 from rfl,ac9];congr 1;rw[avg];obtain⟨⟨L6,L5,L4,L3⟩,⟨L0,LZ,LY,LX⟩,Ul,⟨⟨Fv,Fw⟩,⟨DW,DX⟩⟩⟩:=x;obtain⟨⟨LV,LU,LS,LQ⟩,⟨LP,LO,LN,LM⟩,Uf,⟨⟨Ft,Fu⟩,⟨DU,DV⟩⟩⟩:=y;simp only[decide_eq_true_eq,sM.mk.injEq,lu.mk.injEq,wH.mk.injEq,ay.mk.injEq,Int.natCast_inj,and_assoc]
theorem GR(w0:World)(v1 v2:Value)(l1 l2:List lu)(h1:SliceAt w0 v1 13 l1.length (l1.flatMap lu.cells))(h2:SliceAt w0 v2 13 l2.length (l2.flatMap lu.cells)):Calls Tryz.prog 143 #[v1,v2] w0 (fun(r:Ending) (w':World)=>r=.returned (.bool (decide (l1=l2)))∧avc w0.heap.size w0 w'):=by
 obtain⟨_,_,rfl,-,hm1,-⟩:=h1.form (by decide);obtain⟨_,_,rfl,-⟩:=h2.form (by decide);refine bP [] (fn:=Tryz.f143) Tryz.func143 rfl Tryz.ntmps143 rfl<|an (fun h M=>⟨aD (gX (by simp at h;omega)),M.below⟩) fun h=>lr (ι:=Nat) (fun m=>[(13,.int .i64 (m:Int))]) (fun m _=>m≤l1.length∧l1.take m=l2.take m) (fun m=>l1.length-m) 0 (an ⟨⟨rfl,trivial⟩,fun M=>⟨M,avh _,rfl⟩⟩ ?_)
 have hl:l1.length=l2.length:=by simp at h;omega
 rintro m w M ⟨hm,ht⟩;refine an (fun h3=>?_) fun h3 M=>⟨aD (gY (by simp at h3;omega) hl ht),M.below⟩
 have hlt:m<l1.length:=by simp at h3;omega
 obtain⟨x,y,_,_,_,_,hx,hy,e1,e2⟩:=dS (f:=lu.cells) (k:=13) (fun _=>rfl) (by decide) h1 h2 rfl rfl hlt hl M.below;exact dr (by kernel_rfl)<|ia<|an ⟨e1.1,rfl,hlt⟩<|lc<|an e1.2<|ia<|an ⟨e2.1,rfl,hl▸hlt⟩<|lc<|an e2.2<|ei<|an ⟨aaV,WX x y⟩<|fun w hb M=>an (fun h M=>⟨aD (jA hx hy (by simpa using h)),M.below⟩) fun h=>an (by omega)<|bk (m+1) ⟨rfl,trivial⟩ (fun M=>⟨M,by omega,jy hx hy ht (by simpa using h)⟩) (by dsimp only;omega)
theorem W9(x y:kZ)(w:World):(Op.equalIn 10000 125 (.agg #[.string x.name,.int .i64 x.ctx.user,.int .i64 x.ctx.role,.int .i64 x.ctx.typ,.int .i64 x.ctx.rng.low.aW,.int .u64 x.ctx.rng.low.cats,.int .i64 x.ctx.rng.high.aW,.int .u64 x.ctx.rng.high.cats]) (.agg #[.string y.name,.int .i64 y.ctx.user,.int .i64 y.ctx.role,.int .i64 y.ctx.typ,.int .i64 y.ctx.rng.low.aW,.int .u64 y.ctx.rng.low.cats,.int .i64 y.ctx.rng.high.aW,.int .u64 y.ctx.rng.high.cats])).run Tryz.prog w=.ok (decide (x=y)) w:=by
 rw[show(10000:Nat)=9995+5 from rfl,adh];congr 1;rw[avg];obtain⟨wO,⟨QN,QO,Uk,⟨⟨zP,zQ⟩,⟨wP,wQ⟩⟩⟩⟩:=x;obtain⟨wL,⟨QL,QM,Ue,⟨⟨zN,zO⟩,⟨wM,wN⟩⟩⟩⟩:=y;simp only[decide_eq_true_eq,yU.mk.injEq,sM.mk.injEq,wH.mk.injEq,kZ.mk.injEq,Int.natCast_inj,and_assoc]
theorem GQ(w0:World)(v1 v2:Value)(l1 l2:List kZ)(h1:SliceAt w0 v1 8 l1.length (l1.flatMap kZ.cells))(h2:SliceAt w0 v2 8 l2.length (l2.flatMap kZ.cells)):Calls Tryz.prog 145 #[v1,v2] w0 (fun(r:Ending) (w':World)=>r=.returned (.bool (decide (l1=l2)))∧avc w0.heap.size w0 w'):=by
 obtain⟨_,_,rfl,-,hm1,-⟩:=h1.form (by decide);obtain⟨_,_,rfl,-⟩:=h2.form (by decide);refine bP [] (fn:=Tryz.f145) Tryz.func145 rfl Tryz.ntmps145 rfl<|an (fun h M=>⟨aD (gX (by simp at h;omega)),M.below⟩) fun h=>lr (ι:=Nat) (fun m=>[(13,.int .i64 (m:Int))]) (fun m _=>m≤l1.length∧l1.take m=l2.take m) (fun m=>l1.length-m) 0 (an ⟨⟨rfl,trivial⟩,fun M=>⟨M,avh _,rfl⟩⟩ ?_)
 have hl:l1.length=l2.length:=by simp at h;omega
 rintro m w M ⟨hm,ht⟩;refine an (fun h3=>?_) fun h3 M=>⟨aD (gY (by simp at h3;omega) hl ht),M.below⟩
 have hlt:m<l1.length:=by simp at h3;omega
 obtain⟨x,y,_,_,_,_,hx,hy,e1,e2⟩:=dS (f:=kZ.cells) (k:=8) (fun _=>rfl) (by decide) h1 h2 rfl rfl hlt hl M.below;exact dr (by kernel_rfl)<|ia<|an ⟨e1.1,rfl,hlt⟩<|lc<|an e1.2<|ia<|an ⟨e2.1,rfl,hl▸hlt⟩<|lc<|an e2.2<|ei<|an ⟨aa2,W9 x y⟩<|fun w hb M=>an (fun h M=>⟨aD (jA hx hy (by simpa using h)),M.below⟩) fun h=>an (by omega)<|bk (m+1) ⟨rfl,trivial⟩ (fun M=>⟨M,by omega,jy hx hy ht (by simpa using h)⟩) (by dsimp only;omega)
theorem W8(x y:lC)(w:World):(Op.equalIn 10000 127 (.agg #[.string x.pat,.int .i64 x.kind,.int .i64 x.ctx.user,.int .i64 x.ctx.role,.int .i64 x.ctx.typ,.int .i64 x.ctx.rng.low.aW,.int .u64 x.ctx.rng.low.cats,.int .i64 x.ctx.rng.high.aW,.int .u64 x.ctx.rng.high.cats]) (.agg #[.string y.pat,.int .i64 y.kind,.int .i64 y.ctx.user,.int .i64 y.ctx.role,.int .i64 y.ctx.typ,.int .i64 y.ctx.rng.low.aW,.int .u64 y.ctx.rng.low.cats,.int .i64 y.ctx.rng.high.aW,.int .u64 y.ctx.rng.high.cats])).run Tryz.prog w=.ok (decide (x=y)) w:=by
 rw[show(10000:Nat)=9995+5 from rfl,adg];congr 1;rw[avg];obtain⟨akz,L7,⟨QN,QO,Uk,⟨⟨zP,zQ⟩,⟨wP,wQ⟩⟩⟩⟩:=x;obtain⟨akv,LW,⟨QL,QM,Ue,⟨⟨zN,zO⟩,⟨wM,wN⟩⟩⟩⟩:=y;simp only[decide_eq_true_eq,yU.mk.injEq,lC.mk.injEq,sM.mk.injEq,wH.mk.injEq,Int.natCast_inj,and_assoc]
theorem GP(w0:World)(v1 v2:Value)(l1 l2:List lC)(h1:SliceAt w0 v1 9 l1.length (l1.flatMap lC.cells))(h2:SliceAt w0 v2 9 l2.length (l2.flatMap lC.cells)):Calls Tryz.prog 146 #[v1,v2] w0 (fun(r:Ending) (w':World)=>r=.returned (.bool (decide (l1=l2)))∧avc w0.heap.size w0 w'):=by
 obtain⟨_,_,rfl,-,hm1,-⟩:=h1.form (by decide);obtain⟨_,_,rfl,-⟩:=h2.form (by decide);refine bP [] (fn:=Tryz.f146) Tryz.func146 rfl Tryz.ntmps146 rfl<|an (fun h M=>⟨aD (gX (by simp at h;omega)),M.below⟩) fun h=>lr (ι:=Nat) (fun m=>[(13,.int .i64 (m:Int))]) (fun m _=>m≤l1.length∧l1.take m=l2.take m) (fun m=>l1.length-m) 0 (an ⟨⟨rfl,trivial⟩,fun M=>⟨M,avh _,rfl⟩⟩ ?_)
 have hl:l1.length=l2.length:=by simp at h;omega
 rintro m w M ⟨hm,ht⟩;refine an (fun h3=>?_) fun h3 M=>⟨aD (gY (by simp at h3;omega) hl ht),M.below⟩
 have hlt:m<l1.length:=by simp at h3;omega
 obtain⟨x,y,_,_,_,_,hx,hy,e1,e2⟩:=dS (f:=lC.cells) (k:=9) (fun _=>rfl) (by decide) h1 h2 rfl rfl hlt hl M.below;exact dr (by kernel_rfl)<|ia<|an ⟨e1.1,rfl,hlt⟩<|lc<|an e1.2<|ia<|an ⟨e2.1,rfl,hl▸hlt⟩<|lc<|an e2.2<|ei<|an ⟨aa1,W8 x y⟩<|fun w hb M=>an (fun h M=>⟨aD (jA hx hy (by simpa using h)),M.below⟩) fun h=>an (by omega)<|bk (m+1) ⟨rfl,trivial⟩ (fun M=>⟨M,by omega,jy hx hy ht (by simpa using h)⟩) (by dsimp only;omega)
theorem W7(x y:lE)(w:World):(Op.equalIn 10000 129 (.agg #[.string x.name,.int .i64 x.kind,.int .u64 x.src.a,.int .u64 x.src.b,.int .u64 x.src.c,.int .u64 x.src.d,.int .u64 x.tgt.a,.int .u64 x.tgt.b,.int .u64 x.tgt.c,.int .u64 x.tgt.d]) (.agg #[.string y.name,.int .i64 y.kind,.int .u64 y.src.a,.int .u64 y.src.b,.int .u64 y.src.c,.int .u64 y.src.d,.int .u64 y.tgt.a,.int .u64 y.tgt.b,.int .u64 y.tgt.c,.int .u64 y.tgt.d])).run Tryz.prog w=.ok (decide (x=y)) w:=by
 rw[show(10000:Nat)=9997+3 from rfl,adf];congr 1;rw[avg];obtain⟨wO,L7,⟨L6,L5,L4,L3⟩,⟨L0,LZ,LY,LX⟩⟩:=x;obtain⟨wL,LW,⟨LV,LU,LS,LQ⟩,⟨LP,LO,LN,LM⟩⟩:=y;simp only[decide_eq_true_eq,lE.mk.injEq,ay.mk.injEq,Int.natCast_inj,and_assoc]
theorem GL(w0:World)(v1 v2:Value)(l1 l2:List lE)(h1:SliceAt w0 v1 10 l1.length (l1.flatMap lE.cells))(h2:SliceAt w0 v2 10 l2.length (l2.flatMap lE.cells)):Calls Tryz.prog 147 #[v1,v2] w0 (fun(r:Ending) (w':World)=>r=.returned (.bool (decide (l1=l2)))∧avc w0.heap.size w0 w'):=by
 obtain⟨_,_,rfl,-,hm1,-⟩:=h1.form (by decide);obtain⟨_,_,rfl,-⟩:=h2.form (by decide);refine bP [] (fn:=Tryz.f147) Tryz.func147 rfl Tryz.ntmps147 rfl<|an (fun h M=>⟨aD (gX (by simp at h;omega)),M.below⟩) fun h=>lr (ι:=Nat) (fun m=>[(13,.int .i64 (m:Int))]) (fun m _=>m≤l1.length∧l1.take m=l2.take m) (fun m=>l1.length-m) 0 (an ⟨⟨rfl,trivial⟩,fun M=>⟨M,avh _,rfl⟩⟩ ?_)
 have hl:l1.length=l2.length:=by simp at h;omega
 rintro m w M ⟨hm,ht⟩;refine an (fun h3=>?_) fun h3 M=>⟨aD (gY (by simp at h3;omega) hl ht),M.below⟩
 have hlt:m<l1.length:=by simp at h3;omega
 obtain⟨x,y,_,_,_,_,hx,hy,e1,e2⟩:=dS (f:=lE.cells) (k:=10) (fun _=>rfl) (by decide) h1 h2 rfl rfl hlt hl M.below;exact dr (by kernel_rfl)<|ia<|an ⟨e1.1,rfl,hlt⟩<|lc<|an e1.2<|ia<|an ⟨e2.1,rfl,hl▸hlt⟩<|lc<|an e2.2<|ei<|an ⟨aa0,W7 x y⟩<|fun w hb M=>an (fun h M=>⟨aD (jA hx hy (by simpa using h)),M.below⟩) fun h=>an (by omega)<|bk (m+1) ⟨rfl,trivial⟩ (fun M=>⟨M,by omega,jy hx hy ht (by simpa using h)⟩) (by dsimp only;omega)
theorem jj(w0:World)(v1 v2:Value)(l1 l2:List ByteArray)(h1:SliceAt w0 v1 1 l1.length (l1.flatMap aT))(h2:SliceAt w0 v2 1 l2.length (l2.flatMap aT)):Calls Tryz.prog 213 #[v1,v2] w0 (fun(r:Ending) (w':World)=>r=.returned (.bool (decide (l1=l2)))∧avc w0.heap.size w0 w'):=by
 obtain⟨_,_,rfl,-,hm1,-⟩:=h1.form (by decide);obtain⟨_,_,rfl,-⟩:=h2.form (by decide);refine bP [] (fn:=Tryz.f213) Tryz.func213 rfl Tryz.ntmps213 rfl<|an (fun h M=>⟨aD (gX (by simp at h;omega)),M.below⟩) fun h=>lr (ι:=Nat) (fun m=>[(13,.int .i64 (m:Int))]) (fun m _=>m≤l1.length∧l1.take m=l2.take m) (fun m=>l1.length-m) 0 (an ⟨⟨rfl,trivial⟩,fun M=>⟨M,avh _,rfl⟩⟩ ?_)
 have hl:l1.length=l2.length:=by simp at h;omega
 rintro m w M ⟨hm,ht⟩;refine an (fun h3=>?_) fun h3 M=>⟨aD (gY (by simp at h3;omega) hl ht),M.below⟩
 have hlt:m<l1.length:=by simp at h3;omega
 obtain⟨x,y,_,_,_,_,hx,hy,e1,e2⟩:=dS (f:=aT) (k:=1) (fun _=>rfl) (by decide) h1 h2 rfl rfl hlt hl M.below;exact dr (by kernel_rfl)<|ia<|an ⟨e1.1,rfl,hlt⟩<|lc (x:=.string x)<|an (e1.2 0 _ rfl)<|ia<|an ⟨e2.1,rfl,hl▸hlt⟩<|lc (x:=.string y)<|an (e2.2 0 _ rfl)<|fun w hb M=>an (fun h M=>⟨aD (jA hx hy (by rw[← pE];simpa using h)),M.below⟩) fun h=>an (by omega)<|bk (m+1) ⟨rfl,trivial⟩ (fun M=>⟨M,by omega,jy hx hy ht (by rw[← pE];simpa using h)⟩) (by dsimp only;omega)
theorem W6(x y:lD)(w:World):(Op.equalIn 10000 184 (.agg #[.string x.name,.int .u64 x.types.a,.int .u64 x.types.b,.int .u64 x.types.c,.int .u64 x.types.d]) (.agg #[.string y.name,.int .u64 y.types.a,.int .u64 y.types.b,.int .u64 y.types.c,.int .u64 y.types.d])).run Tryz.prog w=.ok (decide (x=y)) w:=by
 rw[show(10000:Nat)=9997+3 from rfl,ade];congr 1;rw[avg];obtain⟨wO,⟨I4,I3,IZ,IY⟩⟩:=x;obtain⟨wL,⟨IX,IW,IV,IU⟩⟩:=y;simp only[decide_eq_true_eq,lD.mk.injEq,ay.mk.injEq,Int.natCast_inj]
theorem GK(w0:World)(v1 v2:Value)(l1 l2:List lD)(h1:SliceAt w0 v1 5 l1.length (l1.flatMap lD.cells))(h2:SliceAt w0 v2 5 l2.length (l2.flatMap lD.cells)):Calls Tryz.prog 218 #[v1,v2] w0 (fun(r:Ending) (w':World)=>r=.returned (.bool (decide (l1=l2)))∧avc w0.heap.size w0 w'):=by
 obtain⟨_,_,rfl,-,hm1,-⟩:=h1.form (by decide);obtain⟨_,_,rfl,-⟩:=h2.form (by decide);refine bP [] (fn:=Tryz.f218) Tryz.func218 rfl Tryz.ntmps218 rfl<|an (fun h M=>⟨aD (gX (by simp at h;omega)),M.below⟩) fun h=>lr (ι:=Nat) (fun m=>[(13,.int .i64 (m:Int))]) (fun m _=>m≤l1.length∧l1.take m=l2.take m) (fun m=>l1.length-m) 0 (an ⟨⟨rfl,trivial⟩,fun M=>⟨M,avh _,rfl⟩⟩ ?_)
 have hl:l1.length=l2.length:=by simp at h;omega
 rintro m w M ⟨hm,ht⟩;refine an (fun h3=>?_) fun h3 M=>⟨aD (gY (by simp at h3;omega) hl ht),M.below⟩
 have hlt:m<l1.length:=by simp at h3;omega
 obtain⟨x,y,_,_,_,_,hx,hy,e1,e2⟩:=dS (f:=lD.cells) (k:=5) (fun _=>rfl) (by decide) h1 h2 rfl rfl hlt hl M.below;exact dr (by kernel_rfl)<|ia<|an ⟨e1.1,rfl,hlt⟩<|lc<|an e1.2<|ia<|an ⟨e2.1,rfl,hl▸hlt⟩<|lc<|an e2.2<|ei<|an ⟨aaZ,W6 x y⟩<|fun w hb M=>an (fun h M=>⟨aD (jA hx hy (by simpa using h)),M.below⟩) fun h=>an (by omega)<|bk (m+1) ⟨rfl,trivial⟩ (fun M=>⟨M,by omega,jy hx hy ht (by simpa using h)⟩) (by dsimp only;omega)
theorem W5(x y:iH)(w:World):(Op.equalIn 10000 188 (.agg #[.string x.name,.int .u64 x.types.a,.int .u64 x.types.b,.int .u64 x.types.c,.int .u64 x.types.d,.int .u64 x.next.a,.int .u64 x.next.b,.int .u64 x.next.c,.int .u64 x.next.d]) (.agg #[.string y.name,.int .u64 y.types.a,.int .u64 y.types.b,.int .u64 y.types.c,.int .u64 y.types.d,.int .u64 y.next.a,.int .u64 y.next.b,.int .u64 y.next.c,.int .u64 y.next.d])).run Tryz.prog w=.ok (decide (x=y)) w:=by
 rw[show(10000:Nat)=9997+3 from rfl,WU];congr 1;rw[avg];obtain⟨wO,⟨I4,I3,IZ,IY⟩,⟨agZ,agY,agX,agW⟩⟩:=x;obtain⟨wL,⟨IX,IW,IV,IU⟩,⟨agU,agT,agS,agR⟩⟩:=y;simp only[decide_eq_true_eq,iH.mk.injEq,ay.mk.injEq,Int.natCast_inj,and_assoc]
theorem GJ(w0:World)(v1 v2:Value)(l1 l2:List iH)(h1:SliceAt w0 v1 9 l1.length (l1.flatMap iH.cells))(h2:SliceAt w0 v2 9 l2.length (l2.flatMap iH.cells)):Calls Tryz.prog 219 #[v1,v2] w0 (fun(r:Ending) (w':World)=>r=.returned (.bool (decide (l1=l2)))∧avc w0.heap.size w0 w'):=by
 obtain⟨_,_,rfl,-,hm1,-⟩:=h1.form (by decide);obtain⟨_,_,rfl,-⟩:=h2.form (by decide);refine bP [] (fn:=Tryz.f219) Tryz.func219 rfl Tryz.ntmps219 rfl<|an (fun h M=>⟨aD (gX (by simp at h;omega)),M.below⟩) fun h=>lr (ι:=Nat) (fun m=>[(13,.int .i64 (m:Int))]) (fun m _=>m≤l1.length∧l1.take m=l2.take m) (fun m=>l1.length-m) 0 (an ⟨⟨rfl,trivial⟩,fun M=>⟨M,avh _,rfl⟩⟩ ?_)
 have hl:l1.length=l2.length:=by simp at h;omega
 rintro m w M ⟨hm,ht⟩;refine an (fun h3=>?_) fun h3 M=>⟨aD (gY (by simp at h3;omega) hl ht),M.below⟩
 have hlt:m<l1.length:=by simp at h3;omega
 obtain⟨x,y,_,_,_,_,hx,hy,e1,e2⟩:=dS (f:=iH.cells) (k:=9) (fun _=>rfl) (by decide) h1 h2 rfl rfl hlt hl M.below;exact dr (by kernel_rfl)<|ia<|an ⟨e1.1,rfl,hlt⟩<|lc<|an e1.2<|ia<|an ⟨e2.1,rfl,hl▸hlt⟩<|lc<|an e2.2<|ei<|an ⟨Xb,W5 x y⟩<|fun w hb M=>an (fun h M=>⟨aD (jA hx hy (by simpa using h)),M.below⟩) fun h=>an (by omega)<|bk (m+1) ⟨rfl,trivial⟩ (fun M=>⟨M,by omega,jy hx hy ht (by simpa using h)⟩) (by dsimp only;omega)
theorem W4(x y:kK)(w:World):(Op.equalIn 10000 192 (.agg #[.string x.name,.int .u64 x.roles.a,.int .u64 x.roles.b,.int .u64 x.roles.c,.int .u64 x.roles.d,.int .i64 x.dflt.aW,.int .u64 x.dflt.cats,.int .i64 x.rng.low.aW,.int .u64 x.rng.low.cats,.int .i64 x.rng.high.aW,.int .u64 x.rng.high.cats]) (.agg #[.string y.name,.int .u64 y.roles.a,.int .u64 y.roles.b,.int .u64 y.roles.c,.int .u64 y.roles.d,.int .i64 y.dflt.aW,.int .u64 y.dflt.cats,.int .i64 y.rng.low.aW,.int .u64 y.rng.low.cats,.int .i64 y.rng.high.aW,.int .u64 y.rng.high.cats])).run Tryz.prog w=.ok (decide (x=y)) w:=by
 rw[show(10000:Nat)=9996+4 from rfl,adb];congr 1;rw[avg];obtain⟨wO,⟨Uj,Ui,Uh,Ug⟩,⟨abm,abn⟩,⟨⟨Fv,Fw⟩,⟨DW,DX⟩⟩⟩:=x;obtain⟨wL,⟨Ud,Uc,Ub,Ua⟩,⟨abj,abk⟩,⟨⟨Ft,Fu⟩,⟨DU,DV⟩⟩⟩:=y;simp only[decide_eq_true_eq,sM.mk.injEq,wH.mk.injEq,ay.mk.injEq,kK.mk.injEq,Int.natCast_inj,and_assoc]
theorem GI(w0:World)(v1 v2:Value)(l1 l2:List kK)(h1:SliceAt w0 v1 11 l1.length (l1.flatMap kK.cells))(h2:SliceAt w0 v2 11 l2.length (l2.flatMap kK.cells)):Calls Tryz.prog 220 #[v1,v2] w0 (fun(r:Ending) (w':World)=>r=.returned (.bool (decide (l1=l2)))∧avc w0.heap.size w0 w'):=by
 obtain⟨_,_,rfl,-,hm1,-⟩:=h1.form (by decide);obtain⟨_,_,rfl,-⟩:=h2.form (by decide);refine bP [] (fn:=Tryz.f220) Tryz.func220 rfl Tryz.ntmps220 rfl<|an (fun h M=>⟨aD (gX (by simp at h;omega)),M.below⟩) fun h=>lr (ι:=Nat) (fun m=>[(13,.int .i64 (m:Int))]) (fun m _=>m≤l1.length∧l1.take m=l2.take m) (fun m=>l1.length-m) 0 (an ⟨⟨rfl,trivial⟩,fun M=>⟨M,avh _,rfl⟩⟩ ?_)
 have hl:l1.length=l2.length:=by simp at h;omega
 rintro m w M ⟨hm,ht⟩;refine an (fun h3=>?_) fun h3 M=>⟨aD (gY (by simp at h3;omega) hl ht),M.below⟩
 have hlt:m<l1.length:=by simp at h3;omega
 obtain⟨x,y,_,_,_,_,hx,hy,e1,e2⟩:=dS (f:=kK.cells) (k:=11) (fun _=>rfl) (by decide) h1 h2 rfl rfl hlt hl M.below;exact dr (by kernel_rfl)<|ia<|an ⟨e1.1,rfl,hlt⟩<|lc<|an e1.2<|ia<|an ⟨e2.1,rfl,hl▸hlt⟩<|lc<|an e2.2<|ei<|an ⟨aaY,W4 x y⟩<|fun w hb M=>an (fun h M=>⟨aD (jA hx hy (by simpa using h)),M.below⟩) fun h=>an (by omega)<|bk (m+1) ⟨rfl,trivial⟩ (fun M=>⟨M,by omega,jy hx hy ht (by simpa using h)⟩) (by dsimp only;omega)
theorem WZ(x y:dP)(w:World):(Op.equalIn 10000 197 (.agg #[.string x.name,.bool x.val]) (.agg #[.string y.name,.bool y.val])).run Tryz.prog w=.ok (decide (x=y)) w:=by
 rw[show(10000:Nat)=9998+2 from rfl,ada];congr 1;rw[avg];obtain⟨wO,aky⟩:=x;obtain⟨wL,aku⟩:=y;simp only[decide_eq_true_eq,dP.mk.injEq]
theorem GH(w0:World)(v1 v2:Value)(l1 l2:List dP)(h1:SliceAt w0 v1 2 l1.length (l1.flatMap dP.cells))(h2:SliceAt w0 v2 2 l2.length (l2.flatMap dP.cells)):Calls Tryz.prog 221 #[v1,v2] w0 (fun(r:Ending) (w':World)=>r=.returned (.bool (decide (l1=l2)))∧avc w0.heap.size w0 w'):=by
 obtain⟨_,_,rfl,-,hm1,-⟩:=h1.form (by decide);obtain⟨_,_,rfl,-⟩:=h2.form (by decide);refine bP [] (fn:=Tryz.f221) Tryz.func221 rfl Tryz.ntmps221 rfl<|an (fun h M=>⟨aD (gX (by simp at h;omega)),M.below⟩) fun h=>lr (ι:=Nat) (fun m=>[(13,.int .i64 (m:Int))]) (fun m _=>m≤l1.length∧l1.take m=l2.take m) (fun m=>l1.length-m) 0 (an ⟨⟨rfl,trivial⟩,fun M=>⟨M,avh _,rfl⟩⟩ ?_)
 have hl:l1.length=l2.length:=by simp at h;omega
 rintro m w M ⟨hm,ht⟩;refine an (fun h3=>?_) fun h3 M=>⟨aD (gY (by simp at h3;omega) hl ht),M.below⟩
 have hlt:m<l1.length:=by simp at h3;omega
 obtain⟨x,y,_,_,_,_,hx,hy,e1,e2⟩:=dS (f:=dP.cells) (k:=2) (fun _=>rfl) (by decide) h1 h2 rfl rfl hlt hl M.below;exact dr (by kernel_rfl)<|ia<|an ⟨e1.1,rfl,hlt⟩<|lc<|an e1.2<|ia<|an ⟨e2.1,rfl,hl▸hlt⟩<|lc<|an e2.2<|ei<|an ⟨aaX,WZ x y⟩<|fun w hb M=>an (fun h M=>⟨aD (jA hx hy (by simpa using h)),M.below⟩) fun h=>an (by omega)<|bk (m+1) ⟨rfl,trivial⟩ (fun M=>⟨M,by omega,jy hx hy ht (by simpa using h)⟩) (by dsimp only;omega)
def au{α:Type}(p:α→α→Bool):List α→List α→Bool
 | [],[]=>true
 | x::l,y::r=>p x y&&au p l r
 | _,_=>false
section
variable {α:Type} {p:α→α→Bool} {l1 l2:List α} {m:Nat} {x y:α}
theorem uD(h:¬ l1.length=l2.length):false=au p l1 l2:=by
 induction l1 generalizing l2 with
 | nil=>cases l2 with
  | nil=>exact absurd rfl h
  | cons y r=>rfl
 | cons x l ih=>cases l2 with
  | nil=>rfl
  | cons y r=>rw[au,← ih (fun e=>h (by rw[List.length_cons,List.length_cons,e])),Bool.and_false]
theorem Qy(hx:l1[m]?=some x)(hy:l2[m]?=some y):au p (l1.drop m) (l2.drop m)=(p x y&&au p (l1.drop (m+1)) (l2.drop (m+1))):=by
 rw[List.drop_eq_getElem_cons (au_.1 hx).1,(au_.1 hx).2,List.drop_eq_getElem_cons (au_.1 hy).1,(au_.1 hy).2,au]
theorem Lh(hx:l1[m]?=some x)(hy:l2[m]?=some y)(h:au p l1 l2=au p (l1.drop m) (l2.drop m))(hq:p x y=false):false=au p l1 l2:=by
 rw[h,Qy hx hy,hq];rfl
theorem Lg(hx:l1[m]?=some x)(hy:l2[m]?=some y)(h:au p l1 l2=au p (l1.drop m) (l2.drop m))(hq:p x y=true):au p l1 l2=au p (l1.drop (m+1)) (l2.drop (m+1)):=by
 rw[h,Qy hx hy,hq];rfl
theorem DB(hm:m=l1.length)(hl:l1.length=l2.length)(h:au p l1 l2=au p (l1.drop m) (l2.drop m)):true=au p l1 l2:=by
 subst hm;rw[h,List.drop_length,hl,List.drop_length];rfl
end
mutual
def eT:ak→ak→Bool
 | .node op a rel b names set kids,y=>(((((decide (op=y.op)&&decide (a=y.a))&&decide (rel=y.rel))&&decide (b=y.b))&&decide (set=y.set))&&decide (names=y.names))&&nL kids y.kids
def nL:List ak→List ak→Bool
 | [],[]=>true
 | x::l,y::r=>eT x y&&nL l r
 | [],_::_=>false
 | _::_,[]=>false
end
theorem ED:∀ l r:List ak,nL l r=au eT l r
 | [],[]=>by rw[nL];rfl
 | x::l,y::r=>by rw[nL,ED l r];rfl
 | [],_::_=>by rw[nL];rfl
 | _::_,[]=>by rw[nL];rfl
theorem BX(x y:ak):eT x y=((((((decide (x.op=y.op)&&decide (x.a=y.a))&&decide (x.rel=y.rel))&&decide (x.b=y.b))&&decide (x.set=y.set))&&decide (x.names=y.names))&&au eT x.kids y.kids):=by
 cases x;rw[eT,ED];rfl
theorem tA(w0:World)(v1 v2:Value)(l1 l2:List ak)(h1:mN w0 v1 l1)(h2:mN w0 v2 l2)(hF:∀ x∈l1,∀ (y:ak) (w:World) (cx cy:List Value),aZ w cx x→aZ w cy y→Calls Tryz.prog 138 #[.agg cx.toArray,.agg cy.toArray] w fun r w'=>r=.returned (.bool (eT x y))∧avc w.heap.size w w'):Calls Tryz.prog 140 #[v1,v2,.func (.func 138) #[] #[]] w0 (fun(r:Ending) (w':World)=>r=.returned (.bool (au eT l1 l2))∧avc w0.heap.size w0 w'):=by
 obtain⟨_,_,rfl,-,hm1,-⟩:=aq.form h1 (by decide);obtain⟨_,_,rfl,-⟩:=aq.form h2 (by decide);refine bP [] (fn:=Tryz.f140) Tryz.func140 rfl Tryz.ntmps140 rfl<|an (fun h M=>⟨rb (uD (by simp at h;omega)).symm,M.below⟩) fun h=>?_
 have hl:l1.length=l2.length:=by simp at h;omega
 refine lr (ι:=Nat) (fun m=>[(17,.int .i64 (m:Int))]) (fun m _=>m≤l1.length∧au eT l1 l2=au eT (l1.drop m) (l2.drop m)) (fun m=>l1.length-m) 0 (an ⟨⟨rfl,trivial⟩,fun M=>⟨M,avh _,rfl⟩⟩ ?_);intro m w M ⟨hm,hI⟩;refine an (fun h3=>?_) fun h3 M=>⟨rb (DB (by simp at h3;omega) hl hI).symm,M.below⟩
 have hlt:m<l1.length:=by simp at h3;omega
 have hlt2:m<l2.length:=by omega
 obtain⟨x,hx⟩:∃ x,l1[m]?=some x:=⟨_,ava hlt⟩;obtain⟨y,hy⟩:∃ y,l2[m]?=some y:=⟨_,ava hlt2⟩;obtain⟨b1,o1,_,e1,vJ,hc1⟩:=aq.elt h1 (by decide) hx;obtain⟨b2,o2,_,e2,he2,hc2⟩:=aq.elt h2 (by decide) hy;obtain⟨_,_,rfl,hn1,hk1⟩:=vJ.open;obtain⟨_,_,rfl,-⟩:=aF.get hn1;obtain⟨_,_,rfl,-⟩:=aq.form hk1 (by decide);obtain⟨_,_,rfl,hn2,hk2⟩:=he2.open;obtain⟨_,_,rfl,-⟩:=aF.get hn2;obtain⟨_,_,rfl,-⟩:=aq.form hk2 (by decide);exact ia<|an ⟨e1,rfl,hlt⟩<|lc<|an (bY M.below hc1)<|ei<|an sE fun g1 w1 M1=>lb 0<|an ⟨rfl,rfl⟩ fun w2 M2=>ia<|an ⟨e2,rfl,hlt2⟩<|lc<|an (bY M2.below hc2)<|ei<|an sE fun g2 w3 M3=>lb 0<|an ⟨rfl,rfl⟩ fun w4 M4=>lb 1<|an rfl<|lb 0<|an rfl<|cl<|an (hF x (avb hx) y _ _ _ (vJ.keep M4.below) (he2.keep M4.below)) fun w5 M5=>an (fun hq M=>⟨rb (Lh hx hy hI (by simpa using hq)).symm,M.below⟩) fun hq=>an (by omega)<|bk (m+1) ⟨rfl,trivial⟩ (fun M=>⟨M.only (.cons _ (.cons _ (.refl _))) (.refl _),by omega,Lg hx hy hI (by simpa using hq)⟩) (by dsimp only;omega)
theorem uV:∀ (x y:ak) (w0:World) (cx cy:List Value),aZ w0 cx x→aZ w0 cy y→Calls Tryz.prog 138 #[.agg cx.toArray,.agg cy.toArray] w0 (fun(r:Ending) (w':World)=>r=.returned (.bool (eT x y))∧avc w0.heap.size w0 w'):=by
 refine ak.ind fun x ih=>?_
 intro y w0 cx cy hx hy;obtain⟨_,_,rfl,hn1,hk1⟩:=hx.open;obtain⟨_,_,rfl,hn2,hk2⟩:=hy.open;obtain⟨_,_,rfl,-⟩:=aF.get hn1;obtain⟨_,_,rfl,-⟩:=aF.get hn2;obtain⟨_,_,rfl,-⟩:=aq.form hk1 (by decide);obtain⟨_,_,rfl,-⟩:=aq.form hk2 (by decide);exact bP [] (fn:=Tryz.f138) Tryz.func138 rfl Tryz.ntmps138 rfl<|fun g1 w1 M1=>fun g2 w2 M2=>lb 1<|an rfl<|lb 0<|an rfl<|lb 1<|an (fun _=>rfl)<|lb 0<|an (fun _=>rfl)<|lb 1<|an (fun _=>rfl)<|lb 0<|an (fun _=>rfl)<|lb 1<|an (fun _=>rfl)<|lb 0<|an (fun _=>rfl)<|lb 1<|an (fun _=>rfl)<|lb 0<|an (fun _=>rfl)<|ei (x:=decide (x.set=y.set))<|an (fun _=>⟨rA,fun w=>oM x.set y.set w⟩)<|lb 1<|an (fun _=>rfl)<|lb 0<|an (fun _=>rfl)<|cl<|an (fun _=>jj _ _ _ x.names y.names (hn1.keep M2.below) (hn2.keep M2.below)) fun w3 M3=>lb 1<|an (fun _=>rfl)<|lb 0<|an (fun _=>rfl)<|cl<|an (fun _=>tA _ _ _ x.kids y.kids (mN.keep hk1 M3.below) (mN.keep hk2 M3.below) fun k hk y w cx cy h1 h2=>ih k hk y w cx cy h1 h2) fun w4 M4=>fun M=>⟨rb (BX x y),M.below⟩
def mX(x y:jL):Bool:=(x.name.toList == y.name.toList)&&decide (x.perms=y.perms)
def oy(x y:mT):Bool:=((x.name.toList == y.name.toList)&&(x.perm == y.perm))&&decide (x.oW=y.oW)
def sW(x y:p7):Bool:=((decide (x.cls=y.cls)&&decide (x.perms=y.perms))&&(x.val == y.val))&&eT x.expr y.expr
theorem Rm(w0:World)(x y:jL)(JM Vl:Value)(hn1:aF w0 JM x.perms)(hn2:aF w0 Vl y.perms):Calls Tryz.prog 214 #[.agg #[.string x.name,JM],.agg #[.string y.name,Vl]] w0 (fun(r:Ending) (w':World)=>r=.returned (.bool (mX x y))∧avc w0.heap.size w0 w'):=by
 obtain⟨_,_,rfl,-⟩:=aF.get hn1;obtain⟨_,_,rfl,-⟩:=aF.get hn2;exact bP [] (fn:=Tryz.f214) Tryz.func214 rfl Tryz.ntmps214 rfl<|fun g1 w1 M1=>fun g2 w2 M2=>lb 1<|an rfl<|lb 0<|an rfl<|lb 1<|an (fun _=>rfl)<|lb 0<|an (fun _=>rfl)<|cl<|an (fun _=>jj _ _ _ x.perms y.perms (hn1.keep M2.below) (hn2.keep M2.below)) fun w3 M3=>fun M=>⟨rfl,M.below⟩
theorem Eb(w0:World)(v1 v2:Value)(l1 l2:List jL)(h1:aq 2 (rN w0) w0 v1 l1)(h2:aq 2 (rN w0) w0 v2 l2):Calls Tryz.prog 216 #[v1,v2,.func (.func 214) #[] #[]] w0 (fun(r:Ending) (w':World)=>r=.returned (.bool (au mX l1 l2))∧avc w0.heap.size w0 w'):=by
 obtain⟨_,_,rfl,-,hm1,-⟩:=aq.form h1 (by decide);obtain⟨_,_,rfl,-⟩:=aq.form h2 (by decide);refine bP [] (fn:=Tryz.f216) Tryz.func216 rfl Tryz.ntmps216 rfl<|an (fun h M=>⟨rb (uD (by simp at h;omega)).symm,M.below⟩) fun h=>?_
 have hl:l1.length=l2.length:=by simp at h;omega
 refine lr (ι:=Nat) (fun m=>[(17,.int .i64 (m:Int))]) (fun m _=>m≤l1.length∧au mX l1 l2=au mX (l1.drop m) (l2.drop m)) (fun m=>l1.length-m) 0 (an ⟨⟨rfl,trivial⟩,fun M=>⟨M,avh _,rfl⟩⟩ ?_);intro m w M ⟨hm,hI⟩;refine an (fun h3=>?_) fun h3 M=>⟨rb (DB (by simp at h3;omega) hl hI).symm,M.below⟩
 have hlt:m<l1.length:=by simp at h3;omega
 have hlt2:m<l2.length:=by omega
 obtain⟨x,hx⟩:∃ x,l1[m]?=some x:=⟨_,ava hlt⟩;obtain⟨y,hy⟩:∃ y,l2[m]?=some y:=⟨_,ava hlt2⟩;obtain⟨b1,o1,_,e1,vJ,hc1⟩:=aq.elt h1 (by decide) hx;obtain⟨b2,o2,_,e2,he2,hc2⟩:=aq.elt h2 (by decide) hy;obtain⟨_,rfl,hn1⟩:=vJ;obtain⟨_,_,rfl,-⟩:=aF.get hn1;obtain⟨_,rfl,hn2⟩:=he2;obtain⟨_,_,rfl,-⟩:=aF.get hn2;exact ia<|an ⟨e1,rfl,hlt⟩<|lc<|an (bY M.below hc1)<|ei<|an O1 fun g1 w1 M1=>lb 0<|an ⟨rfl,rfl⟩ fun w2 M2=>ia<|an ⟨e2,rfl,hlt2⟩<|lc<|an (bY M2.below hc2)<|ei<|an O1 fun g2 w3 M3=>lb 0<|an ⟨rfl,rfl⟩ fun w4 M4=>lb 1<|an rfl<|lb 0<|an rfl<|cl<|an (Rm _ x y _ _ (hn1.keep M4.below) (hn2.keep M4.below)) fun w5 M5=>an (fun hq M=>⟨rb (Lh hx hy hI (by simpa using hq)).symm,M.below⟩) fun hq=>an (by omega)<|bk (m+1) ⟨rfl,trivial⟩ (fun M=>⟨M.only (.cons _ (.cons _ (.refl _))) (.refl _),by omega,Lg hx hy hI (by simpa using hq)⟩) (by dsimp only;omega)
theorem Rj(w0:World)(x y:mT)(JM Vl:Value)(hn1:aF w0 JM x.oW)(hn2:aF w0 Vl y.oW):Calls Tryz.prog 215 #[.agg #[.string x.name,JM,.bool x.perm],.agg #[.string y.name,Vl,.bool y.perm]] w0 (fun(r:Ending) (w':World)=>r=.returned (.bool (oy x y))∧avc w0.heap.size w0 w'):=by
 obtain⟨_,_,rfl,-⟩:=aF.get hn1;obtain⟨_,_,rfl,-⟩:=aF.get hn2;exact bP [] (fn:=Tryz.f215) Tryz.func215 rfl Tryz.ntmps215 rfl<|fun g1 w1 M1=>fun g2 w2 M2=>lb 1<|an rfl<|lb 0<|an rfl<|lb 1<|an (fun _=>rfl)<|lb 0<|an (fun _=>rfl)<|lb 1<|an (fun _=>rfl)<|lb 0<|an (fun _=>rfl)<|cl<|an (fun _=>jj _ _ _ x.oW y.oW (hn1.keep M2.below) (hn2.keep M2.below)) fun w3 M3=>fun M=>⟨rfl,M.below⟩
theorem Ea(w0:World)(v1 v2:Value)(l1 l2:List mT)(h1:aq 3 (rJ w0) w0 v1 l1)(h2:aq 3 (rJ w0) w0 v2 l2):Calls Tryz.prog 217 #[v1,v2,.func (.func 215) #[] #[]] w0 (fun(r:Ending) (w':World)=>r=.returned (.bool (au oy l1 l2))∧avc w0.heap.size w0 w'):=by
 obtain⟨_,_,rfl,-,hm1,-⟩:=aq.form h1 (by decide);obtain⟨_,_,rfl,-⟩:=aq.form h2 (by decide);refine bP [] (fn:=Tryz.f217) Tryz.func217 rfl Tryz.ntmps217 rfl<|an (fun h M=>⟨rb (uD (by simp at h;omega)).symm,M.below⟩) fun h=>?_
 have hl:l1.length=l2.length:=by simp at h;omega
 refine lr (ι:=Nat) (fun m=>[(17,.int .i64 (m:Int))]) (fun m _=>m≤l1.length∧au oy l1 l2=au oy (l1.drop m) (l2.drop m)) (fun m=>l1.length-m) 0 (an ⟨⟨rfl,trivial⟩,fun M=>⟨M,avh _,rfl⟩⟩ ?_);intro m w M ⟨hm,hI⟩;refine an (fun h3=>?_) fun h3 M=>⟨rb (DB (by simp at h3;omega) hl hI).symm,M.below⟩
 have hlt:m<l1.length:=by simp at h3;omega
 have hlt2:m<l2.length:=by omega
 obtain⟨x,hx⟩:∃ x,l1[m]?=some x:=⟨_,ava hlt⟩;obtain⟨y,hy⟩:∃ y,l2[m]?=some y:=⟨_,ava hlt2⟩;obtain⟨b1,o1,_,e1,vJ,hc1⟩:=aq.elt h1 (by decide) hx;obtain⟨b2,o2,_,e2,he2,hc2⟩:=aq.elt h2 (by decide) hy;obtain⟨_,rfl,hn1⟩:=vJ;obtain⟨_,_,rfl,-⟩:=aF.get hn1;obtain⟨_,rfl,hn2⟩:=he2;obtain⟨_,_,rfl,-⟩:=aF.get hn2;exact ia<|an ⟨e1,rfl,hlt⟩<|lc<|an (bY M.below hc1)<|ei<|an abg fun g1 w1 M1=>lb 0<|an ⟨rfl,rfl⟩ fun w2 M2=>ia<|an ⟨e2,rfl,hlt2⟩<|lc<|an (bY M2.below hc2)<|ei<|an abg fun g2 w3 M3=>lb 0<|an ⟨rfl,rfl⟩ fun w4 M4=>lb 1<|an rfl<|lb 0<|an rfl<|cl<|an (Rj _ x y _ _ (hn1.keep M4.below) (hn2.keep M4.below)) fun w5 M5=>an (fun hq M=>⟨rb (Lh hx hy hI (by simpa using hq)).symm,M.below⟩) fun hq=>an (by omega)<|bk (m+1) ⟨rfl,trivial⟩ (fun M=>⟨M.only (.cons _ (.cons _ (.refl _))) (.refl _),by omega,Lg hx hy hI (by simpa using hq)⟩) (by dsimp only;omega)
theorem Rl(w0:World)(x y:p7)(JM Vl VO kv2:Value)(vJ:aZ w0 [.int .i64 x.expr.op,.int .i64 x.expr.a,.int .i64 x.expr.rel,.int .i64 x.expr.b,JM,.int .u64 x.expr.set.a,.int .u64 x.expr.set.b,.int .u64 x.expr.set.c,.int .u64 x.expr.set.d,VO] x.expr)(he2:aZ w0 [.int .i64 y.expr.op,.int .i64 y.expr.a,.int .i64 y.expr.rel,.int .i64 y.expr.b,Vl,.int .u64 y.expr.set.a,.int .u64 y.expr.set.b,.int .u64 y.expr.set.c,.int .u64 y.expr.set.d,kv2] y.expr):Calls Tryz.prog 137 #[.agg #[.int .i64 x.cls,.int .u32 x.perms,.bool x.val,.int .i64 x.expr.op,.int .i64 x.expr.a,.int .i64 x.expr.rel,.int .i64 x.expr.b,JM,.int .u64 x.expr.set.a,.int .u64 x.expr.set.b,.int .u64 x.expr.set.c,.int .u64 x.expr.set.d,VO],.agg #[.int .i64 y.cls,.int .u32 y.perms,.bool y.val,.int .i64 y.expr.op,.int .i64 y.expr.a,.int .i64 y.expr.rel,.int .i64 y.expr.b,Vl,.int .u64 y.expr.set.a,.int .u64 y.expr.set.b,.int .u64 y.expr.set.c,.int .u64 y.expr.set.d,kv2]] w0 (fun(r:Ending) (w':World)=>r=.returned (.bool (sW x y))∧avc w0.heap.size w0 w'):=by
 obtain⟨_,_,e1,hn1,hk1⟩:=vJ.open;obtain⟨_,_,e2,hn2,hk2⟩:=he2.open;cases e1;cases e2;obtain⟨_,_,rfl,-⟩:=aF.get hn1;obtain⟨_,_,rfl,-⟩:=aF.get hn2;obtain⟨_,_,rfl,-⟩:=aq.form hk1 (by decide);obtain⟨_,_,rfl,-⟩:=aq.form hk2 (by decide);exact bP [] (fn:=Tryz.f137) Tryz.func137 rfl Tryz.ntmps137 rfl<|fun g1 w1 M1=>fun g2 w2 M2=>lb 1<|an rfl<|lb 0<|an rfl<|lb 1<|an (fun _=>rfl)<|lb 0<|an (fun _=>rfl)<|lb 1<|an (fun _=>rfl)<|lb 0<|an (fun _=>rfl)<|lb 1<|an (fun _=>rfl)<|lb 0<|an (fun _=>rfl)<|cl<|an (fun _=>uV x.expr y.expr _ _ _ (vJ.keep M2.below) (he2.keep M2.below)) fun w3 M3=>fun M=>⟨rfl,M.below⟩
theorem Ec(w0:World)(v1 v2:Value)(l1 l2:List p7)(h1:aq 13 (rM w0) w0 v1 l1)(h2:aq 13 (rM w0) w0 v2 l2):Calls Tryz.prog 144 #[v1,v2,.func (.func 137) #[] #[]] w0 (fun(r:Ending) (w':World)=>r=.returned (.bool (au sW l1 l2))∧avc w0.heap.size w0 w'):=by
 obtain⟨_,_,rfl,-,hm1,-⟩:=aq.form h1 (by decide);obtain⟨_,_,rfl,-⟩:=aq.form h2 (by decide);refine bP [] (fn:=Tryz.f144) Tryz.func144 rfl Tryz.ntmps144 rfl<|an (fun h M=>⟨rb (uD (by simp at h;omega)).symm,M.below⟩) fun h=>?_
 have hl:l1.length=l2.length:=by simp at h;omega
 refine lr (ι:=Nat) (fun m=>[(17,.int .i64 (m:Int))]) (fun m _=>m≤l1.length∧au sW l1 l2=au sW (l1.drop m) (l2.drop m)) (fun m=>l1.length-m) 0 (an ⟨⟨rfl,trivial⟩,fun M=>⟨M,avh _,rfl⟩⟩ ?_);intro m w M ⟨hm,hI⟩;refine an (fun h3=>?_) fun h3 M=>⟨rb (DB (by simp at h3;omega) hl hI).symm,M.below⟩
 have hlt:m<l1.length:=by simp at h3;omega
 have hlt2:m<l2.length:=by omega
 obtain⟨x,hx⟩:∃ x,l1[m]?=some x:=⟨_,ava hlt⟩;obtain⟨y,hy⟩:∃ y,l2[m]?=some y:=⟨_,ava hlt2⟩;obtain⟨b1,o1,_,e1,vJ,hc1⟩:=aq.elt h1 (by decide) hx;obtain⟨b2,o2,_,e2,he2,hc2⟩:=aq.elt h2 (by decide) hy;obtain⟨_,rfl,vJ⟩:=vJ;obtain⟨_,_,rfl,hn1,hk1⟩:=vJ.open;obtain⟨_,_,rfl,-⟩:=aF.get hn1;obtain⟨_,_,rfl,-⟩:=aq.form hk1 (by decide);obtain⟨_,rfl,he2⟩:=he2;obtain⟨_,_,rfl,hn2,hk2⟩:=he2.open;obtain⟨_,_,rfl,-⟩:=aF.get hn2;obtain⟨_,_,rfl,-⟩:=aq.form hk2 (by decide);exact ia<|an ⟨e1,rfl,hlt⟩<|lc<|an (bY M.below hc1)<|ei<|an QK fun g1 w1 M1=>lb 0<|an ⟨rfl,rfl⟩ fun w2 M2=>ia<|an ⟨e2,rfl,hlt2⟩<|lc<|an (bY M2.below hc2)<|ei<|an QK fun g2 w3 M3=>lb 0<|an ⟨rfl,rfl⟩ fun w4 M4=>lb 1<|an rfl<|lb 0<|an rfl<|cl<|an (Rl _ x y _ _ _ _ (vJ.keep M4.below) (he2.keep M4.below)) fun w5 M5=>an (fun hq M=>⟨rb (Lh hx hy hI (by simpa using hq)).symm,M.below⟩) fun hq=>an (by omega)<|bk (m+1) ⟨rfl,trivial⟩ (fun M=>⟨M.only (.cons _ (.cons _ (.refl _))) (.refl _),by omega,Lg hx hy hI (by simpa using hq)⟩) (by dsimp only;omega)
def kG(p q:aA):Bool:=(((((((au mX p.classes q.classes&&au oy p.types q.types)&&decide (p.attrs=q.attrs))&&decide (p.roles=q.roles))&&decide (p.users=q.users))&&decide (p.bools=q.bools))&&decide (p.aW=q.aW))&&decide (p.cats=q.cats))
def gU(p q:aA):Bool:=(((((((((kG p q&&au eT p.conds q.conds)&&decide (p.rules=q.rules))&&decide (p.trans=q.trans))&&decide (p.aS=q.aS))&&decide (p.ranges=q.ranges))&&au sW p.cons q.cons)&&decide (p.bL=q.bL))&&decide (p.files=q.files))&&decide (p.asserts=q.asserts))
theorem zW(w0:World)(c0 c1 c2 c3 c4 c5 c6 c7 c8 c9 aQ aL aK aP aO aN aM d0 d1 d2 d3 d4 d5 d6 d7 d8 d9 Bc Bb Ba A_ A9 A8 AZ:Value)(p q:aA)(hp:aJ w0 c0 c1 c2 c3 c4 c5 c6 c7 c8 c9 aQ aL aK aP aO aN aM p)(hq:aJ w0 d0 d1 d2 d3 d4 d5 d6 d7 d8 d9 Bc Bb Ba A_ A9 A8 AZ q):Calls Tryz.prog 139 #[.agg #[c0,c1,c2,c3,c4,c5,c6,c7,c8,c9,aQ,aL,aK,aP,aO,aN,aM],.agg #[d0,d1,d2,d3,d4,d5,d6,d7,d8,d9,Bc,Bb,Ba,A_,A9,A8,AZ]] w0 (fun(r:Ending) (w':World)=>r=.returned (.bool (kG p q))∧avc w0.heap.size w0 w'):=by
 obtain⟨_,_,_,_,_,_,_,_,_,_,_,_,_,_,_,_,_,_,_,_,_,_,_,_,_,_,_,_,_,_,_,_,_,_,rfl,rfl,rfl,rfl,rfl,rfl,rfl,rfl,rfl,rfl,rfl,rfl,rfl,rfl,rfl,rfl,rfl⟩:=hp.open;obtain⟨_,_,_,_,_,_,_,_,_,_,_,_,_,_,_,_,_,_,_,_,_,_,_,_,_,_,_,_,_,_,_,_,_,_,rfl,rfl,rfl,rfl,rfl,rfl,rfl,rfl,rfl,rfl,rfl,rfl,rfl,rfl,rfl,rfl,rfl⟩:=hq.open;exact bP [] (fn:=Tryz.f139) Tryz.func139 rfl Tryz.ntmps139 rfl<|fun g1 w1 M1=>fun g2 w2 M2=>lb 1<|an rfl<|lb 0<|an rfl<|cl<|an (Eb _ _ _ p.classes q.classes (hp.keep M2.below).classes (hq.keep M2.below).classes) fun w3 M3=>lb 1<|an (fun _=>rfl)<|lb 0<|an (fun _=>rfl)<|cl<|an (fun _=>Ea _ _ _ p.types q.types (hp.keep M3.below).types (hq.keep M3.below).types) fun w4 M4=>lb 1<|an (fun _=>rfl)<|lb 0<|an (fun _=>rfl)<|cl<|an (fun _=>GK _ _ _ p.attrs q.attrs (hp.keep M4.below).attrs (hq.keep M4.below).attrs) fun w5 M5=>lb 1<|an (fun _=>rfl)<|lb 0<|an (fun _=>rfl)<|cl<|an (fun _=>GJ _ _ _ p.roles q.roles (hp.keep M5.below).roles (hq.keep M5.below).roles) fun w6 M6=>lb 1<|an (fun _=>rfl)<|lb 0<|an (fun _=>rfl)<|cl<|an (fun _=>GI _ _ _ p.users q.users (hp.keep M6.below).users (hq.keep M6.below).users) fun w7 M7=>lb 1<|an (fun _=>rfl)<|lb 0<|an (fun _=>rfl)<|cl<|an (fun _=>GH _ _ _ p.bools q.bools (hp.keep M7.below).bools (hq.keep M7.below).bools) fun w8 M8=>lb 1<|an (fun _=>rfl)<|lb 0<|an (fun _=>rfl)<|cl<|an (fun _=>jj _ _ _ p.aW q.aW (hp.keep M8.below).aW (hq.keep M8.below).aW) fun w9 M9=>lb 1<|an (fun _=>rfl)<|lb 0<|an (fun _=>rfl)<|cl<|an (fun _=>jj _ _ _ p.cats q.cats (hp.keep M9.below).cats (hq.keep M9.below).cats) fun qq jZ=>fun M=>⟨rfl,M.below⟩
theorem GD(w0:World)(c0 c1 c2 c3 c4 c5 c6 c7 c8 c9 aQ aL aK aP aO aN aM d0 d1 d2 d3 d4 d5 d6 d7 d8 d9 Bc Bb Ba A_ A9 A8 AZ:Value)(p q:aA)(hp:aJ w0 c0 c1 c2 c3 c4 c5 c6 c7 c8 c9 aQ aL aK aP aO aN aM p)(hq:aJ w0 d0 d1 d2 d3 d4 d5 d6 d7 d8 d9 Bc Bb Ba A_ A9 A8 AZ q):Calls Tryz.prog 72 #[.agg #[c0,c1,c2,c3,c4,c5,c6,c7,c8,c9,aQ,aL,aK,aP,aO,aN,aM],.agg #[d0,d1,d2,d3,d4,d5,d6,d7,d8,d9,Bc,Bb,Ba,A_,A9,A8,AZ]] w0 (fun(r:Ending) (w':World)=>r=.returned (.bool (gU p q))∧avc w0.heap.size w0 w'):=by
 obtain⟨_,_,_,_,_,_,_,_,_,_,_,_,_,_,_,_,_,_,_,_,_,_,_,_,_,_,_,_,_,_,_,_,_,_,rfl,rfl,rfl,rfl,rfl,rfl,rfl,rfl,rfl,rfl,rfl,rfl,rfl,rfl,rfl,rfl,rfl⟩:=hp.open;obtain⟨_,_,_,_,_,_,_,_,_,_,_,_,_,_,_,_,_,_,_,_,_,_,_,_,_,_,_,_,_,_,_,_,_,_,rfl,rfl,rfl,rfl,rfl,rfl,rfl,rfl,rfl,rfl,rfl,rfl,rfl,rfl,rfl,rfl,rfl⟩:=hq.open;exact bP [] (fn:=Tryz.f72) Tryz.func72 rfl Tryz.ntmps72 rfl<|fun g1 w1 M1=>fun g2 w2 M2=>lb 1<|an rfl<|lb 0<|an rfl<|cl<|an (zW _ _ _ _ _ _ _ _ _ _ _ _ _ _ _ _ _ _ _ _ _ _ _ _ _ _ _ _ _ _ _ _ _ _ _ p q (hp.keep M2.below) (hq.keep M2.below)) fun w3 M3=>lb 1<|an (fun _=>rfl)<|lb 0<|an (fun _=>rfl)<|cl<|an (fun _=>tA _ _ _ p.conds q.conds (hp.keep M3.below).conds (hq.keep M3.below).conds fun x _ y w cx cy h1 h2=>uV x y w cx cy h1 h2) fun w4 M4=>lb 1<|an (fun _=>rfl)<|lb 0<|an (fun _=>rfl)<|cl<|an (fun _=>GU _ _ _ p.rules q.rules (hp.keep M4.below).rules (hq.keep M4.below).rules) fun w5 M5=>lb 1<|an (fun _=>rfl)<|lb 0<|an (fun _=>rfl)<|cl<|an (fun _=>zD _ _ _ p.trans q.trans (hp.keep M5.below).trans (hq.keep M5.below).trans) fun w6 M6=>lb 1<|an (fun _=>rfl)<|lb 0<|an (fun _=>rfl)<|cl<|an (fun _=>GS _ _ _ p.aS q.aS (hp.keep M6.below).aS (hq.keep M6.below).aS) fun w7 M7=>lb 1<|an (fun _=>rfl)<|lb 0<|an (fun _=>rfl)<|cl<|an (fun _=>GR _ _ _ p.ranges q.ranges (hp.keep M7.below).ranges (hq.keep M7.below).ranges) fun w8 M8=>lb 1<|an (fun _=>rfl)<|lb 0<|an (fun _=>rfl)<|cl<|an (fun _=>Ec _ _ _ p.cons q.cons (hp.keep M8.below).cons (hq.keep M8.below).cons) fun w9 M9=>lb 1<|an (fun _=>rfl)<|lb 0<|an (fun _=>rfl)<|cl<|an (fun _=>GQ _ _ _ p.bL q.bL (hp.keep M9.below).bL (hq.keep M9.below).bL) fun qq jZ=>lb 1<|an (fun _=>rfl)<|lb 0<|an (fun _=>rfl)<|cl<|an (fun _=>GP _ _ _ p.files q.files (hp.keep jZ.below).files (hq.keep jZ.below).files) fun zS M11=>lb 1<|an (fun _=>rfl)<|lb 0<|an (fun _=>rfl)<|cl<|an (fun _=>GL _ _ _ p.asserts q.asserts (hp.keep M11.below).asserts (hq.keep M11.below).asserts) fun DZ Bn=>fun M=>⟨rfl,M.below⟩
end Go.Proofs.YtdcofoaihmongaaGreat

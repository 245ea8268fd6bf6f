import Derived.BigQuiet
import Derived.ChangeKeysEq
import Derived.Deep.MidRow
import Derived.Great.BuildSlice
import Derived.Laws.BitsAllLaws
import Derived.Laws.OwnMore
import Derived.Laws.Pointers
import Derived.Laws.Rows
import Derived.Laws.StructEq
import Derived.Laws.Tables
import Derived.Lib.Hide
import Derived.Test.YtkkmjdceiocnbaaGreatDoorProg
import Derived.WalkKit
import Derived.WalkSmall
import Derived.WalkSpells
import Derived.Test.YtkkmjdceiocnbaaGreatDoorSTC
open Bool renaming and_eq_true→alX
open Go renaming wp_seq_k→al3,wpList_nil→al4
open Go.Lib renaming hid→alY
open Go.RowKit renaming Below→alU
open List renaming getElem?_eq_getElem→alT,mem_of_getElem?→alZ
open Nat renaming zero_le→alW
open Option.some renaming inj→al2
open Prod.mk renaming inj→al0
set_option maxRecDepth 100000
set_option maxHeartbeats 8000000
set_option linter.unusedSectionVars false
set_option linter.unusedSimpArgs false
set_option linter.unusedVariables false
namespace Go.Proofs.YtkkmjdceiocnbaaGreatDoor
open Go.RowKit
theorem dU{k:IntKind}{a b:Int}(h:a=b):Ending.returned (.int k a)=.returned (.int k b):=by rw[h]
theorem aJ{a b:Bool}(h:a=b):Ending.returned (.bool a)=.returned (.bool b):=by rw[h]
end Go.Proofs.YtkkmjdceiocnbaaGreatDoor
namespace Go.Proofs.YtkkmjdceiocnbaaGreatDoor
open Go Go.RowKit
theorem yS(w:World)(m:Nat)(hm:m<256):Calls Tryz.prog 302 #[.int .i64 m] w fun e w'=>e=.returned (.int .u64 ((2^(m%64):Nat):Int))∧w=w':=by
 go_enter Tryz.func302,Tryz.ntmps302
 go_wp2
 go_ret
 exact⟨dU (uO (Nat.mod_lt _ (by decide))),rfl⟩
theorem iQ(w:World)(o:Obj)(cs:Array Value)(t:TypeId):Whole ((w.alloc o).alloc (.cells cs t)) (w.heap.size+1) t cs:=by
 have:=Whole.new (w.alloc o) t cs;simpa using this
theorem uY:(Tryz.prog.info? 77).map (·.size)=some 4:=by kernel_rfl
def mY(x:Int):Value:=.int .i64 x
end Go.Proofs.YtkkmjdceiocnbaaGreatDoor
namespace Go.Proofs.YtkkmjdceiocnbaaGreatDoor
open Go Go.ChangeAt Go.ChangeShapes Go.RowKit Go.WideShapes
theorem aW{n:Nat}(h:n≤reachBytes):n≤140737488355328:=by unfold reachBytes at h;omega
theorem au{n b:Nat}(hb:0<b)(h:n*b≤reachBytes):n≤140737488355328:=aW (Nat.le_trans (Nat.le_mul_of_pos_right n hb) h)
theorem wf_i64{n:Int}(h:(Lit.int .i64 n).wf=true):gA n:=by
 have a1:IntKind.i64.min=-9223372036854775808:=by decide
 have a2:IntKind.i64.max=9223372036854775807:=by decide
 simp only[Lit.wf,a1,a2] at h;simp at h;unfold gA;omega
theorem wf_u32{n:Int}(h:(Lit.int .u32 n).wf=true):z_ n:=by
 have a1:IntKind.u32.min=0:=by decide
 have a2:IntKind.u32.max=4294967295:=by decide
 simp only[Lit.wf,a1,a2] at h;simp at h;unfold z_;omega
theorem wf_u64{n:Int}(h:(Lit.int .u64 n).wf=true):∃ m:Nat,n=m∧fA m:=by
 have a1:IntKind.u64.min=0:=by decide
 have a2:IntKind.u64.max=18446744073709551615:=by decide
 simp only[Lit.wf,a1,a2] at h;simp at h;exact⟨n.toNat,by omega,by unfold fA;omega⟩
theorem aI{w:World}{f:Nat}{cs:List Value}(h:Rd Tryz.prog w f 77 cs):∃ s:aE,cs=s.cells∧s.Ok:=by
 obtain⟨f',rfl,es,rfl,hn,hx⟩:=h.array Tryz.underlying77
 match es,hn with
 | [e0,e1,e2,e3],_=>
  obtain⟨A,rfl,hA⟩:=(hx e0 (by simp)).2.int Tryz.underlying59;obtain⟨B,rfl,hB⟩:=(hx e1 (by simp)).2.int Tryz.underlying59;obtain⟨C,rfl,hC⟩:=(hx e2 (by simp)).2.int Tryz.underlying59;obtain⟨D,rfl,hD⟩:=(hx e3 (by simp)).2.int Tryz.underlying59;obtain⟨a,rfl,ha⟩:=wf_u64 hA;obtain⟨b,rfl,hb⟩:=wf_u64 hB;obtain⟨c,rfl,hc⟩:=wf_u64 hC;obtain⟨d,rfl,hd⟩:=wf_u64 hD;exact⟨⟨a,b,c,d⟩,rfl,ha,hb,hc,hd⟩
theorem dR{w:World}{f:Nat}{cs:List Value}(h:Rd Tryz.prog w f 61 cs):∃ x:iL,cs=x.cells∧x.Ok:=by
 obtain⟨f',rfl,h⟩:=h.struct Tryz.underlying61;obtain⟨c0,_,rfl,-,r0,c1,_,rfl,-,r1,hn⟩:=h;obtain rfl:_=[]:=hn;obtain⟨A,rfl,hA⟩:=r0.int Tryz.underlying3;obtain⟨B',rfl,hB'⟩:=r1.int Tryz.underlying59;obtain⟨B,rfl,hB⟩:=wf_u64 hB';exact⟨⟨A,B⟩,rfl,⟨wf_i64 hA,hB⟩⟩
theorem dP{w:World}{f:Nat}{cs:List Value}(h:Rd Tryz.prog w f 63 cs):∃ x:mS,cs=x.cells∧x.Ok:=by
 obtain⟨f',rfl,h⟩:=h.struct Tryz.underlying63;obtain⟨c0,_,rfl,-,r0,c1,_,rfl,-,r1,hn⟩:=h;obtain rfl:_=[]:=hn;obtain⟨A,rfl,hA⟩:=dR r0;obtain⟨B,rfl,hB⟩:=dR r1;exact⟨⟨A,B⟩,rfl,⟨hA,hB⟩⟩
theorem fu{w:World}{f:Nat}{cs:List Value}(h:Rd Tryz.prog w f 65 cs):∃ x:eG,cs=x.cells∧x.Ok:=by
 obtain⟨f',rfl,h⟩:=h.struct Tryz.underlying65;obtain⟨c0,_,rfl,-,r0,c1,_,rfl,-,r1,c2,_,rfl,-,r2,c3,_,rfl,-,r3,hn⟩:=h;obtain rfl:_=[]:=hn;obtain⟨A,rfl,hA⟩:=r0.int Tryz.underlying3;obtain⟨B,rfl,hB⟩:=r1.int Tryz.underlying3;obtain⟨C,rfl,hC⟩:=r2.int Tryz.underlying3;obtain⟨D,rfl,hD⟩:=dP r3;exact⟨⟨A,B,C,D⟩,rfl,⟨wf_i64 hA,wf_i64 hB,wf_i64 hC,hD⟩⟩
theorem aC{α:Type}{Q:List Value→Prop}{R:List Value→α→Prop}(one:∀ cs,Q cs→∃ x,R cs x):∀ es:List (List Value),(∀ x∈es,Q x)→∃ l:List α,es.length=l.length∧(∀ (i:Nat) x y,es[i]?=some x→l[i]?=some y→R x y)
 | [],_=>⟨[],rfl,fun i x y h=>by simp at h⟩
 | e::es,h=>by
  obtain⟨x,hx⟩:=one e (h e (by simp));obtain⟨l,h1,h2⟩:=aC one es fun y hy=>h y (by simp[hy])
  refine⟨x::l,by simp[h1],fun i y z hy hz=>?_⟩
  cases i with
  | zero=>simp at hy hz;subst hy hz;exact hx
  | succ i=>exact h2 i y z (by simpa using hy) (by simpa using hz)
theorem aK{α:Type}{R:List Value→α→Prop}{B:α→Prop}{es:List (List Value)}{l:List α}(hl:es.length=l.length)(h:∀ (i:Nat) x y,es[i]?=some x→l[i]?=some y→R x y∧B y):∀ y∈l,B y:=by
 intro y hy;obtain⟨i,hi⟩:=List.getElem?_of_mem hy;have hlt:=(List.getElem?_eq_some_iff.1 hi).1;exact(h i _ y (alT (by omega)) hi).2
theorem aO{α:Type}{cells:α→List Value}:∀ {es:List (List Value)} {l:List α},es.length=l.length→(∀ (i:Nat) x y,es[i]?=some x→l[i]?=some y→x=cells y)→es.flatten=l.flatMap cells
 | [],[],_,_=>rfl
 | [],_::_,h,_=>by simp at h
 | _::_,[],h,_=>by simp at h
 | e::es,x::l,h,hr=>by
  rw[List.flatten_cons,List.flatMap_cons,hr 0 e x rfl rfl,aO (es:=es) (l:=l) (by simpa using h) fun i a b ha hb=>hr (i+1) a b (by simpa using ha) (by simpa using hb)]
theorem k_{w:World}{f:Nat}{cs:List Value}(h:Rd Tryz.prog w f 9 cs):∃ x,cs=aR x∧bW x:=by
 obtain⟨s,rfl,hs⟩:=h.string Tryz.underlying9;exact⟨s,rfl,aW hs⟩
theorem bU{w:World}{f:Nat}{cs:List Value}(h:Rd Tryz.prog w f 28 cs):∃ v,∃ l:List ByteArray,cs=[v]∧SliceAt w v 1 l.length (l.flatMap aR)∧(∀ x∈l,bW x)∧fU l.length:=by
 obtain⟨f',v,rfl,rfl,es,h1,h2,h3⟩:=h.slice Tryz.underlying28;rw[show Tryz.prog.cellsOf 9=1 from by kernel_rfl] at h1;obtain⟨l,e1,e2⟩:=aC (R:=fun cs (x:ByteArray)=>cs=aR x∧bW x) (fun cs h=>k_ h.2) es h2;rw[aO e1 fun i x y hx hy=>(e2 i x y hx hy).1,e1] at h1;rw[e1] at h3;exact⟨v,l,rfl,h1,aK e1 e2,au (of_decide_eq_true (by kernel_rfl)) h3⟩
theorem eX{w:World}:∀ (f:Nat) (cs:List Value),Rd Tryz.prog w f 84 cs→∃ e,bq w cs e∧e.Ok:=by
 intro f
 induction f using Nat.strongRecOn with
 | ind f ih=>
  intro cs h;obtain⟨f',rfl,h⟩:=h.struct Tryz.underlying84;obtain⟨c0,_,rfl,-,r0,c1,_,rfl,-,r1,c2,_,rfl,-,r2,c3,_,rfl,-,r3,c4,_,rfl,-,r4,c5,_,rfl,-,r5,c6,_,rfl,-,r6,hn⟩:=h;obtain rfl:_=[]:=hn;obtain⟨A,rfl,hA⟩:=r0.int Tryz.underlying3;obtain⟨B,rfl,hB⟩:=r1.int Tryz.underlying3;obtain⟨C,rfl,hC⟩:=r2.int Tryz.underlying3;obtain⟨D,rfl,hD⟩:=r3.int Tryz.underlying3;obtain⟨nv,ns,rfl,hns,hno,hnl⟩:=bU r4;obtain⟨s,rfl,hs⟩:=aI r5;obtain⟨f'',kv,rfl,rfl,es,h1,h2,h3⟩:=r6.slice Tryz.underlying29;rw[show Tryz.prog.cellsOf 84=10 from by kernel_rfl] at h1 h2;obtain⟨l,e1,e2⟩:=aC (R:=fun cs (x:aS)=>bq w cs x∧x.Ok) (fun cs h=>ih f'' (by omega) cs h.2) es h2;rw[e1] at h1 h3;exact⟨.node A B C D ns s l,.node hns e1 (fun x hx=>(h2 x hx).1) h1 fun i x y hx hy=>(e2 i x y hx hy).1,.node (wf_i64 hA) (wf_i64 hB) (wf_i64 hC) (wf_i64 hD) ⟨hnl,hno⟩ hs (au (of_decide_eq_true (by kernel_rfl)) h3) (aK e1 e2)⟩
theorem iE{w:World}{f:Nat}{cs:List Value}(h:Rd Tryz.prog w f 142 cs):∃ x:bY,cs=x.cells∧x.oo:=by
 obtain⟨f',rfl,h⟩:=h.struct Tryz.underlying142;obtain⟨c0,_,rfl,-,r0,c1,_,rfl,-,r1,c2,_,rfl,-,r2,c3,_,rfl,-,r3,c4,_,rfl,-,r4,c5,_,rfl,-,r5,c6,_,rfl,-,r6,hn⟩:=h;obtain rfl:_=[]:=hn;obtain⟨A,rfl,hA⟩:=r0.int Tryz.underlying3;obtain⟨B,rfl,hB⟩:=aI r1;obtain⟨C,rfl,hC⟩:=aI r2;obtain⟨D,rfl⟩:=r3.bool Tryz.underlying4;obtain⟨E,rfl,hE⟩:=r4.int Tryz.underlying3;obtain⟨F,rfl,hF⟩:=r5.int Tryz.underlying68;obtain⟨G,rfl,hG⟩:=r6.int Tryz.underlying3;exact⟨⟨A,B,C,D,E,F,G⟩,rfl,⟨wf_i64 hA,hB,hC,wf_i64 hE,wf_u32 hF,wf_i64 hG⟩⟩
theorem jF{w:World}{f:Nat}{cs:List Value}(h:Rd Tryz.prog w f 30 cs):∃ v,∃ l:List bY,cs=[v]∧SliceAt w v 13 l.length (l.flatMap bY.cells)∧(∀ x∈l,bY.oo x)∧fU l.length:=by
 obtain⟨f',v,rfl,rfl,es,h1,h2,h3⟩:=h.slice Tryz.underlying30;rw[show Tryz.prog.cellsOf 142=13 from by kernel_rfl] at h1;obtain⟨l,e1,e2⟩:=aC (R:=fun cs (x:bY)=>cs=bY.cells x∧bY.oo x) (fun cs h=>iE h.2) es h2;rw[aO e1 fun i x y hx hy=>(e2 i x y hx hy).1,e1] at h1;rw[e1] at h3;exact⟨v,l,rfl,h1,aK e1 e2,au (of_decide_eq_true (by kernel_rfl)) h3⟩
theorem jN{w:World}{f:Nat}{cs:List Value}(h:Rd Tryz.prog w f 134 cs):∃ x:fH,cs=x.cells∧x.Ok:=by
 obtain⟨f',rfl,h⟩:=h.struct Tryz.underlying134;obtain⟨c0,_,rfl,-,r0,c1,_,rfl,-,r1,hn⟩:=h;obtain rfl:_=[]:=hn;obtain⟨A,rfl,hA⟩:=r0.string Tryz.underlying9;obtain⟨B,rfl,hB⟩:=aI r1;exact⟨⟨A,B⟩,rfl,⟨aW hA,hB⟩⟩
theorem lS{w:World}{f:Nat}{cs:List Value}(h:Rd Tryz.prog w f 24 cs):∃ v,∃ l:List fH,cs=[v]∧SliceAt w v 5 l.length (l.flatMap fH.cells)∧(∀ x∈l,fH.Ok x)∧fU l.length:=by
 obtain⟨f',v,rfl,rfl,es,h1,h2,h3⟩:=h.slice Tryz.underlying24;rw[show Tryz.prog.cellsOf 134=5 from by kernel_rfl] at h1;obtain⟨l,e1,e2⟩:=aC (R:=fun cs (x:fH)=>cs=fH.cells x∧fH.Ok x) (fun cs h=>jN h.2) es h2;rw[aO e1 fun i x y hx hy=>(e2 i x y hx hy).1,e1] at h1;rw[e1] at h3;exact⟨v,l,rfl,h1,aK e1 e2,au (of_decide_eq_true (by kernel_rfl)) h3⟩
theorem jH{w:World}{f:Nat}{cs:List Value}(h:Rd Tryz.prog w f 136 cs):∃ x:dI,cs=x.cells∧x.Ok:=by
 obtain⟨f',rfl,h⟩:=h.struct Tryz.underlying136;obtain⟨c0,_,rfl,-,r0,c1,_,rfl,-,r1,c2,_,rfl,-,r2,hn⟩:=h;obtain rfl:_=[]:=hn;obtain⟨A,rfl,hA⟩:=r0.string Tryz.underlying9;obtain⟨B,rfl,hB⟩:=aI r1;obtain⟨C,rfl,hC⟩:=aI r2;exact⟨⟨A,B,C⟩,rfl,⟨aW hA,hB,hC⟩⟩
theorem lM{w:World}{f:Nat}{cs:List Value}(h:Rd Tryz.prog w f 25 cs):∃ v,∃ l:List dI,cs=[v]∧SliceAt w v 9 l.length (l.flatMap dI.cells)∧(∀ x∈l,dI.Ok x)∧fU l.length:=by
 obtain⟨f',v,rfl,rfl,es,h1,h2,h3⟩:=h.slice Tryz.underlying25;rw[show Tryz.prog.cellsOf 136=9 from by kernel_rfl] at h1;obtain⟨l,e1,e2⟩:=aC (R:=fun cs (x:dI)=>cs=dI.cells x∧dI.Ok x) (fun cs h=>jH h.2) es h2;rw[aO e1 fun i x y hx hy=>(e2 i x y hx hy).1,e1] at h1;rw[e1] at h3;exact⟨v,l,rfl,h1,aK e1 e2,au (of_decide_eq_true (by kernel_rfl)) h3⟩
theorem jB{w:World}{f:Nat}{cs:List Value}(h:Rd Tryz.prog w f 138 cs):∃ x:fq,cs=x.cells∧x.Ok:=by
 obtain⟨f',rfl,h⟩:=h.struct Tryz.underlying138;obtain⟨c0,_,rfl,-,r0,c1,_,rfl,-,r1,c2,_,rfl,-,r2,c3,_,rfl,-,r3,hn⟩:=h;obtain rfl:_=[]:=hn;obtain⟨A,rfl,hA⟩:=r0.string Tryz.underlying9;obtain⟨B,rfl,hB⟩:=aI r1;obtain⟨C,rfl,hC⟩:=dR r2;obtain⟨D,rfl,hD⟩:=dP r3;exact⟨⟨A,B,C,D⟩,rfl,⟨aW hA,hB,hC,hD⟩⟩
theorem lG{w:World}{f:Nat}{cs:List Value}(h:Rd Tryz.prog w f 26 cs):∃ v,∃ l:List fq,cs=[v]∧SliceAt w v 11 l.length (l.flatMap fq.cells)∧(∀ x∈l,fq.Ok x)∧fU l.length:=by
 obtain⟨f',v,rfl,rfl,es,h1,h2,h3⟩:=h.slice Tryz.underlying26;rw[show Tryz.prog.cellsOf 138=11 from by kernel_rfl] at h1;obtain⟨l,e1,e2⟩:=aC (R:=fun cs (x:fq)=>cs=fq.cells x∧fq.Ok x) (fun cs h=>jB h.2) es h2;rw[aO e1 fun i x y hx hy=>(e2 i x y hx hy).1,e1] at h1;rw[e1] at h3;exact⟨v,l,rfl,h1,aK e1 e2,au (of_decide_eq_true (by kernel_rfl)) h3⟩
theorem jM{w:World}{f:Nat}{cs:List Value}(h:Rd Tryz.prog w f 140 cs):∃ x:fN,cs=x.cells∧x.Ok:=by
 obtain⟨f',rfl,h⟩:=h.struct Tryz.underlying140;obtain⟨c0,_,rfl,-,r0,c1,_,rfl,-,r1,hn⟩:=h;obtain rfl:_=[]:=hn;obtain⟨A,rfl,hA⟩:=r0.string Tryz.underlying9;obtain⟨B,rfl⟩:=r1.bool Tryz.underlying4;exact⟨⟨A,B⟩,rfl,⟨aW hA⟩⟩
theorem lR{w:World}{f:Nat}{cs:List Value}(h:Rd Tryz.prog w f 27 cs):∃ v,∃ l:List fN,cs=[v]∧SliceAt w v 2 l.length (l.flatMap fN.cells)∧(∀ x∈l,fN.Ok x)∧fU l.length:=by
 obtain⟨f',v,rfl,rfl,es,h1,h2,h3⟩:=h.slice Tryz.underlying27;rw[show Tryz.prog.cellsOf 140=2 from by kernel_rfl] at h1;obtain⟨l,e1,e2⟩:=aC (R:=fun cs (x:fN)=>cs=fN.cells x∧fN.Ok x) (fun cs h=>jM h.2) es h2;rw[aO e1 fun i x y hx hy=>(e2 i x y hx hy).1,e1] at h1;rw[e1] at h3;exact⟨v,l,rfl,h1,aK e1 e2,au (of_decide_eq_true (by kernel_rfl)) h3⟩
theorem jD{w:World}{f:Nat}{cs:List Value}(h:Rd Tryz.prog w f 79 cs):∃ x:dH,cs=x.cells∧x.Ok:=by
 obtain⟨f',rfl,h⟩:=h.struct Tryz.underlying79;obtain⟨c0,_,rfl,-,r0,c1,_,rfl,-,r1,c2,_,rfl,-,r2,c3,_,rfl,-,r3,c4,_,rfl,-,r4,c5,_,rfl,-,r5,c6,_,rfl,-,r6,hn⟩:=h;obtain rfl:_=[]:=hn;obtain⟨A,rfl,hA⟩:=r0.int Tryz.underlying3;obtain⟨B,rfl,hB⟩:=aI r1;obtain⟨C,rfl,hC⟩:=aI r2;obtain⟨D,rfl,hD⟩:=r3.int Tryz.underlying3;obtain⟨E,rfl,hE⟩:=r4.string Tryz.underlying9;obtain⟨F,rfl,hF⟩:=r5.int Tryz.underlying3;obtain⟨G,rfl,hG⟩:=r6.int Tryz.underlying3;exact⟨⟨A,B,C,D,E,F,G⟩,rfl,⟨wf_i64 hA,hB,hC,wf_i64 hD,aW hE,wf_i64 hF,wf_i64 hG⟩⟩
theorem lI{w:World}{f:Nat}{cs:List Value}(h:Rd Tryz.prog w f 31 cs):∃ v,∃ l:List dH,cs=[v]∧SliceAt w v 13 l.length (l.flatMap dH.cells)∧(∀ x∈l,dH.Ok x)∧fU l.length:=by
 obtain⟨f',v,rfl,rfl,es,h1,h2,h3⟩:=h.slice Tryz.underlying31;rw[show Tryz.prog.cellsOf 79=13 from by kernel_rfl] at h1;obtain⟨l,e1,e2⟩:=aC (R:=fun cs (x:dH)=>cs=dH.cells x∧dH.Ok x) (fun cs h=>jD h.2) es h2;rw[aO e1 fun i x y hx hy=>(e2 i x y hx hy).1,e1] at h1;rw[e1] at h3;exact⟨v,l,rfl,h1,aK e1 e2,au (of_decide_eq_true (by kernel_rfl)) h3⟩
theorem jG{w:World}{f:Nat}{cs:List Value}(h:Rd Tryz.prog w f 186 cs):∃ x:fE,cs=x.cells∧x.Ok:=by
 obtain⟨f',rfl,h⟩:=h.struct Tryz.underlying186;obtain⟨c0,_,rfl,-,r0,c1,_,rfl,-,r1,c2,_,rfl,-,r2,c3,_,rfl,-,r3,hn⟩:=h;obtain rfl:_=[]:=hn;obtain⟨A,rfl,hA⟩:=aI r0;obtain⟨B,rfl,hB⟩:=aI r1;obtain⟨C,rfl,hC⟩:=r2.int Tryz.underlying3;obtain⟨D,rfl,hD⟩:=r3.int Tryz.underlying3;exact⟨⟨A,B,C,D⟩,rfl,⟨hA,hB,wf_i64 hC,wf_i64 hD⟩⟩
theorem lK{w:World}{f:Nat}{cs:List Value}(h:Rd Tryz.prog w f 32 cs):∃ v,∃ l:List fE,cs=[v]∧SliceAt w v 10 l.length (l.flatMap fE.cells)∧(∀ x∈l,fE.Ok x)∧fU l.length:=by
 obtain⟨f',v,rfl,rfl,es,h1,h2,h3⟩:=h.slice Tryz.underlying32;rw[show Tryz.prog.cellsOf 186=10 from by kernel_rfl] at h1;obtain⟨l,e1,e2⟩:=aC (R:=fun cs (x:fE)=>cs=fE.cells x∧fE.Ok x) (fun cs h=>jG h.2) es h2;rw[aO e1 fun i x y hx hy=>(e2 i x y hx hy).1,e1] at h1;rw[e1] at h3;exact⟨v,l,rfl,h1,aK e1 e2,au (of_decide_eq_true (by kernel_rfl)) h3⟩
theorem jI{w:World}{f:Nat}{cs:List Value}(h:Rd Tryz.prog w f 190 cs):∃ x:fF,cs=x.cells∧x.Ok:=by
 obtain⟨f',rfl,h⟩:=h.struct Tryz.underlying190;obtain⟨c0,_,rfl,-,r0,c1,_,rfl,-,r1,c2,_,rfl,-,r2,c3,_,rfl,-,r3,hn⟩:=h;obtain rfl:_=[]:=hn;obtain⟨A,rfl,hA⟩:=aI r0;obtain⟨B,rfl,hB⟩:=aI r1;obtain⟨C,rfl,hC⟩:=r2.int Tryz.underlying3;obtain⟨D,rfl,hD⟩:=dP r3;exact⟨⟨A,B,C,D⟩,rfl,⟨hA,hB,wf_i64 hC,hD⟩⟩
theorem lN{w:World}{f:Nat}{cs:List Value}(h:Rd Tryz.prog w f 33 cs):∃ v,∃ l:List fF,cs=[v]∧SliceAt w v 13 l.length (l.flatMap fF.cells)∧(∀ x∈l,fF.Ok x)∧fU l.length:=by
 obtain⟨f',v,rfl,rfl,es,h1,h2,h3⟩:=h.slice Tryz.underlying33;rw[show Tryz.prog.cellsOf 190=13 from by kernel_rfl] at h1;obtain⟨l,e1,e2⟩:=aC (R:=fun cs (x:fF)=>cs=fF.cells x∧fF.Ok x) (fun cs h=>jI h.2) es h2;rw[aO e1 fun i x y hx hy=>(e2 i x y hx hy).1,e1] at h1;rw[e1] at h3;exact⟨v,l,rfl,h1,aK e1 e2,au (of_decide_eq_true (by kernel_rfl)) h3⟩
theorem jE{w:World}{f:Nat}{cs:List Value}(h:Rd Tryz.prog w f 145 cs):∃ x:fC,cs=x.cells∧x.Ok:=by
 obtain⟨f',rfl,h⟩:=h.struct Tryz.underlying145;obtain⟨c0,_,rfl,-,r0,c1,_,rfl,-,r1,hn⟩:=h;obtain rfl:_=[]:=hn;obtain⟨A,rfl,hA⟩:=r0.string Tryz.underlying9;obtain⟨B,rfl,hB⟩:=fu r1;exact⟨⟨A,B⟩,rfl,⟨aW hA,hB⟩⟩
theorem lJ{w:World}{f:Nat}{cs:List Value}(h:Rd Tryz.prog w f 35 cs):∃ v,∃ l:List fC,cs=[v]∧SliceAt w v 8 l.length (l.flatMap fC.cells)∧(∀ x∈l,fC.Ok x)∧fU l.length:=by
 obtain⟨f',v,rfl,rfl,es,h1,h2,h3⟩:=h.slice Tryz.underlying35;rw[show Tryz.prog.cellsOf 145=8 from by kernel_rfl] at h1;obtain⟨l,e1,e2⟩:=aC (R:=fun cs (x:fC)=>cs=fC.cells x∧fC.Ok x) (fun cs h=>jE h.2) es h2;rw[aO e1 fun i x y hx hy=>(e2 i x y hx hy).1,e1] at h1;rw[e1] at h3;exact⟨v,l,rfl,h1,aK e1 e2,au (of_decide_eq_true (by kernel_rfl)) h3⟩
theorem jJ{w:World}{f:Nat}{cs:List Value}(h:Rd Tryz.prog w f 199 cs):∃ x:fG,cs=x.cells∧x.Ok:=by
 obtain⟨f',rfl,h⟩:=h.struct Tryz.underlying199;obtain⟨c0,_,rfl,-,r0,c1,_,rfl,-,r1,c2,_,rfl,-,r2,hn⟩:=h;obtain rfl:_=[]:=hn;obtain⟨A,rfl,hA⟩:=r0.string Tryz.underlying9;obtain⟨B,rfl,hB⟩:=r1.int Tryz.underlying3;obtain⟨C,rfl,hC⟩:=fu r2;exact⟨⟨A,B,C⟩,rfl,⟨aW hA,wf_i64 hB,hC⟩⟩
theorem lO{w:World}{f:Nat}{cs:List Value}(h:Rd Tryz.prog w f 36 cs):∃ v,∃ l:List fG,cs=[v]∧SliceAt w v 9 l.length (l.flatMap fG.cells)∧(∀ x∈l,fG.Ok x)∧fU l.length:=by
 obtain⟨f',v,rfl,rfl,es,h1,h2,h3⟩:=h.slice Tryz.underlying36;rw[show Tryz.prog.cellsOf 199=9 from by kernel_rfl] at h1;obtain⟨l,e1,e2⟩:=aC (R:=fun cs (x:fG)=>cs=fG.cells x∧fG.Ok x) (fun cs h=>jJ h.2) es h2;rw[aO e1 fun i x y hx hy=>(e2 i x y hx hy).1,e1] at h1;rw[e1] at h3;exact⟨v,l,rfl,h1,aK e1 e2,au (of_decide_eq_true (by kernel_rfl)) h3⟩
theorem jO{w:World}{f:Nat}{cs:List Value}(h:Rd Tryz.prog w f 203 cs):∃ x:fI,cs=x.cells∧x.Ok:=by
 obtain⟨f',rfl,h⟩:=h.struct Tryz.underlying203;obtain⟨c0,_,rfl,-,r0,c1,_,rfl,-,r1,c2,_,rfl,-,r2,c3,_,rfl,-,r3,hn⟩:=h;obtain rfl:_=[]:=hn;obtain⟨A,rfl,hA⟩:=r0.string Tryz.underlying9;obtain⟨B,rfl,hB⟩:=r1.int Tryz.underlying3;obtain⟨C,rfl,hC⟩:=aI r2;obtain⟨D,rfl,hD⟩:=aI r3;exact⟨⟨A,B,C,D⟩,rfl,⟨aW hA,wf_i64 hB,hC,hD⟩⟩
theorem lT{w:World}{f:Nat}{cs:List Value}(h:Rd Tryz.prog w f 37 cs):∃ v,∃ l:List fI,cs=[v]∧SliceAt w v 10 l.length (l.flatMap fI.cells)∧(∀ x∈l,fI.Ok x)∧fU l.length:=by
 obtain⟨f',v,rfl,rfl,es,h1,h2,h3⟩:=h.slice Tryz.underlying37;rw[show Tryz.prog.cellsOf 203=10 from by kernel_rfl] at h1;obtain⟨l,e1,e2⟩:=aC (R:=fun cs (x:fI)=>cs=fI.cells x∧fI.Ok x) (fun cs h=>jO h.2) es h2;rw[aO e1 fun i x y hx hy=>(e2 i x y hx hy).1,e1] at h1;rw[e1] at h3;exact⟨v,l,rfl,h1,aK e1 e2,au (of_decide_eq_true (by kernel_rfl)) h3⟩
theorem jL{w:World}{f:Nat}{cs:List Value}(h:Rd Tryz.prog w f 131 cs):∃ x:gi,kW w cs x∧x.Ok:=by
 obtain⟨f',rfl,h⟩:=h.struct Tryz.underlying131;obtain⟨c0,_,rfl,-,r0,c1,_,rfl,-,r1,hn⟩:=h;obtain rfl:_=[]:=hn;obtain⟨A,rfl,hA⟩:=r0.string Tryz.underlying9;obtain⟨vB,B,rfl,sB,aB,lB⟩:=bU r1;exact⟨⟨A,B⟩,⟨vB,rfl,sB⟩,⟨aW hA,⟨lB,aB⟩⟩⟩
theorem lQ{w:World}{f:Nat}{cs:List Value}(h:Rd Tryz.prog w f 22 cs):∃ v,∃ l:List gi,cs=[v]∧aj 2 (kW w) w v l∧(∀ x∈l,gi.Ok x)∧fU l.length:=by
 obtain⟨f',v,rfl,rfl,es,h1,h2,h3⟩:=h.slice Tryz.underlying22;rw[show Tryz.prog.cellsOf 131=2 from by kernel_rfl] at h1 h2;obtain⟨l,e1,e2⟩:=aC (R:=fun cs (x:gi)=>kW w cs x∧gi.Ok x) (fun cs h=>jL h.2) es h2;rw[e1] at h1 h3;exact⟨v,l,rfl,⟨es,e1,fun x hx=>(h2 x hx).1,h1,fun i x y hx hy=>(e2 i x y hx hy).1⟩,aK e1 e2,au (of_decide_eq_true (by kernel_rfl)) h3⟩
theorem jC{w:World}{f:Nat}{cs:List Value}(h:Rd Tryz.prog w f 81 cs):∃ x:gh,jk w cs x∧x.Ok:=by
 obtain⟨f',rfl,h⟩:=h.struct Tryz.underlying81;obtain⟨c0,_,rfl,-,r0,c1,_,rfl,-,r1,c2,_,rfl,-,r2,hn⟩:=h;obtain rfl:_=[]:=hn;obtain⟨A,rfl,hA⟩:=r0.string Tryz.underlying9;obtain⟨vB,B,rfl,sB,aB,lB⟩:=bU r1;obtain⟨C,rfl⟩:=r2.bool Tryz.underlying4;exact⟨⟨A,B,C⟩,⟨vB,rfl,sB⟩,⟨aW hA,⟨lB,aB⟩⟩⟩
theorem lH{w:World}{f:Nat}{cs:List Value}(h:Rd Tryz.prog w f 23 cs):∃ v,∃ l:List gh,cs=[v]∧aj 3 (jk w) w v l∧(∀ x∈l,gh.Ok x)∧fU l.length:=by
 obtain⟨f',v,rfl,rfl,es,h1,h2,h3⟩:=h.slice Tryz.underlying23;rw[show Tryz.prog.cellsOf 81=3 from by kernel_rfl] at h1 h2;obtain⟨l,e1,e2⟩:=aC (R:=fun cs (x:gh)=>jk w cs x∧gh.Ok x) (fun cs h=>jC h.2) es h2;rw[e1] at h1 h3;exact⟨v,l,rfl,⟨es,e1,fun x hx=>(h2 x hx).1,h1,fun i x y hx hy=>(e2 i x y hx hy).1⟩,aK e1 e2,au (of_decide_eq_true (by kernel_rfl)) h3⟩
theorem jK{w:World}{f:Nat}{cs:List Value}(h:Rd Tryz.prog w f 86 cs):∃ x:ij,kV w cs x∧x.Ok:=by
 obtain⟨f',rfl,h⟩:=h.struct Tryz.underlying86;obtain⟨c0,_,rfl,-,r0,c1,_,rfl,-,r1,c2,_,rfl,-,r2,c3,_,rfl,-,r3,hn⟩:=h;obtain rfl:_=[]:=hn;obtain⟨A,rfl,hA⟩:=r0.int Tryz.underlying3;obtain⟨B,rfl,hB⟩:=r1.int Tryz.underlying68;obtain⟨C,rfl⟩:=r2.bool Tryz.underlying4;obtain⟨D,sD,hD⟩:=eX _ _ r3;exact⟨⟨A,B,C,D⟩,⟨_,by simp,sD⟩,⟨wf_i64 hA,wf_u32 hB,hD⟩⟩
theorem lP{w:World}{f:Nat}{cs:List Value}(h:Rd Tryz.prog w f 34 cs):∃ v,∃ l:List ij,cs=[v]∧aj 13 (kV w) w v l∧(∀ x∈l,ij.Ok x)∧fU l.length:=by
 obtain⟨f',v,rfl,rfl,es,h1,h2,h3⟩:=h.slice Tryz.underlying34;rw[show Tryz.prog.cellsOf 86=13 from by kernel_rfl] at h1 h2;obtain⟨l,e1,e2⟩:=aC (R:=fun cs (x:ij)=>kV w cs x∧ij.Ok x) (fun cs h=>jK h.2) es h2;rw[e1] at h1 h3;exact⟨v,l,rfl,⟨es,e1,fun x hx=>(h2 x hx).1,h1,fun i x y hx hy=>(e2 i x y hx hy).1⟩,aK e1 e2,au (of_decide_eq_true (by kernel_rfl)) h3⟩
theorem lE{w:World}{f:Nat}{cs:List Value}(h:Rd Tryz.prog w f 29 cs):∃ v,∃ l:List aS,cs=[v]∧aj 10 (bq w) w v l∧(∀ x∈l,aS.Ok x)∧fU l.length:=by
 obtain⟨f',v,rfl,rfl,es,h1,h2,h3⟩:=h.slice Tryz.underlying29;rw[show Tryz.prog.cellsOf 84=10 from by kernel_rfl] at h1 h2;obtain⟨l,e1,e2⟩:=aC (R:=fun cs (x:aS)=>bq w cs x∧aS.Ok x) (fun cs h=>eX _ _ h.2) es h2;rw[e1] at h1 h3;exact⟨v,l,rfl,⟨es,e1,fun x hx=>(h2 x hx).1,h1,fun i x y hx hy=>(e2 i x y hx hy).1⟩,aK e1 e2,au (of_decide_eq_true (by kernel_rfl)) h3⟩
theorem nJ{w:World}{u:Value}(h:Arg Tryz.prog w 39 u):∃ c0 c1 c2 c3 c4 c5 c6 c7 c8 c9 c10 c11 c12 c13 c14 c15 c16:Value,∃ p:aD,u=.agg #[c0,c1,c2,c3,c4,c5,c6,c7,c8,c9,c10,c11,c12,c13,c14,c15,c16]∧aA w c0 c1 c2 c3 c4 c5 c6 c7 c8 c9 c10 c11 c12 c13 c14 c15 c16 p∧p.Ok:=by
 obtain⟨f,cs,h,rfl⟩:=h;rw[Tryz.underlying39];obtain⟨f',rfl,h⟩:=h.struct Tryz.underlying39;obtain⟨c0,_,rfl,-,r0,c1,_,rfl,-,r1,c2,_,rfl,-,r2,c3,_,rfl,-,r3,c4,_,rfl,-,r4,c5,_,rfl,-,r5,c6,_,rfl,-,r6,c7,_,rfl,-,r7,c8,_,rfl,-,r8,c9,_,rfl,-,r9,c10,_,rfl,-,Pg,c11,_,rfl,-,Pf,c12,_,rfl,-,Pc,c13,_,rfl,-,Pb,c14,_,rfl,-,O_,c15,_,rfl,-,O9,c16,_,rfl,-,r16,hn⟩:=h;obtain rfl:_=[]:=hn;obtain⟨v0,l0,rfl,s0,o0,b0⟩:=lQ r0;obtain⟨v1,l1,rfl,s1,o1,b1⟩:=lH r1;obtain⟨v2,l2,rfl,s2,o2,b2⟩:=lS r2;obtain⟨v3,l3,rfl,s3,o3,b3⟩:=lM r3;obtain⟨v4,l4,rfl,s4,o4,b4⟩:=lG r4;obtain⟨v5,l5,rfl,s5,o5,b5⟩:=lR r5;obtain⟨v6,l6,rfl,s6,o6,b6⟩:=bU r6;obtain⟨v7,l7,rfl,s7,o7,b7⟩:=bU r7;obtain⟨v8,l8,rfl,s8,o8,b8⟩:=lE r8;obtain⟨v9,l9,rfl,s9,o9,b9⟩:=jF r9;obtain⟨v10,RA,rfl,s10,SE,b10⟩:=lI Pg;obtain⟨v11,Rz,rfl,FC,SD,b11⟩:=lK Pf;obtain⟨v12,Ry,rfl,s12,SC,b12⟩:=lN Pc;obtain⟨KF,Ql,rfl,FA,SA,b13⟩:=lP Pb;obtain⟨HY,Qk,rfl,Fz,Sz,b14⟩:=lJ O_;obtain⟨KE,Qj,rfl,Eh,Sy,b15⟩:=lO O9;obtain⟨HV,Qi,rfl,Mq,Sx,b16⟩:=lT r16;exact⟨v0,v1,v2,v3,v4,v5,v6,v7,v8,v9,v10,v11,v12,KF,HY,KE,HV,⟨l0,l1,l2,l3,l4,l5,l6,l7,l8,l9,RA,Rz,Ry,Ql,Qk,Qj,Qi⟩,rfl,⟨s0,s1,s2,s3,s4,s5,s6,s7,s8,s9,s10,FC,s12,FA,Fz,Eh,Mq⟩,⟨o0,b0,o1,b1,o2,b2,o3,b3,o4,b4,o5,b5,o6,b6,o7,b7,o8,b8,o9,b9,SE,b10,SD,b11,SC,b12,SA,b13,Sz,b14,Sy,b15,Sx,b16⟩⟩
end Go.Proofs.YtkkmjdceiocnbaaGreatDoor
namespace Go.Proofs.YtkkmjdceiocnbaaGreatDoor
open Go Go.RowKit
theorem ck(f:Nat→Bool)(n:Nat):cA f (n-n) n=false:=by rw[Nat.sub_self];rfl
theorem bE{f:Nat→Bool}{n i:Nat}(h:i<n)(hf:f i=true):cA f (n-i) i=true:=by
 obtain⟨k,hk⟩:∃ k,n-i=k+1:=⟨n-i-1,by omega⟩;rw[hk];show(f i||_)=true;rw[hf];rfl
theorem cO{f:Nat→Bool}{n i:Nat}(h:i<n)(hf:f i=false):cA f (n-i) i=cA f (n-(i+1)) (i+1):=by
 obtain⟨k,hk⟩:∃ k,n-i=k+1:=⟨n-i-1,by omega⟩;rw[hk,show n-(i+1)=k by omega];show(f i||_)=_;rw[hf];rfl
variable [DS]
theorem gI{b:Bool}(h:b=true):¬ b=false:=by rw[h];decide
theorem gH{b:Bool}(h:b=false):¬ b=true:=by rw[h];decide
section
variable {w:World} {a:Act} {g f:Nat} {t:TypeId} {cs:Array Value}
variable {x1 x2 x3 x4 x5 x6:Operand} {v1 v2 v3 v4 v5 v6:Value}
theorem args1(h1:a.eval x1=v1):#[x1].map a.eval=#[v1]:=by simp[h1]
theorem args2(h1:a.eval x1=v1)(h2:a.eval x2=v2):#[x1,x2].map a.eval=#[v1,v2]:=by simp[h1,h2]
theorem z7(h1:a.eval x1=v1)(h2:a.eval x2=v2)(h3:a.eval x3=v3):#[x1,x2,x3].map a.eval=#[v1,v2,v3]:=by simp[h1,h2,h3]
end
end Go.Proofs.YtkkmjdceiocnbaaGreatDoor
namespace Go.Proofs.YtkkmjdceiocnbaaGreatDoor
open Go Go.RowKit
variable [DS]
section
variable {P:Program} {ops:Array Oper} {Q:Exit→Act→World→Prop} {a:Act} {B:Nat} {w0 w w':World} {rest:List Oper} {o:Oper} {v:Value} {d N:Nat} {l:Slots} {bs:List Bx} {rs:List Rw}
theorem Lm(hw:Region.wanted o (yielded ops a.tmps)=true){ty:TypeId}{x:Operand}(ho:o.op=.box ty x){cs:Array Value}(hx:a.eval x=.agg cs)(hd:o.dst=some d)(F:Fs a N l)(hN:Nat.blt d N=true)(M:aQ B w0 w bs rs)
 (next:∀ g a' w',Fs a' N ((d,.pointer (some ⟨g,0,none⟩))::l)→aQ B w0 w' ((g,ty,cs)::bs) rs→wpList P ops Q rest a' w') (ht:Nat.blt ty 9000=true:=by rfl):wpList P ops Q (o::rest) a w:=
 kb hw ho hx rfl hd F hN M next ht
theorem Uf(hw:Region.wanted o (yielded ops a.tmps)=true){ty:TypeId}{x:Operand}(ho:o.op=.box ty x)(hx:a.eval x=v)(hc:v.cells=#[v])(hd:o.dst=some d)(F:Fs a N l)(hN:Nat.blt d N=true)(M:aQ B w0 w bs rs)
 (next:∀ g a' w',Fs a' N ((d,.pointer (some ⟨g,0,none⟩))::l)→aQ B w0 w' ((g,ty,#[v])::bs) rs→wpList P ops Q rest a' w') (ht:Nat.blt ty 9000=true:=by rfl):wpList P ops Q (o::rest) a w:=
 kb hw ho hx hc hd F hN M next ht
theorem Yz(hw:Region.wanted o (yielded ops a.tmps)=true){ty:TypeId}(ho:o.op=.alloc ty)(hz:(P.info? ty).bind (·.zero)=some v)(hc:v.cells=#[v])(hd:o.dst=some d)(F:Fs a N l)(hN:Nat.blt d N=true)(M:aQ B w0 w bs rs)
 (next:∀ g a' w',Fs a' N ((d,.pointer (some ⟨g,0,none⟩))::l)→aQ B w0 w' ((g,ty,#[v])::bs) rs→wpList P ops Q rest a' w') (ht:Nat.blt ty 9000=true:=by rfl):wpList P ops Q (o::rest) a w:=
 ka hw ho hz hc hd F hN M next ht
theorem kx(hw:Region.wanted o (yielded ops a.tmps)=true){f:FuncId}{args:Array Value}(hr:(execOp a.eval o).run P w=.ok (.enter f args) w){R:Value→World→Prop}
 (hc:Calls P f args w fun e w'=>∃ v,e=.returned v∧(R v w'∧alU w.heap.size w w')) (hd:o.dst=some d) (F:Fs a N l) (hN:Nat.blt d N=true) (M:aQ B w0 w bs rs)
 (next:∀ v a' w',R v w'→alU w.heap.size w w'→Fs a' N ((d,v)::l)→aQ B w0 w' bs rs→wpList P ops Q rest a' w'):wpList P ops Q (o::rest) a w:=
 oK hw hr hc hd F.fr (by simpa using hN) fun u a' w' h p=>next u a' w' h.1 h.2 (F.put p) (M.keep h.2)
end
section
variable {P:Program} {Q:Exit→Act→World→Prop} {a:Act} {w:World} {N:Nat} {l:Slots}
theorem sx{g:Nat}{t:TypeId}{cs:Array Value}(h:Whole w g t cs):∀ j u,cs.toList[j]?=some u→w.cell? ⟨g,0+j,none⟩=some u:=fun j u hu=>by
 rw[Nat.zero_add,h.cell];simpa using hu
theorem yJ{P:Program}{o:Oper}{ty:TypeId}{x:Operand}{g:Nat}{t:TypeId}{cs:Array Value}{dd:TypeDesc}(ho:o.op=.load ty x)(hx:a.eval x=.pointer (some ⟨g,0,none⟩))(hu:P.underlying ty=some dd)
 (hd:(match dd with|.struct _|.array _ _=>true|_=>false)=true) (h:Whole w g t cs) {n:Nat} (hi:(P.info? ty).map (·.size)=some n) (hn:Nat.beq n cs.size=true):(execOp a.eval o).run P w=.ok (.value (.agg cs)) w:=
 ux cs.toList ho hx hu hd (hi.trans (by rw[Array.length_toList,Nat.eq_of_beq_eq_true hn])) (sx h)
end
section
variable {P:Program} {ops:Array Oper} {Q:Exit→Act→World→Prop} {a:Act} {B:Nat} {w0 w:World} {rest:List Oper} {o:Oper} {v:Value} {d N:Nat} {l:Slots} {bs:List Bx} {rs:List Rw}
theorem xW(F:Fs a N l){g:Nat}{t:TypeId}{cs:Array Value}(H:Whole w g t cs)(h:pl N o=some d){ty:TypeId}{x:Operand}{dd:TypeDesc}(ho:o.op=.load ty x)(hx:vl l x=some (.pointer (some ⟨g,0,none⟩)))(hu:P.underlying ty=some dd)
 (hd:(match dd with|.struct _|.array _ _=>true|_=>false)=true) {n:Nat} (hi:(P.info? ty).map (·.size)=some n) (hn:Nat.beq n cs.size=true) (next:∀ a',Fs a' N ((d,.agg cs)::l)→wpList P ops Q rest a' w):wpList P ops Q (o::rest) a w:=
 kz F h (yJ ho (F.u hx) hu hd H hi hn) next
theorem xC(F:Fs a N l)(M:aQ B w0 w bs rs)(h:pl N o=some d){f:FuncId}{xs:Array Operand}{ts:Array TypeId}{args:Array Value}(ho:o.op=.call { callee:=.value (.func f),args:=xs,argTypes:=ts })(hf:Du P f=true)(ha:xs.map a.eval=args)
 (hc:Calls P f args w fun e w'=>e=.returned v∧alU w.heap.size w w') (next:∀ a' w',Fs a' N ((d,v)::l)→aQ B w0 w' bs rs→wpList P ops Q rest a' w'):wpList P ops Q (o::rest) a w:=
 have⟨h1,h2,h3⟩:=KZ h
 kc (on h1) (rM hf ho ha) hc h2 F h3 M next
end
end Go.Proofs.YtkkmjdceiocnbaaGreatDoor
namespace Go.Proofs.YtkkmjdceiocnbaaGreatDoor
open Go Go.RowKit
theorem FP:type_of% Tryz.underlying84:=Tryz.underlying84
theorem Br:(Tryz.prog.info? 39).map (·.size)=some 17:=by kernel_rfl
theorem uR:(Tryz.prog.info? 84).map (·.size)=some 10:=by kernel_rfl
theorem aaV:(Tryz.prog.info? 70).bind (·.zero)=some (.agg #[.int .u32 0,.int .u32 0,.int .u32 0,.bool false,.int .i64 0]):=by kernel_rfl
theorem Ab:(Tryz.prog.info? 75).bind (·.zero)=some (.agg #[.int .i64 0,.int .i64 0,.int .i64 0,.int .i64 0]):=by kernel_rfl
theorem XL:(Tryz.prog.info? 322).bind (·.zero)=some (.agg #[.int .i64 0,.int .u64 0,.int .i64 0,.int .u64 0]):=by kernel_rfl
theorem adv:Tryz.prog.eqGuardType Tryz.prog.depth 70=false:=by kernel_rfl
theorem Ua:Du Tryz.prog 27=true:=by kernel_rfl
theorem Po:Du Tryz.prog 263=true:=by kernel_rfl
theorem Ge:Du Tryz.prog 264=true:=by kernel_rfl
variable [DS]
section
variable {P:Program} {ops:Array Oper} {Q:Exit→Act→World→Prop} {rest:List Oper} {a:Act} {B:Nat} {w w' w0:World} {o:Oper} {v:Value} {d N:Nat} {l:Slots} {j s:Nat} {c t u:Bool} {bs:List Bx} {rs:List Rw}
theorem kt(hw:Region.wanted o (yielded ops a.tmps)=true){f:FuncId}{args:Array Value}(hr:(execOp a.eval o).run P w=.ok (.enter f args) w){R:Value→World→Prop}
 (hc:Calls P f args w fun e w'=>∃ v,e=.returned v∧R v w') (hd:o.dst=some d) (F:Fs a N l) (hN:Nat.blt d N=true)
 (next:∀ v a' w',R v w'→Fs a' N ((d,v)::l)→wpList P ops Q rest a' w'):wpList P ops Q (o::rest) a w:=
 oK hw hr hc hd F.fr (by simpa using hN) fun u a' w' h p=>next u a' w' h (F.put p)
end
end Go.Proofs.YtkkmjdceiocnbaaGreatDoor
namespace Go.Proofs.YtkkmjdceiocnbaaGreatDoor
open Go Go.RowKit
variable [DS]
theorem bl{p q:Prop}(h:p):p∨q:=.inl h
theorem br{X:Prop}{p:(Value→World→Prop)→Prop}(R:Value→World→Prop)(h:p R):X∨∃ R,p R:=.inr ⟨R,h⟩
def vK(w:World)(e n:Nat)(cs:List Value):Value→World→Prop:=fun v w2=>∃ g,v=.slice (some ⟨g,0,none⟩) n n∧Whole w2 g e cs.toArray∧w.heap.size≤g
theorem kA{w:World}{e n:Nat}{cs:List Value}:qg (vK w e n cs):=fun _ _ _ ⟨g,h1,h2,h3⟩ hb=>⟨g,h1,Whole.under hb h2 h2.lt,h3⟩
theorem bK{w:World}{t e kk b len:Nat}{parts:Array (Nat×Operand)}{vs:List Value}{p:World→Prop}(hD:nE Tryz.prog t (.sl e kk b)=true)(hp:uf 0 parts.toList=true)(hl:parts.toList.length=len)(h0:0<len*kk)(h1:len*kk≤2^24)(hc:∀ v∈vs,v.cells.size=kk){cs:List Value}(hcs:(vs.flatMap fun v=>v.cells.toList)=cs)
 (w1:World) (a:Act) (o':Oper) (hb:alU w.heap.size w w1) (_:p w1) (hop:o'.op=.buildSlice t len parts) (pW:wj a (jW (.buildSlice t len parts)) vs) :
  ∃ v w2,(execOp a.eval o').run Tryz.prog w1=.ok (.value v) w2∧vK w e len cs v w2∧alU w1.heap.size w1 w2:=by
 subst hcs;exact⟨_,_,qt (w:=w1) hop hD hp hl h0 h1 pW hc,⟨w1.heap.size,rfl,Whole.new w1 e _,hb.size⟩,(Below.refl _ w1).alloc (Nat.le_refl _) _⟩
end Go.Proofs.YtkkmjdceiocnbaaGreatDoor
namespace Go.Proofs.YtkkmjdceiocnbaaGreatDoor
open Go Go.RowKit
theorem q_(w:World){q r:Nat}(hq:q<4)(hr:r<64):Calls Tryz.prog 302 #[.int .i64 ((64*q+r:Nat):Int)] w fun e w'=>e=.returned (.int .u64 ((2^r:Nat):Int))∧alU w.heap.size w w':=(yS w (64*q+r) (by omega)).mono fun _ _ ⟨h1,h2⟩=>⟨by rw[h1,show(64*q+r)%64=r by omega],h2▸alU.refl _ _⟩
theorem BF(w0:World)(s:aE)(hs:s.Ok)(n:Int):Calls Tryz.prog 260 #[.agg #[.int .u64 s.a,.int .u64 s.b,.int .u64 s.c,.int .u64 s.d],.int .i64 n] w0 fun e w'=>e=.returned (.agg #[.int .u64 (s.with n).a,.int .u64 (s.with n).b,.int .u64 (s.with n).c,.int .u64 (s.with n).d])∧alU w0.heap.size w0 w':=by
 refine bM [] (fn:=Tryz.f260) Tryz.func260 rfl Tryz.ntmps260 rfl<|fun g1 w1 M1=>ei<|an m_ fun g2 w2 M2=>an (fun h=>?_) fun h=>lb 1<|an rfl<|lb 0<|an ⟨rfl,rfl⟩ fun w M=>ei (x:=0)<|an rfl fun M=>⟨?_,M.below⟩
 ·obtain⟨q,r,hq,hr,rfl⟩:=lu (n:=n) (by simpa using h);rw[tM hq hr];clear h;rcases(show q=0∨q=1∨q=2∨q=3 by omega) with rfl|rfl|rfl|rfl
  all_goals
   refine dr (by kernel_rfl)<|ei<|an (fun a w o ho hv=>sJ hq hr ho (aY hv) (cC hv))<|ei<|an (fun a w o ho hv=>sJ hq hr ho (aY hv) (cC hv))<|ei<|an ⟨rfl,by decide⟩<|lb 1<|an rfl<|cl<|an (fun w' hb M'=>q_ w' hq hr)<|ei<|an (Ed (by first|exact hs.a|exact hs.b|exact hs.c|exact hs.d) hr)<|ei<|an ⟨rfl,by decide⟩<|fun w3 fL M3=>lb 1<|an ⟨rfl,rfl⟩ fun w4 M4=>lb 1<|an rfl<|lb 0<|an ⟨rfl,rfl⟩ fun w5 M5=>ei (x:=0)<|an rfl fun M=>⟨rfl,M.below⟩
 ·rw[show s.with n=s from if_neg (by intro h2;rw[Bool.and_eq_false_iff,decide_eq_false_iff_not,decide_eq_false_iff_not] at h;omega)]
theorem xK{x r:Nat}(hx:fA x)(hr:r<64):(!decide (bits .and .u64 (x:Int) ((2^r:Nat):Int)=0))=x.testBit r:=by
 rw[bits_and_u64_nat _ _ hx (ze hr)]
 have h:x&&&2^r=if x.testBit r=true then 2^r else 0:=by
  refine Nat.eq_of_testBit_eq fun j=>?_
  rw[Nat.testBit_and,Nat.testBit_two_pow];by_cases e:r=j
  ·subst e;cases hb:x.testBit r<;>simp
  ·cases hb:x.testBit r<;>simp[e]
 rw[h];have:=Nat.two_pow_pos r
 cases x.testBit r with
 | false=>rw[if_neg (by decide)];rfl
 | true=>rw[if_pos rfl,decide_eq_false (by omega)];rfl
theorem zR(w0:World)(s:aE)(hs:s.Ok)(n:Int):Calls Tryz.prog 265 #[.agg #[.int .u64 s.a,.int .u64 s.b,.int .u64 s.c,.int .u64 s.d],.int .i64 n] w0 fun e w'=>e=.returned (.bool (s.mem n))∧alU w0.heap.size w0 w':=by
 by_cases h:0≤n∧n<256
 ·obtain⟨q,r,hq,hr,rfl⟩:=lu h;rw[sP hq hr];rcases(show q=0∨q=1∨q=2∨q=3 by omega) with rfl|rfl|rfl|rfl
  all_goals
   refine bM [] (fn:=Tryz.f265) Tryz.func265 rfl Tryz.ntmps265 rfl<|fun g1 w1 M1=>dr (by kernel_rfl)<|ei<|an (fun _ a w o ho hv=>sJ hq hr ho (aY hv) (cC hv))<|ei<|an (fun _=>⟨rfl,by decide⟩)<|lb 0<|an (fun _=>rfl)<|cl<|an (fun _ w' hb M'=>q_ w' hq hr)<|ei<|an (fun _=>rfl)<|fun w3 fL M3=>fun M=>⟨?_,M.below⟩
   rw[decide_eq_true h.1,decide_eq_true h.2];exact congrArg (fun b=>Ending.returned (.bool b)) (xK (by first|exact hs.a|exact hs.b|exact hs.c|exact hs.d) hr)
 ·refine bM [] (fn:=Tryz.f265) Tryz.func265 rfl Tryz.ntmps265 rfl<|fun g1 w1 M1=>dr (by kernel_rfl)<|ei (x:=.int .i64 0)<|an (fun h2=>absurd h (by simpa using h2))<|ei (x:=0)<|an (fun h2=>⟨rfl,by decide⟩)<|lb 0<|an (fun _=>rfl)<|cl (v:=.int .u64 0)<|an (fun h2=>absurd h (by simpa using h2))<|ei<|an (fun _=>rfl)<|fun w3 fL M3=>fun M=>⟨?_,M.below⟩
  rw[show s.mem n=false by unfold aE.mem;rw[decide_eq_false h];rfl]
  have:(decide (0≤n)&&decide (n<256))=false:=by
   rw[Bool.and_eq_false_iff,decide_eq_false_iff_not,decide_eq_false_iff_not];omega
  simp[rG,this]
theorem sF(w0:World)(s:aE)(hs:s.Ok):Calls Tryz.prog 262 #[.agg #[.int .u64 s.a,.int .u64 s.b,.int .u64 s.c,.int .u64 s.d],.int .i64 0] w0 fun e w'=>e=.returned (.agg #[.int .u64 ((s.a&&&(18446744073709551615-1):Nat):Int),.int .u64 s.b,.int .u64 s.c,.int .u64 s.d])∧alU w0.heap.size w0 w':=by
 exact bM [] (fn:=Tryz.f262) Tryz.func262 rfl Tryz.ntmps262 rfl<|fun g1 w1 M1=>ei<|an m_ fun g2 w2 M2=>an (fun _=>dr (by kernel_rfl)<|ei<|an (fun a w o ho hv=>sJ (q:=0) (r:=0) (by decide) (by decide) ho (aY hv) (cC hv))<|ei<|an (fun a w o ho hv=>sJ (q:=0) (r:=0) (by decide) (by decide) ho (aY hv) (cC hv))<|ei<|an ⟨rfl,by decide⟩<|lb 1<|an rfl<|cl<|an (fun w' hb M'=>q_ w' (q:=0) (r:=0) (by decide) (by decide))<|ei<|an (u64_andNot_nat s.a 1 hs.a (by decide))<|ei<|an ⟨rfl,by decide⟩<|fun w3 fL M3=>lb 1<|an ⟨rfl,rfl⟩ fun w4 M4=>lb 1<|an rfl<|lb 0<|an ⟨rfl,rfl⟩ fun w5 M5=>ei (x:=0)<|an rfl fun M=>⟨rfl,M.below⟩) fun h=>by simp at h
theorem kg(w:World)(n:Nat)(hn:n≤140737488355328):Calls Tryz.prog 153 #[.int .i64 (n:Int)] w fun e w'=>e=.returned (.agg #[.int .u64 (aE.all n).a,.int .u64 (aE.all n).b,.int .u64 (aE.all n).c,.int .u64 (aE.all n).d])∧alU w.heap.size w w':=by
 refine bM [] (fn:=Tryz.f153) Tryz.func153 rfl Tryz.ntmps153 rfl<|ei<|an m_ fun g1 w1 M1=>ei (x:=.agg #[.int .u64 0,.int .u64 0,.int .u64 0,.int .u64 0])<|an (bd (by kernel_rfl))<|ei<|an m_ fun g2 w2 M2=>lb 0<|an ⟨rfl,rfl⟩ fun w3 M3=>lp (ι:=Nat) (fun k=>[(4,.int .i64 (k:Int))]) (fun k=>[(g2,77,#[.int .u64 (rz k).a,.int .u64 (rz k).b,.int .u64 (rz k).c,.int .u64 (rz k).d]),_]) (fun _=>[]) (fun k _=>k≤n∧k≤256) (fun k=>256-k) 0 (an ⟨⟨rfl,trivial⟩,fun M=>⟨M,alW _,alW _⟩⟩ ?_)
 intro k w M ⟨hk1,hk2⟩;refine an (fun h=>?_) fun h=>?_
 ·simp only[alX,decide_eq_true_eq] at h;exact lb 0<|an rfl<|cl<|an (BF _ (rz k) (wh k) k) fun w4 M4=>lb 0<|an ⟨rfl,rfl⟩ fun w5 M5=>an (by omega)<|bk (k+1) ⟨rfl,trivial⟩ (fun M=>⟨M,by omega⟩) (by dsimp only;omega)
 ·obtain rfl:k=min n 256:=by
   rw[Bool.and_eq_false_iff,decide_eq_false_iff_not,decide_eq_false_iff_not] at h;omega
  exact lb 0<|an rfl<|lb 1<|an ⟨rfl,rfl⟩ fun w M=>ei (x:=1)<|an rfl fun M=>⟨rfl,M.below⟩
def yq(m:Nat)(x y:aE)(i:Nat):Nat:=if i<m then pX (x.word i) (y.word i) else x.word i
theorem qE(w:World)(a b:aE)(ha:a.Ok)(hb:b.Ok):Calls Tryz.prog 261 #[.agg #[.int .u64 a.a,.int .u64 a.b,.int .u64 a.c,.int .u64 a.d],.agg #[.int .u64 b.a,.int .u64 b.b,.int .u64 b.c,.int .u64 b.d]] w fun e w'=>e=.returned (.agg #[.int .u64 (a.minus b).a,.int .u64 (a.minus b).b,.int .u64 (a.minus b).c,.int .u64 (a.minus b).d])∧alU w.heap.size w w':=by
 refine bM [] (fn:=Tryz.f261) Tryz.func261 rfl Tryz.ntmps261 rfl<|fun gx w1 M1=>fun gy w2 M2=>ei<|an m_ fun go w3 M3=>lp (ι:=Nat) (fun m=>[(5,.int .i64 (m:Int))]) (fun m=>[(go,77,#[.int .u64 0,.int .u64 0,.int .u64 0,.int .u64 0]),(gy,77,#[.int .u64 b.a,.int .u64 b.b,.int .u64 b.c,.int .u64 b.d]),(gx,77,#[.int .u64 ((yq m a b 0:Nat):Int),.int .u64 ((yq m a b 1:Nat):Int),.int .u64 ((yq m a b 2:Nat):Int),.int .u64 ((yq m a b 3:Nat):Int)])]) (fun _=>[]) (fun m _=>m≤4) (fun m=>4-m) 0 (an ⟨⟨rfl,trivial⟩,fun M=>⟨M,alW _⟩⟩ ?_)
 intro m w M hm;refine an (fun h=>?_) fun h=>?_
 ·have hlt:m<4:=by simp at h;omega
  obtain rfl|rfl|rfl|rfl:m=0∨m=1∨m=2∨m=3:=by omega
  all_goals
   refine dr (by kernel_rfl)<|ei<|an ⟨rfl,by decide⟩<|lb 2<|an rfl<|ei<|an ⟨rfl,by decide⟩<|lb 1<|an rfl<|ei<|an (u64_andNot_nat _ _ (by first|exact ha.a|exact ha.b|exact ha.c|exact ha.d) (by first|exact hb.a|exact hb.b|exact hb.c|exact hb.d))<|ei<|an ⟨rfl,by decide⟩<|fun w hb M=>lb 2<|an ⟨rfl,rfl⟩ fun w M=>an (by omega)<|bk _ ⟨rfl,trivial⟩ (fun M=>⟨M.cast rfl rfl,by decide⟩) (by decide)
 obtain rfl:m=4:=by simp at h;omega
 exact lb 2<|an rfl<|lb 0<|an ⟨rfl,rfl⟩ fun w M=>ei (x:=0)<|an rfl fun M=>⟨rfl,M.below⟩
theorem aE.xJ{s:aE}(h:s.Ok):s.unit.Ok:=⟨uE h.a _,h.b,h.c,h.d⟩
theorem mC(w:World)(s:aE)(hs:s.Ok):Calls Tryz.prog 262 #[.agg #[.int .u64 s.a,.int .u64 s.b,.int .u64 s.c,.int .u64 s.d],.int .i64 0] w fun e w'=>e=.returned (.agg #[.int .u64 s.unit.a,.int .u64 s.unit.b,.int .u64 s.unit.c,.int .u64 s.unit.d])∧alU w.heap.size w w':=sF w s hs
theorem fV(w:World)(a b:aE)(ha:a.Ok)(hb:b.Ok):Calls Tryz.prog 154 #[.agg #[.int .u64 a.a,.int .u64 a.b,.int .u64 a.c,.int .u64 a.d],.agg #[.int .u64 b.a,.int .u64 b.b,.int .u64 b.c,.int .u64 b.d]] w fun e w'=>e=.returned (.bool (a.within b))∧alU w.heap.size w w':=by
 have HOA:=alY ha;have HOB:=alY hb;obtain⟨t,ht⟩:∃ t,t=a.minus b:=⟨_,rfl⟩;have HT:=alY ht;unfold aE.within;rw[← ht];have hq:∀ W,(Op.equalIn 10000 77 (.agg #[.int .u64 t.a,.int .u64 t.b,.int .u64 t.c,.int .u64 t.d]) (.agg #[.int .u64 0,.int .u64 0,.int .u64 0,.int .u64 0])).run Tryz.prog W=.ok (decide (t=aE.zero)) W:=dN t;obtain⟨q,Qt⟩:∃ q,q=decide (t=aE.zero):=⟨_,rfl⟩;rw[← Qt];rw[← Qt] at hq;clear ha hb ht Qt;obtain⟨wo,cG⟩:∃ wo,wo=(w.alloc (.cells #[.int .u64 a.a,.int .u64 a.b,.int .u64 a.c,.int .u64 a.d] 77)).alloc (.cells #[.int .u64 b.a,.int .u64 b.b,.int .u64 b.c,.int .u64 b.d] 77):=⟨_,rfl⟩;have HA0:=alY (show Whole wo w.heap.size 77 #[.int .u64 a.a,.int .u64 a.b,.int .u64 a.c,.int .u64 a.d] by rw[cG];exact(Whole.new w 77 _).alloc _);have HA1:=alY (show Whole wo (w.heap.size+1) 77 #[.int .u64 b.a,.int .u64 b.b,.int .u64 b.c,.int .u64 b.d] by rw[cG];exact iQ w _ _ _);have iF:=alY (show alU w.heap.size w wo by rw[cG];exact((Below.refl _ w).alloc (Nat.le_refl _) _).alloc (by simp) _)
 go_enter Tryz.func154,Tryz.ntmps154
 go_upto_region 1 with(fail)
 rw[← cG];clear cG
 go_wp2_with (first|(refine wpList_load_row rfl 77 _ rfl (w.heap.size) rfl 77 _ (0,0) _ HA0.out Tryz.underlying77 rfl uY ?_)|(refine wpList_load_row rfl 77 _ rfl (w.heap.size+1) rfl 77 _ (0,0) _ HA1.out Tryz.underlying77 rfl uY ?_)|(go_at_call 261;go_must (refine(qE wo a b HOA.out HOB.out).mono ?_;rintro e w1 ⟨rfl,hb1⟩;rw[← HT.out];have Ku:=alY hb1;clear hb1)))
 go_ret
 exact⟨rfl,iF.out.trans (Ku.out.mono iF.out.size)⟩
theorem aA.f7{w:World}{c0 c1 c2 c3 c4 c5 c6 c7 c8 c9 c10 c11 c12 c13 c14 c15 c16:Value}{p:aD}(h:aA w c0 c1 c2 c3 c4 c5 c6 c7 c8 c9 c10 c11 c12 c13 c14 c15 c16 p):∃ a c,c7=.slice a p.cats.length c∧p.cats.length≤c∧p.cats.length≤9223372036854775807:=dJ h.cats (by decide)
theorem aA.f11{w:World}{c0 c1 c2 c3 c4 c5 c6 c7 c8 c9 c10 c11 c12 c13 c14 c15 c16:Value}{p:aD}(h:aA w c0 c1 c2 c3 c4 c5 c6 c7 c8 c9 c10 c11 c12 c13 c14 c15 c16 p):∃ a c,c11=.slice a p.ay.length c∧p.ay.length≤c∧p.ay.length≤9223372036854775807:=dJ h.ay (by decide)
theorem bN(w:World)(i n:Int):Calls Tryz.prog 162 #[.int .i64 i,.int .i64 n] w fun e w'=>e=.returned (.bool (aF i n))∧w=w':=by
 unfold aF
 cases h:decide (0≤i) with
 | false=>
  go_enter Tryz.func162,Tryz.ntmps162
  go_wp2
  go_ret
  exact⟨rfl,rfl⟩
 | true=>
  go_enter Tryz.func162,Tryz.ntmps162
  go_wp2
  go_ret
  exact⟨rfl,rfl⟩
theorem iD(w:World)(a b:iL)(ha:a.Ok)(hb:b.Ok):Calls Tryz.prog 158 #[.agg #[.int .i64 a.ak,.int .u64 a.cats],.agg #[.int .i64 b.ak,.int .u64 b.cats]] w fun e w'=>e=.returned (.bool (jY a b))∧alU w.heap.size w w':=by
 have hd:(bits .andNot .u64 (b.cats:Int) (a.cats:Int) == 0)=decide (pX b.cats a.cats=0):=by
  rw[u64_andNot_nat b.cats a.cats hb.cats ha.cats];show(((pX b.cats a.cats:Nat):Int) == 0)=_;rw[Bool.eq_iff_iff];simp
 have HD:=alY hd;clear hd ha hb;obtain⟨wo,cG⟩:∃ wo,wo=((w).alloc (.cells #[.int .i64 a.ak,.int .u64 a.cats] 61)).alloc (.cells #[.int .i64 b.ak,.int .u64 b.cats] 61):=⟨_,rfl⟩;have W0:=alY (show Whole wo w.heap.size 61 #[.int .i64 a.ak,.int .u64 a.cats] by rw[cG];exact((show Whole _ w.heap.size 61 #[.int .i64 a.ak,.int .u64 a.cats] from Whole.new w 61 _).alloc _));have W1:=alY (show Whole wo (w.heap.size+1) 61 #[.int .i64 b.ak,.int .u64 b.cats] by rw[cG];exact(iQ w _ _ _));have iF:=alY (show alU w.heap.size w wo by rw[cG];exact(((Below.refl _ w).alloc (Nat.le_refl _) _).alloc (by simp) _));have YA:wo.cell? ⟨w.heap.size,0,none⟩=some (.int .i64 a.ak):=W0.out.cell 0;have Yz:wo.cell? ⟨w.heap.size,1,none⟩=some (.int .u64 a.cats):=W0.out.cell 1;have Yy:wo.cell? ⟨w.heap.size+1,0,none⟩=some (.int .i64 b.ak):=W1.out.cell 0;have Uf:wo.cell? ⟨w.heap.size+1,1,none⟩=some (.int .u64 b.cats):=W1.out.cell 1;unfold jY;by_cases h:b.ak≤a.ak
 ·have h1:decide (b.ak≤a.ak)=true:=by simp[h]
  rw[h1]
  go_enter Tryz.func158,Tryz.ntmps158
  go_upto_region 1 with(fail)
  rw[← cG];clear cG
  go_wp2
  go_ret
  exact⟨aJ (by rw[← HD.out];rfl),iF.out⟩
 ·have h1:decide (b.ak≤a.ak)=false:=by simp[h]
  rw[h1]
  go_enter Tryz.func158,Tryz.ntmps158
  go_upto_region 1 with(fail)
  rw[← cG];clear cG
  go_wp2
  go_ret
  exact⟨rfl,iF.out⟩
theorem pG(w:World)(c0 c1 c2 c3 c4 c5 c6 c7 c8 c9 c10 c11 c12 c13 c14 c15 c16:Value)(p:aD)(hp:aA w c0 c1 c2 c3 c4 c5 c6 c7 c8 c9 c10 c11 c12 c13 c14 c15 c16 p)(k:Int):Calls Tryz.prog 161 #[.agg #[c0,c1,c2,c3,c4,c5,c6,c7,c8,c9,c10,c11,c12,c13,c14,c15,c16],.int .i64 k] w fun e w'=>e=.returned (.bool (lX p.conds.length k))∧alU w.heap.size w w':=by
 obtain⟨a8,k8,rfl,YU,Xw⟩:=aA.f8 hp;obtain⟨n8,Qv⟩:∃ n,n=p.conds.length:=⟨_,rfl⟩;have N8:=alY Qv;rw[← Qv] at YU Xw ⊢;clear Qv;obtain⟨wo,cG⟩:∃ wo,wo=(w).alloc (.cells #[c0,c1,c2,c3,c4,c5,c6,c7,.slice a8 n8 k8,c9,c10,c11,c12,c13,c14,c15,c16] 39):=⟨_,rfl⟩;have W0:=alY (show Whole wo w.heap.size 39 #[c0,c1,c2,c3,c4,c5,c6,c7,.slice a8 n8 k8,c9,c10,c11,c12,c13,c14,c15,c16] by rw[cG];exact(Whole.new w 39 _));have iF:=alY (show alU w.heap.size w wo by rw[cG];exact((Below.refl _ w).alloc (Nat.le_refl _) _));have kp8:wo.cell? ⟨w.heap.size,8,none⟩=some (.slice a8 n8 k8):=W0.out.cell 8;clear hp;unfold lX;by_cases h:-(n8:Int)≤k
 ·have h1:decide (-(n8:Int)≤k)=true:=by simp[h]
  rw[h1]
  go_enter Tryz.func161,Tryz.ntmps161
  go_upto_region 1 with(fail)
  rw[← cG];clear cG
  go_wp2
  go_ret
  exact⟨aJ (by simp),iF.out⟩
 ·have h1:decide (-(n8:Int)≤k)=false:=by simp[h]
  rw[h1]
  go_enter Tryz.func161,Tryz.ntmps161
  go_upto_region 1 with(fail)
  rw[← cG];clear cG
  go_wp2
  go_ret
  exact⟨aJ (by simp),iF.out⟩
theorem qI(w:World)(s:ByteArray)(hs:bW s):Calls Tryz.prog 268 #[.string s] w fun e w'=>e=.returned (.bool (dg s))∧w=w':=by
 have hs':s.size≤140737488355328:=hs;obtain⟨n,hn⟩:∃ n,n=s.size:=⟨_,rfl⟩;have HN:=alY hn;have hnb:n≤140737488355328:=by rw[hn];exact hs'
 unfold dg;clear hs hs'
 go_enter Tryz.func268,Tryz.ntmps268
 go_wp2_with fail
 go_loopw [3] (fun i wr=>wr=w∧∃ k:Nat,k≤n∧i=.int .i64 k∧Hid (cA (mB s) s.size 0=cA (mB s) (n-k) k)) (fun i _=>n-(intOf i).toNat)
 case atStart=>exact⟨rfl,0,alW _,rfl,alY (by rw[hn,Nat.sub_zero])⟩
 case round=>
  obtain⟨rfl,k,hk,rfl,hinv⟩:=hrel;by_cases hlt:k<n
  ·have hks:k<s.size:=by rw[← hn];exact hlt
   obtain⟨x,hx⟩:∃ x,x=bX s k:=⟨_,rfl⟩;have hsx:(s[k]'hks).toNat=x:=by rw[eZ hks,hx]
   have vq:x<256:=by rw[hx];exact gS s k
   have yD:0≤(k:Int)∧(k:Int)<s.size:=by omega
   have HX:=alY hx;clear hx;by_cases h1:(x:Int)<32
   ·have HB:=alY (show mB s k=true by unfold mB;rw[← HX.out];simp[h1]);have hd1:decide ((x:Int)<32)=true:=by simp[h1]
    go_wp2_with fail
    go_ret
    exact⟨aJ (by rw[hinv.out,bE hlt HB.out];rfl),rfl⟩
   ·by_cases h2:(126:Int)<x
    ·have HB:=alY (show mB s k=true by unfold mB;rw[← HX.out];simp[h2]);have hd1:decide ((x:Int)<32)=false:=by simp;omega
     go_wp2_with fail
     go_ret
     exact⟨aJ (by rw[hinv.out,bE hlt HB.out];rfl),rfl⟩
    ·by_cases h3:(x:Int)=34
     ·have HB:=alY (show mB s k=true by unfold mB;rw[← HX.out];simp[h3])
      go_wp2_with fail
      go_ret
      exact⟨aJ (by rw[hinv.out,bE hlt HB.out];rfl),rfl⟩
     ·have HB:=alY (show mB s k=false by unfold mB;rw[← HX.out];simp[h1,h2,h3])
      go_wp2_with fail
      go_roundw
      case rel=>exact⟨by first|trivial|rfl,k+1,by omega,by go_num,alY (hinv.out.trans (cO hlt HB.out))⟩
      case measure=>simp[intOf];omega
  ·obtain rfl:k=n:=by omega
   go_wp2_with fail
   go_ret
   exact⟨aJ (by rw[hinv.out,ck];rfl),rfl⟩
theorem eU(w:World)(x:Nat):Calls Tryz.prog 307 #[.int .u8 (x:Int)] w fun e w'=>e=.returned (.bool (gG x))∧w=w':=by
 unfold gG;by_cases t0:(65:Int)≤x
 ·have d0:decide ((65:Int)≤x)=true:=by simp;omega
  by_cases t1:(x:Int)≤90
  ·have d1:decide ((x:Int)≤90)=true:=by simp;omega
   have d2:decide ((97:Int)≤x)=false:=by simp;omega
   have d3:decide ((x:Int)≤122)=true:=by simp;omega
   go_enter Tryz.func307,Tryz.ntmps307
   go_wp2
   go_ret
   exact⟨aJ (by first|rfl|(simp<;>omega)|(simp[*];done)|(simp;omega)),rfl⟩
  ·have d1:decide ((x:Int)≤90)=false:=by simp;omega
   by_cases t2:(97:Int)≤x
   ·have d2:decide ((97:Int)≤x)=true:=by simp;omega
    by_cases t3:(x:Int)≤122
    ·have d3:decide ((x:Int)≤122)=true:=by simp;omega
     go_enter Tryz.func307,Tryz.ntmps307
     go_wp2
     go_ret
     exact⟨aJ (by first|rfl|(simp<;>omega)|(simp[*];done)|(simp;omega)),rfl⟩
    ·have d3:decide ((x:Int)≤122)=false:=by simp;omega
     go_enter Tryz.func307,Tryz.ntmps307
     go_wp2
     go_ret
     exact⟨aJ (by first|rfl|(simp<;>omega)|(simp[*];done)|(simp;omega)),rfl⟩
   ·have d2:decide ((97:Int)≤x)=false:=by simp;omega
    have d3:decide ((x:Int)≤122)=true:=by simp;omega
    go_enter Tryz.func307,Tryz.ntmps307
    go_wp2
    go_ret
    exact⟨aJ (by first|rfl|(simp<;>omega)|(simp[*];done)|(simp;omega)),rfl⟩
 ·have d0:decide ((65:Int)≤x)=false:=by simp;omega
  have d1:decide ((x:Int)≤90)=true:=by simp;omega
  have d2:decide ((97:Int)≤x)=false:=by simp;omega
  have d3:decide ((x:Int)≤122)=true:=by simp;omega
  go_enter Tryz.func307,Tryz.ntmps307
  go_wp2
  go_ret
  exact⟨aJ (by first|rfl|(simp<;>omega)|(simp[*];done)|(simp;omega)),rfl⟩
theorem mX(w:World)(x:Nat):Calls Tryz.prog 308 #[.int .u8 (x:Int)] w fun e w'=>e=.returned (.bool (jy x))∧w=w':=by
 unfold jy;by_cases t0:(48:Int)≤x
 ·have d0:decide ((48:Int)≤x)=true:=by simp;omega
  go_enter Tryz.func308,Tryz.ntmps308
  go_wp2
  go_ret
  exact⟨aJ (by first|rfl|(simp<;>omega)|(simp[*];done)|(simp;omega)),rfl⟩
 ·have d0:decide ((48:Int)≤x)=false:=by simp;omega
  go_enter Tryz.func308,Tryz.ntmps308
  go_wp2
  go_ret
  exact⟨aJ (by first|rfl|(simp<;>omega)|(simp[*];done)|(simp;omega)),rfl⟩
theorem nu{s ws:ByteArray}{n fr i:Nat}(h:i<n)(hb:bX ws i≠32):dS s ws (n-i) fr i=dS s ws (n-(i+1)) fr (i+1):=by
 obtain⟨k,hk⟩:∃ k,n-i=k+1:=⟨n-i-1,by omega⟩;rw[hk,show n-(i+1)=k by omega];exact if_neg hb
theorem oT{s ws:ByteArray}{n fr i:Nat}(h:i<n)(hb:bX ws i=32)(h1:(ws.extract fr i).toList=s.toList)(h2:s.toList.isEmpty=false):dS s ws (n-i) fr i=true:=by
 obtain⟨k,hk⟩:∃ k,n-i=k+1:=⟨n-i-1,by omega⟩;rw[hk];exact(if_pos hb).trans (if_pos ⟨h1,h2⟩)
theorem iw{s ws:ByteArray}{n fr i:Nat}(h:i<n)(hb:bX ws i=32)(h1:¬ ((ws.extract fr i).toList=s.toList∧s.toList.isEmpty=false)):dS s ws (n-i) fr i=dS s ws (n-(i+1)) (i+1) (i+1):=by
 obtain⟨k,hk⟩:∃ k,n-i=k+1:=⟨n-i-1,by omega⟩;rw[hk,show n-(i+1)=k by omega];exact(if_pos hb).trans (if_neg h1)
theorem oR(w:World)(s ws:ByteArray)(hs:bW ws):Calls Tryz.prog 269 #[.string s,.string ws] w fun e w'=>e=.returned (.bool (tL s ws))∧w=w':=by
 have hs':ws.size≤140737488355328:=hs;obtain⟨n,hn⟩:∃ n,n=ws.size:=⟨_,rfl⟩;have HN:=alY hn;have hnb:n≤140737488355328:=by rw[hn];exact hs'
 unfold tL;clear hs hs'
 go_enter Tryz.func269,Tryz.ntmps269
 go_wp2_with fail
 go_loopw [5,6] (fun f i wr=>wr=w∧∃ fr k:Nat,fr≤k∧k≤n∧f=.int .i64 fr∧i=.int .i64 k∧Hid (dS s ws ws.size 0 0=dS s ws (n-k) fr k)) (fun _ i _=>n-(intOf i).toNat)
 case atStart=>exact⟨rfl,0,0,Nat.le_refl _,alW _,rfl,rfl,alY (by rw[hn,Nat.sub_zero])⟩
 case round=>
  obtain⟨rfl,fr,k,hfr,hk,rfl,rfl,hinv⟩:=hrel;by_cases hlt:k<n
  ·have hks:k<ws.size:=by rw[← hn];exact hlt
   obtain⟨x,hx⟩:∃ x,x=bX ws k:=⟨_,rfl⟩;have hsx:(ws[k]'hks).toNat=x:=by rw[eZ hks,hx]
   have vq:x<256:=by rw[hx];exact gS ws k
   have yD:0≤(k:Int)∧(k:Int)<ws.size:=by omega
   have HX:=alY hx;clear hx;by_cases Lv:x=32
   ·subst Lv;have tF:=alY HX.out.symm;have hlt3:0≤(k:Int)∧(k:Int)≤ws.size:=by omega
    have YS:0≤(fr:Int)∧(fr:Int)≤k:=by omega
    by_cases h1:(ws.extract fr k).toList=s.toList
    ·by_cases h2:s.toList.isEmpty=true
     ·have HM:=alY (iw (fr:=fr) hlt tF.out (fun h=>by rw[h2] at h;cases h.2));clear HX tF
      go_wp2_with fail
      go_roundw
      case rel=>exact⟨by first|trivial|rfl,k+1,k+1,Nat.le_refl _,by omega,by go_num,by go_num,alY (hinv.out.trans HM.out)⟩
      case measure=>simp[intOf];omega
     ·have HM:=alY (oT (fr:=fr) hlt tF.out h1 (Bool.eq_false_iff.2 h2));have h2':s.toList.isEmpty=false:=Bool.eq_false_iff.2 h2;clear h2;clear HX tF
      go_wp2_with fail
      go_ret
      exact⟨aJ (by rw[hinv.out,HM.out]),rfl⟩
    ·have HM:=alY (iw (fr:=fr) hlt tF.out (fun h=>h1 h.1));clear HX tF
     go_wp2_with fail
     go_roundw
     case rel=>exact⟨by first|trivial|rfl,k+1,k+1,Nat.le_refl _,by omega,by go_num,by go_num,alY (hinv.out.trans HM.out)⟩
     case measure=>simp[intOf];omega
   ·have HM:=alY (nu (s:=s) (fr:=fr) hlt (by rw[← HX.out];exact Lv));clear HX
    go_wp2_with fail
    go_roundw
    case rel=>exact⟨by first|trivial|rfl,fr,k+1,by omega,by omega,rfl,by go_num,alY (hinv.out.trans HM.out)⟩
    case measure=>simp[intOf];omega
  ·obtain rfl:k=n:=by omega
   go_wp2_with fail
   go_ret
   exact⟨aJ (by rw[hinv.out,Nat.sub_self];rfl),rfl⟩
theorem BX:bW Jy:=by
 show Jy.size≤140737488355328;have:Jy.size=327:=by kernel_rfl
 omega
theorem jj(w:World)(s:ByteArray):Calls Tryz.prog 325 #[.string s] w fun e w'=>e=.returned (.bool (eV s))∧w=w':=by
 obtain⟨q,hq⟩:∃ q,q=eV s:=⟨_,rfl⟩;have HQ:=alY hq;rw[← hq];clear hq
 go_enter Tryz.func325,Tryz.ntmps325
 go_wp2_with (go_at_call 269;go_must (refine(show Calls Tryz.prog 269 _ _ (fun e w'=>e=.returned (.bool q)∧w=w') from by rw[HQ.out];exact oR w s Jy BX).mono ?_;rintro e w' ⟨rfl,rfl⟩))
 go_ret
 exact⟨rfl,rfl⟩
theorem ku(w:World)(s:ByteArray)(hs:bW s):Calls Tryz.prog 266 #[.string s] w fun e w'=>e=.returned (.bool (ow s))∧w=w':=by
 have hs':s.size≤140737488355328:=hs;obtain⟨n,hn⟩:∃ n,n=s.size:=⟨_,rfl⟩;have HN:=alY hn;have hnb:n≤140737488355328:=by rw[hn];exact hs'
 unfold ow;clear hs hs'
 go_enter Tryz.func266,Tryz.ntmps266
 go_wp2_with fail
 go_loopw [3] (fun i wr=>wr=w∧∃ k:Nat,k≤n∧i=.int .i64 k∧Hid (cA (j7 s) s.size 0=cA (j7 s) (n-k) k)) (fun i _=>n-(intOf i).toNat)
 case atStart=>exact⟨rfl,0,alW _,rfl,alY (by rw[hn,Nat.sub_zero])⟩
 case round=>
  obtain⟨rfl,k,hk,rfl,hinv⟩:=hrel;by_cases hlt:k<n
  ·have hks:k<s.size:=by rw[← hn];exact hlt
   obtain⟨x,hx⟩:∃ x,x=bX s k:=⟨_,rfl⟩;have hsx:(s[k]'hks).toNat=x:=by rw[eZ hks,hx]
   have vq:x<256:=by rw[hx];exact gS s k
   have yD:0≤(k:Int)∧(k:Int)<s.size:=by omega
   have HX:=alY hx;clear hx
   cases hl:gG x with
   | true=>
    have HB:=alY (show j7 s k=false by unfold j7;rw[← HX.out,hl];rfl);have HL:=alY hl;clear hl HX
    go_wp2_with (have hZ:=HL;clear hZ;go_at_call 307;go_must (refine(show Calls Tryz.prog 307 _ _ (fun e w'=>e=.returned (.bool true)∧_=w') from by have h:=eU wr x;rw[HL.out] at h;exact h).mono ?_;rintro e w' ⟨rfl,rfl⟩;clear HL))
    go_roundw
    case rel=>exact⟨by first|trivial|rfl,k+1,by omega,by go_num,alY (hinv.out.trans (cO hlt HB.out))⟩
    case measure=>simp[intOf];omega
   | false=>
    have HL:=alY hl;by_cases h0:k=0
    ·subst h0;have HB:=alY (show j7 s 0=true by unfold j7;rw[← HX.out,hl];rfl);clear hl HX
     go_wp2_with (have hZ:=HL;clear hZ;go_at_call 307;go_must (refine(show Calls Tryz.prog 307 _ _ (fun e w'=>e=.returned (.bool false)∧_=w') from by have h:=eU wr x;rw[HL.out] at h;exact h).mono ?_;rintro e w' ⟨rfl,rfl⟩;clear HL))
     go_ret
     exact⟨aJ (by rw[hinv.out,bE hlt HB.out];rfl),rfl⟩
    ·have RD:decide ((k:Int)=0)=false:=by simp;omega
     cases hg:jy x with
     | true=>
      have HB:=alY (show j7 s k=false by unfold j7;rw[← HX.out,hl,hg];simp[h0]);have CM:=alY hg;clear hl hg HX
      go_wp2_with (first|(have hZ:=HL;clear hZ;go_at_call 307;go_must (refine(show Calls Tryz.prog 307 _ _ (fun e w'=>e=.returned (.bool false)∧_=w') from by have h:=eU wr x;rw[HL.out] at h;exact h).mono ?_;rintro e w' ⟨rfl,rfl⟩;clear HL))|(have hZ:=CM;clear hZ;go_at_call 308;go_must (refine(show Calls Tryz.prog 308 _ _ (fun e w'=>e=.returned (.bool true)∧_=w') from by have h:=mX wr x;rw[CM.out] at h;exact h).mono ?_;rintro e w' ⟨rfl,rfl⟩;clear CM)))
      go_roundw
      case rel=>exact⟨by first|trivial|rfl,k+1,by omega,by go_num,alY (hinv.out.trans (cO hlt HB.out))⟩
      case measure=>simp[intOf];omega
     | false=>
      have HB:=alY (show j7 s k=true by unfold j7;rw[← HX.out,hl,hg];simp);have CM:=alY hg;clear hl hg HX
      go_wp2_with (first|(have hZ:=HL;clear hZ;go_at_call 307;go_must (refine(show Calls Tryz.prog 307 _ _ (fun e w'=>e=.returned (.bool false)∧_=w') from by have h:=eU wr x;rw[HL.out] at h;exact h).mono ?_;rintro e w' ⟨rfl,rfl⟩;clear HL))|(have hZ:=CM;clear hZ;go_at_call 308;go_must (refine(show Calls Tryz.prog 308 _ _ (fun e w'=>e=.returned (.bool false)∧_=w') from by have h:=mX wr x;rw[CM.out] at h;exact h).mono ?_;rintro e w' ⟨rfl,rfl⟩;clear CM)))
      go_ret
      exact⟨aJ (by rw[hinv.out,bE hlt HB.out];rfl),rfl⟩
  ·obtain rfl:k=n:=by omega
   have HF:=alY hinv.out;clear hinv;by_cases h1:(1:Int)≤(s.size:Int)
   ·have hd1:decide ((1:Int)≤(s.size:Int))=true:=by simp;omega
    go_wp2_with fail
    go_ret
    exact⟨aJ (by first|rfl|(rw[HF.out,ck];simp;omega)),rfl⟩
   ·have hd1:decide ((1:Int)≤(s.size:Int))=false:=by simp;omega
    go_wp2_with fail
    go_ret
    exact⟨aJ (by first|rfl|(rw[HF.out,ck];simp;omega)),rfl⟩
theorem qQ(w:World)(s:ByteArray)(hs:bW s):Calls Tryz.prog 163 #[.string s] w fun e w'=>e=.returned (.bool (cR s))∧w=w':=by
 have hs':s.size≤140737488355328:=hs;obtain⟨n,hn⟩:∃ n,n=s.size:=⟨_,rfl⟩;have HN:=alY hn;have hnb:n≤140737488355328:=by rw[hn];exact hs'
 unfold cR;clear hs hs'
 go_enter Tryz.func163,Tryz.ntmps163
 go_wp2_with fail
 go_loopw [3] (fun i wr=>wr=w∧∃ k:Nat,k≤n∧i=.int .i64 k∧Hid (cA (jf s) s.size 0=cA (jf s) (n-k) k)) (fun i _=>n-(intOf i).toNat)
 case atStart=>exact⟨rfl,0,alW _,rfl,alY (by rw[hn,Nat.sub_zero])⟩
 case round=>
  obtain⟨rfl,k,hk,rfl,hinv⟩:=hrel;by_cases hlt:k<n
  ·have hks:k<s.size:=by rw[← hn];exact hlt
   obtain⟨x,hx⟩:∃ x,x=bX s k:=⟨_,rfl⟩;have hsx:(s[k]'hks).toNat=x:=by rw[eZ hks,hx]
   have vq:x<256:=by rw[hx];exact gS s k
   have yD:0≤(k:Int)∧(k:Int)<s.size:=by omega
   have HX:=alY hx;clear hx;by_cases h1:(x:Int)<33
   ·have HB:=alY (show jf s k=true by unfold jf;rw[← HX.out];simp[h1]);have hd1:decide ((x:Int)<33)=true:=by simp[h1]
    go_wp2_with fail
    go_ret
    exact⟨aJ (by rw[hinv.out,bE hlt HB.out];rfl),rfl⟩
   ·by_cases h2:(126:Int)<x
    ·have HB:=alY (show jf s k=true by unfold jf;rw[← HX.out];simp[h2]);have hd1:decide ((x:Int)<33)=false:=by simp;omega
     go_wp2_with fail
     go_ret
     exact⟨aJ (by rw[hinv.out,bE hlt HB.out];rfl),rfl⟩
    ·by_cases h3:(x:Int)=34
     ·have HB:=alY (show jf s k=true by unfold jf;rw[← HX.out];simp[h3])
      go_wp2_with fail
      go_ret
      exact⟨aJ (by rw[hinv.out,bE hlt HB.out];rfl),rfl⟩
     ·have hd3:decide ((x:Int)=34)=false:=by simp[h3]
      have Y6:((x:Int) == 34)=false:=by simpa using h3
      by_cases h4:(x:Int)=47
      ·have HB:=alY (show jf s k=true by unfold jf;rw[← HX.out];simp[h4])
       go_wp2_with fail
       go_ret
       exact⟨aJ (by rw[hinv.out,bE hlt HB.out];rfl),rfl⟩
      ·have HB:=alY (show jf s k=false by unfold jf;rw[← HX.out];simp[h1,h2,h3,h4])
       go_wp2_with fail
       go_roundw
       case rel=>exact⟨by first|trivial|rfl,k+1,by omega,by go_num,alY (hinv.out.trans (cO hlt HB.out))⟩
       case measure=>simp[intOf];omega
  ·obtain rfl:k=n:=by omega
   have HF:=alY hinv.out;clear hinv;by_cases h1:(1:Int)≤(s.size:Int)
   ·have hd1:decide ((1:Int)≤(s.size:Int))=true:=by simp;omega
    go_wp2_with fail
    go_ret
    exact⟨aJ (by first|rfl|(rw[HF.out,ck];simp;omega)),rfl⟩
   ·have hd1:decide ((1:Int)≤(s.size:Int))=false:=by simp;omega
    go_wp2_with fail
    go_ret
    exact⟨aJ (by first|rfl|(rw[HF.out,ck];simp;omega)),rfl⟩
theorem sR(w:World)(s:ByteArray)(hs:bW s):Calls Tryz.prog 301 #[.string s] w fun e w'=>e=.returned (.bool (kC s))∧w=w':=by
 have HS:=alY hs;clear hs;unfold kC
 cases h1:ow s with
 | false=>
  have H1:=alY h1;clear h1
  go_enter Tryz.func301,Tryz.ntmps301
  go_wp2_with (have hZ:=H1;clear hZ;go_at_call 266;go_must (refine(show Calls Tryz.prog 266 _ _ (fun e w'=>e=.returned (.bool false)∧_=w') from by have h:=ku w s HS.out;rw[H1.out] at h;exact h).mono ?_;rintro e w' ⟨rfl,rfl⟩;clear H1))
  go_ret
  exact⟨rfl,rfl⟩
 | true=>
  have H1:=alY h1
  cases h2:eV s with
  | false=>
   have H2:=alY h2;clear h1 h2
   go_enter Tryz.func301,Tryz.ntmps301
   go_wp2_with (first|(have hZ:=H1;clear hZ;go_at_call 266;go_must (refine(show Calls Tryz.prog 266 _ _ (fun e w'=>e=.returned (.bool true)∧_=w') from by have h:=ku w s HS.out;rw[H1.out] at h;exact h).mono ?_;rintro e w' ⟨rfl,rfl⟩;clear H1))|(have hZ:=H2;clear hZ;go_at_call 325;go_must (refine(show Calls Tryz.prog 325 _ _ (fun e w'=>e=.returned (.bool false)∧_=w') from by have h:=jj w s;rw[H2.out] at h;exact h).mono ?_;rintro e w' ⟨rfl,rfl⟩;clear H2)))
   go_ret
   exact⟨rfl,rfl⟩
  | true=>
   have H2:=alY h2;clear h1 h2
   go_enter Tryz.func301,Tryz.ntmps301
   go_wp2_with (first|(have hZ:=H1;clear hZ;go_at_call 266;go_must (refine(show Calls Tryz.prog 266 _ _ (fun e w'=>e=.returned (.bool true)∧_=w') from by have h:=ku w s HS.out;rw[H1.out] at h;exact h).mono ?_;rintro e w' ⟨rfl,rfl⟩;clear H1))|(have hZ:=H2;clear hZ;go_at_call 325;go_must (refine(show Calls Tryz.prog 325 _ _ (fun e w'=>e=.returned (.bool true)∧_=w') from by have h:=jj w s;rw[H2.out] at h;exact h).mono ?_;rintro e w' ⟨rfl,rfl⟩;clear H2)))
   go_ret
   exact⟨rfl,rfl⟩
theorem kB(w:World)(s:ByteArray)(hs:bW s):Calls Tryz.prog 258 #[.string s] w fun e w'=>e=.returned (.bool (kC s))∧w=w':=by
 have HS:=alY hs;clear hs
 go_enter Tryz.func258,Tryz.ntmps258
 go_wp2_with (go_at_call 301;go_must (refine(sR w s HS.out).mono ?_;rintro e w' ⟨rfl,rfl⟩))
 go_ret
 exact⟨rfl,rfl⟩
theorem pF(w:World)(s:ByteArray)(v:Value)(l:List ByteArray)(h:aN w v l):Calls Tryz.prog 259 #[.string s,v] w fun e w'=>e=.returned (.bool (hasB l s))∧w=w':=by
 obtain⟨a,c,rfl,hc,hm,hcell⟩:=h.open;obtain⟨n,hn⟩:∃ n,n=l.length:=⟨_,rfl⟩;have HN:=alY hn;have HC:=alY hcell;unfold hasB;rw[← hn] at hc hm ⊢;clear hcell h hn
 go_enter Tryz.func259,Tryz.ntmps259
 go_wp2_with fail
 go_loopw [5] (fun i wr=>wr=w∧∃ k:Nat,k≤n∧i=.int .i64 k∧Hid (cA (xk l s) n 0=cA (xk l s) (n-k) k)) (fun i _=>n-(intOf i).toNat)
 case atStart=>exact⟨rfl,0,alW _,rfl,alY (by rw[Nat.sub_zero])⟩
 case round=>
  obtain⟨rfl,k,hk,rfl,hinv⟩:=hrel;by_cases hlt:k<n
  ·obtain⟨x,hx⟩:∃ x,l[k]?=some x:=⟨_,alT (by rw[← HN.out];exact hlt)⟩;have HX:=alY hx;obtain⟨b,off,rfl,k0⟩:=HC.out k x hx;clear hx;by_cases he:x.toList=s.toList
   ·have HB:=alY (show xk l s k=true by rw[rP HX.out];simp[he])
    go_wp2_with fail
    go_ret
    exact⟨aJ (by rw[hinv.out,bE hlt HB.out]),rfl⟩
   ·have HB:=alY (show xk l s k=false by rw[rP HX.out];simp[he]);have hb1:(x.toList == s.toList)=false:=by simp[he]
    go_wp2_with fail
    go_roundw
    case rel=>exact⟨by first|trivial|rfl,k+1,by omega,by go_num,alY (hinv.out.trans (cO hlt HB.out))⟩
    case measure=>simp[intOf];omega
  ·obtain rfl:k=n:=by omega
   go_wp2_with fail
   go_ret
   exact⟨aJ (by rw[hinv.out,ck]),rfl⟩
theorem bF(w:World)(v v':Value)(l o:List ByteArray)(h:aN w v l)(ho:aN w v' o)(hok:∀ s∈l,bW s):Calls Tryz.prog 150 #[v,v'] w fun e w'=>e=.returned (.int .i64 (aU l o))∧alU w.heap.size w w':=by
 obtain⟨a,c,rfl,Cc,hget⟩:=aN.get h;obtain⟨_,_,rfl,-⟩:=aN.get ho;have hcl:l.length≤c:=by obtain⟨_,_,e,hk,-⟩:=SliceAt.form h (by decide);injection e with e1 e2 e3;omega
 unfold aU;refine bM [] (fn:=Tryz.f150) Tryz.func150 rfl Tryz.ntmps150 rfl<|lr (ι:=Nat) (fun m=>[(5,.int .i64 (m:Int))]) (fun m _=>m≤l.length∧ah (fW l o) l.length 0=ah (fW l o) (l.length-m) m) (fun m=>l.length-m) 0 (an ⟨⟨rfl,trivial⟩,fun M=>⟨M,alW _,by rw[Nat.sub_zero]⟩⟩ ?_);rintro m w1 M ⟨hm,hinv⟩;refine an (fun h2=>?_) fun h2 M=>⟨ri (by rw[hinv,show m=l.length by simp at h2;omega,aM]),M.below⟩
 have hlt:m<l.length:=by simp at h2;omega
 obtain⟨s,hs⟩:∃ s,l[m]?=some s:=⟨_,alT hlt⟩;obtain⟨b,off,rfl,hc⟩:=hget m s hs;have hcf:=qv (o:=o) hs;have out:∀ v:Int,fW l o m=v→v≠0→ah (fW l o) l.length 0=v:=fun v h1 h2=>by rw[hinv,aP hlt (by rw[h1];exact h2),h1]
 refine ia<|an ⟨rfl,rfl,hlt⟩<|lc (x:=.string s)<|an (cell_later M.below hc)<|cl<|an ((kB _ s (hok s (alZ hs))).mono fun _ _ ⟨h1,h2⟩=>⟨h1,h2▸Below.refl _ _⟩) fun w2 M2=>an (fun h3 M=>⟨ri (out 10 (by rw[hcf,if_neg (by simpa using h3)]) (by decide)),M.below⟩) fun h3=>?_
 rw[if_pos (by simpa using h3)] at hcf;refine dr (by kernel_rfl)<|ia<|an ⟨rfl,rfl,hlt⟩<|lc (x:=.string s)<|an (cell_later M2.below hc)<|ei (x:=.slice (some ⟨b,off,none⟩) m c)<|an (fun a w o ho hv=>qx ho (aY hv) (cC hv) (by omega) (by omega) u28 sz9)<|cl<|an (fun w' hb M'=>(pF w' s _ _ ((aN.front h rfl (Nat.le_of_lt hlt)).keep M'.below)).mono fun _ _ ⟨h1,h2⟩=>⟨h1,h2▸Below.refl _ _⟩)<|ia<|an (fun _=>⟨rfl,rfl,hlt⟩)<|lc (x:=.string s)<|an (fun _=>cell_later M2.below hc)<|cl<|an (fun _ w' hb M'=>(pF w' s _ _ (ho.keep M'.below)).mono fun _ _ ⟨h1,h2⟩=>⟨h1,h2▸Below.refl _ _⟩) fun w3 fL M3=>an (fun h4 M=>⟨ri (out 12 ?_ (by decide)),M.below⟩) fun h4=>an (by omega)<|bk (m+1) ⟨rfl,trivial⟩ (fun M=>⟨M,by omega,hinv.trans (aG hlt ?_)⟩) (by dsimp only;omega)
 all_goals rw[hcf];clear out hinv hcf;cases h5:hasB (l.take m) s<;>cases h6:hasB o s<;>simp_all
end Go.Proofs.YtkkmjdceiocnbaaGreatDoor
namespace Go.Proofs.YtkkmjdceiocnbaaGreatDoor
open Go Go.RowKit Go.WideMaps
theorem QV(d:Nat)(x0 y0:Int)(w:World):(Op.equalIn (d+1) 68 (.int .u32 x0) (.int .u32 y0)).run Tryz.prog w=.ok (decide (x0=y0)) w:=by
 by_cases h:x0=y0<;>simp[Op.equalIn,run_underlying Tryz.underlying68,h]
theorem adr(d:Nat)(x0 y0:Bool)(w:World):(Op.equalIn (d+1) 4 (.bool x0) (.bool y0)).run Tryz.prog w=.ok (decide (x0=y0)) w:=by
 by_cases h:x0=y0<;>simp[Op.equalIn,run_underlying Tryz.underlying4,h]
theorem ads(d:Nat)(x0 y0:Int)(w:World):(Op.equalIn (d+1) 3 (.int .i64 x0) (.int .i64 y0)).run Tryz.prog w=.ok (decide (x0=y0)) w:=by
 by_cases h:x0=y0<;>simp[Op.equalIn,run_underlying Tryz.underlying3,h]
theorem Zo(d:Nat)(x0 x1 x2 x4 y0 y1 y2 y4:Int)(x3 y3:Bool)(w:World):(Op.equalIn (d+2) 70 (.agg #[.int .u32 x0,.int .u32 x1,.int .u32 x2,.bool x3,.int .i64 x4]) (.agg #[.int .u32 y0,.int .u32 y1,.int .u32 y2,.bool y3,.int .i64 y4])).run Tryz.prog w=.ok (decide (x0=y0∧x1=y1∧x2=y2∧x3=y3∧x4=y4)) w:=by
 have hf:(Tryz.prog.fieldsOf 70).toList.map (fun f=>(f.type,f.offset))=[(68,0),(68,1),(68,2),(4,3),(3,4)]:=by kernel_rfl
 have hq:(Op.eqFields (d+1) #[.int .u32 x0,.int .u32 x1,.int .u32 x2,.bool x3,.int .i64 x4] #[.int .u32 y0,.int .u32 y1,.int .u32 y2,.bool y3,.int .i64 y4] (Tryz.prog.fieldsOf 70).toList).run Tryz.prog w=.ok ([decide (x0=y0),decide (x1=y1),decide (x2=y2),decide (x3=y3),decide (x4=y4)].all id) w:=by
  refine zA _ _ (by kernel_rfl) (by kernel_rfl) fun i f r hi hr=>?_
  have hm:=congrArg (fun z:List (Nat×Nat)=>z[i]?) hf;simp only[List.getElem?_map,hi,Option.map_some] at hm;have hlt:i<5:=(List.getElem?_eq_some_iff.1 hr).1
  match i,hlt with
  | 0,_=>
   obtain⟨h1,h2⟩:=al0 (al2 hm);obtain rfl:=al2 hr;rw[h1,h2];exact⟨.int .u32 x0,.int .u32 y0,by kernel_rfl,by kernel_rfl,QV d x0 y0 w⟩
  | 1,_=>
   obtain⟨h1,h2⟩:=al0 (al2 hm);obtain rfl:=al2 hr;rw[h1,h2];exact⟨.int .u32 x1,.int .u32 y1,by kernel_rfl,by kernel_rfl,QV d x1 y1 w⟩
  | 2,_=>
   obtain⟨h1,h2⟩:=al0 (al2 hm);obtain rfl:=al2 hr;rw[h1,h2];exact⟨.int .u32 x2,.int .u32 y2,by kernel_rfl,by kernel_rfl,QV d x2 y2 w⟩
  | 3,_=>
   obtain⟨h1,h2⟩:=al0 (al2 hm);obtain rfl:=al2 hr;rw[h1,h2];exact⟨.bool x3,.bool y3,by kernel_rfl,by kernel_rfl,adr d x3 y3 w⟩
  | 4,_=>
   obtain⟨h1,h2⟩:=al0 (al2 hm);obtain rfl:=al2 hr;rw[h1,h2];exact⟨.int .i64 x4,.int .i64 y4,by kernel_rfl,by kernel_rfl,ads d x4 y4 w⟩
 rw[show d+2=(d+1)+1 from rfl,run_equalIn_agg w (d+1) 70 _ _ (by kernel_rfl) (by kernel_rfl),hq];congr 1;rw[Bool.eq_iff_iff];simp[and_assoc]
end Go.Proofs.YtkkmjdceiocnbaaGreatDoor
namespace Go.Proofs.YtkkmjdceiocnbaaGreatDoor
open Go Go.RowKit
theorem tQ:(Tryz.prog.info? 84).map (·.size)=some 10:=by kernel_rfl
theorem bQ(w:World)(s:aE)(hs:s.Ok)(n:Nat)(hn:n≤140737488355328):Calls Tryz.prog 152 #[.agg #[.int .u64 s.a,.int .u64 s.b,.int .u64 s.c,.int .u64 s.d],.int .i64 (n:Int)] w fun e w'=>e=.returned (.tuple #[.bool (bD s),.bool (s.within (aE.all n))])∧alU w.heap.size w w':=by
 exact bM [] (fn:=Tryz.f152) Tryz.func152 rfl Tryz.ntmps152 rfl<|fun g1 w1 M1=>dr (by kernel_rfl)<|lb 0<|an rfl<|ei (x:=.agg #[.int .u64 0,.int .u64 0,.int .u64 0,.int .u64 0])<|an (bd (by kernel_rfl))<|ei (x:=decide (s=aE.zero))<|an ⟨sW,fun w=>LC s aE.zero w⟩<|lb 0<|an rfl<|cl<|an (fun w' hb' M'=>kg w' n hn)<|cl<|an (fun w' hb' M'=>fV w' s _ hs (jZ n))<|fun w hb M=>fun M=>⟨rfl,M.below⟩
theorem cI(w:World)(c0 c1 c2 c3 c4 c5 c6 c7 c8 c9 c10 c11 c12 c13 c14 c15 c16:Value)(p:aD)(hp:aA w c0 c1 c2 c3 c4 c5 c6 c7 c8 c9 c10 c11 c12 c13 c14 c15 c16 p)(hok:p.Ok)(s:aE)(hs:s.Ok):Calls Tryz.prog 155 #[.agg #[c0,c1,c2,c3,c4,c5,c6,c7,c8,c9,c10,c11,c12,c13,c14,c15,c16],.agg #[.int .u64 s.a,.int .u64 s.b,.int .u64 s.c,.int .u64 s.d]] w fun e w'=>e=.returned (.bool (kf p.roles.length s))∧alU w.heap.size w w':=by
 obtain⟨_,_,_,_,_,_,_,_,_,_,_,_,_,_,_,_,_,_,_,_,_,_,_,_,_,_,_,_,_,_,_,_,_,_,rfl,rfl,rfl,rfl,rfl,rfl,rfl,rfl,rfl,rfl,rfl,rfl,rfl,rfl,rfl,rfl,rfl⟩:=hp.open;have GY:p.roles.length≤140737488355328:=hok.wU;exact bM [] (fn:=Tryz.f155) Tryz.func155 rfl Tryz.ntmps155 rfl<|fun g1 w1 M1=>fun g2 w2 M2=>dr (by kernel_rfl)<|lb 0<|an rfl<|lb 1<|an rfl<|cl<|an (fun w' hb' M'=>kg w' _ GY)<|cl<|an (fun w' hb' M'=>mC w' (aE.all p.roles.length) (jZ _))<|cl<|an (fun w' hb' M'=>fV w' s _ hs (aE.xJ (jZ _)))<|fun w hb M=>fun M=>⟨rfl,M.below⟩
theorem iW(w:World)(c0 c1 c2 c3 c4 c5 c6 c7 c8 c9 c10 c11 c12 c13 c14 c15 c16:Value)(p:aD)(hp:aA w c0 c1 c2 c3 c4 c5 c6 c7 c8 c9 c10 c11 c12 c13 c14 c15 c16 p)(l:iL)(hl:l.Ok):Calls Tryz.prog 157 #[.agg #[c0,c1,c2,c3,c4,c5,c6,c7,c8,c9,c10,c11,c12,c13,c14,c15,c16],.agg #[.int .i64 l.ak,.int .u64 l.cats]] w fun e w'=>e=.returned (.bool (iH p.ak.length p.cats.length l))∧alU w.heap.size w w':=by
 obtain⟨a6,k6,rfl,YW,YO⟩:=aA.f6 hp;obtain⟨n6,Qx⟩:∃ n,n=p.ak.length:=⟨_,rfl⟩;have N6:=alY Qx;rw[← Qx] at YW YO ⊢;clear Qx;obtain⟨a7,k7,rfl,YV,YN⟩:=aA.f7 hp;obtain⟨n7,Qw⟩:∃ n,n=p.cats.length:=⟨_,rfl⟩;have N7:=alY Qw;rw[← Qw] at YV YN ⊢;clear Qw;have hcl:l.cats<18446744073709551616:=hl.cats;clear hp hl;obtain⟨wo,cG⟩:∃ wo,wo=((w).alloc (.cells #[c0,c1,c2,c3,c4,c5,.slice a6 n6 k6,.slice a7 n7 k7,c8,c9,c10,c11,c12,c13,c14,c15,c16] 39)).alloc (.cells #[.int .i64 l.ak,.int .u64 l.cats] 61):=⟨_,rfl⟩;have W0:=alY (show Whole wo w.heap.size 39 #[c0,c1,c2,c3,c4,c5,.slice a6 n6 k6,.slice a7 n7 k7,c8,c9,c10,c11,c12,c13,c14,c15,c16] by rw[cG];exact((show Whole _ w.heap.size 39 #[c0,c1,c2,c3,c4,c5,.slice a6 n6 k6,.slice a7 n7 k7,c8,c9,c10,c11,c12,c13,c14,c15,c16] from Whole.new w 39 _).alloc _));have W1:=alY (show Whole wo (w.heap.size+1) 61 #[.int .i64 l.ak,.int .u64 l.cats] by rw[cG];exact(iQ w _ _ _));have iF:=alY (show alU w.heap.size w wo by rw[cG];exact(((Below.refl _ w).alloc (Nat.le_refl _) _).alloc (by simp) _));have ka6:wo.cell? ⟨w.heap.size,6,none⟩=some (.slice a6 n6 k6):=W0.out.cell 6;have Xn:wo.cell? ⟨w.heap.size,7,none⟩=some (.slice a7 n7 k7):=W0.out.cell 7;have Yy:wo.cell? ⟨w.heap.size+1,0,none⟩=some (.int .i64 l.ak):=W1.out.cell 0;have Uf:wo.cell? ⟨w.heap.size+1,1,none⟩=some (.int .u64 l.cats):=W1.out.cell 1;unfold iH
 cases hb:aF l.ak (n6:Int) with
 | false=>
  have H1:=alY hb;clear hb
  go_enter Tryz.func157,Tryz.ntmps157
  go_upto_region 1 with(fail)
  rw[← cG];clear cG
  go_wp2_with (have hZ:=H1;clear hZ;go_at_call 162;go_must (refine(show Calls Tryz.prog 162 _ _ (fun e w'=>e=.returned (.bool false)∧wo=w') from by have h:=bN wo l.ak (n6:Int);rw[H1.out] at h;exact h).mono ?_;rintro e w' ⟨rfl,rfl⟩;clear H1))
  go_ret
  exact⟨rfl,iF.out⟩
 | true=>
  have H1:=alY hb;clear hb;by_cases h64:(64:Int)≤(n7:Int)
  ·have d1:decide ((64:Int)≤(n7:Int))=true:=by simp;omega
   rw[d1]
   go_enter Tryz.func157,Tryz.ntmps157
   go_upto_region 1 with(fail)
   rw[← cG];clear cG
   go_wp2_with (have hZ:=H1;clear hZ;go_at_call 162;go_must (refine(show Calls Tryz.prog 162 _ _ (fun e w'=>e=.returned (.bool true)∧wo=w') from by have h:=bN wo l.ak (n6:Int);rw[H1.out] at h;exact h).mono ?_;rintro e w' ⟨rfl,rfl⟩;clear H1))
   go_ret
   exact⟨rfl,iF.out⟩
  ·have d1:decide ((64:Int)≤(n7:Int))=false:=by simp;omega
   rw[d1];have h7:n7<64:=by omega
   go_enter Tryz.func157,Tryz.ntmps157
   go_upto_region 1 with(fail)
   rw[← cG];clear cG
   go_wp2_with (have hZ:=H1;clear hZ;go_at_call 162;go_must (refine(show Calls Tryz.prog 162 _ _ (fun e w'=>e=.returned (.bool true)∧wo=w') from by have h:=bN wo l.ak (n6:Int);rw[H1.out] at h;exact h).mono ?_;rintro e w' ⟨rfl,rfl⟩;clear H1))
   go_ret
   exact⟨aJ (by first|rfl|(simp<;>rfl)),iF.out⟩
theorem iR(w:World)(c0 c1 c2 c3 c4 c5 c6 c7 c8 c9 c10 c11 c12 c13 c14 c15 c16:Value)(p:aD)(hp:aA w c0 c1 c2 c3 c4 c5 c6 c7 c8 c9 c10 c11 c12 c13 c14 c15 c16 p)(r:mS)(hr:r.Ok):Calls Tryz.prog 156 #[.agg #[c0,c1,c2,c3,c4,c5,c6,c7,c8,c9,c10,c11,c12,c13,c14,c15,c16],.agg #[.int .i64 r.low.ak,.int .u64 r.low.cats,.int .i64 r.high.ak,.int .u64 r.high.cats]] w fun e w'=>e=.returned (.bool (gE p.ak.length p.cats.length r))∧alU w.heap.size w w':=by
 obtain⟨_,_,_,_,_,_,_,_,_,_,_,_,_,_,_,_,_,_,_,_,_,_,_,_,_,_,_,_,_,_,_,_,_,_,rfl,rfl,rfl,rfl,rfl,rfl,rfl,rfl,rfl,rfl,rfl,rfl,rfl,rfl,rfl,rfl,rfl⟩:=hp.open;exact bM [] (fn:=Tryz.f156) Tryz.func156 rfl Tryz.ntmps156 rfl<|fun g1 w1 M1=>fun g2 w2 M2=>lb 1<|an rfl<|lb 0<|an rfl<|cl<|an (iW _ _ _ _ _ _ _ _ _ _ _ _ _ _ _ _ _ _ p (hp.keep M2.below) r.low hr.low) fun w3 M3=>lb 1<|an (fun _=>rfl)<|lb 0<|an (fun _=>rfl)<|cl<|an (fun _=>iW _ _ _ _ _ _ _ _ _ _ _ _ _ _ _ _ _ _ p (hp.keep M3.below) r.high hr.high) fun w4 M4=>lb 0<|an (fun _=>rfl)<|lb 0<|an (fun _=>rfl)<|cl<|an (fun _=>iD _ r.high r.low hr.high hr.low) fun w5 M5=>fun M=>⟨rfl,M.below⟩
theorem j8(w:World)(c0 c1 c2 c3 c4 c5 c6 c7 c8 c9 c10 c11 c12 c13 c14 c15 c16:Value)(p:aD)(hp:aA w c0 c1 c2 c3 c4 c5 c6 c7 c8 c9 c10 c11 c12 c13 c14 c15 c16 p)(c v:Int)(hv:z_ v):Calls Tryz.prog 160 #[.agg #[c0,c1,c2,c3,c4,c5,c6,c7,c8,c9,c10,c11,c12,c13,c14,c15,c16],.int .i64 c,.int .u32 v] w fun e w'=>e=.returned (.bool (eM p.classes c v))∧alU w.heap.size w w':=by
 obtain⟨a0,k0,rfl,hk0,hm0,hcell⟩:=aj.form hp.classes (by decide);obtain⟨n0,hn0⟩:∃ n,n=p.classes.length:=⟨_,rfl⟩;have N0:=alY hn0;have HC:=alY hcell;rw[← hn0] at hk0 hm0 ⊢;have hv':0≤v∧v<4294967296:=hv;clear hn0 hcell hp hv;obtain⟨wo,cG⟩:∃ wo,wo=(w).alloc (.cells #[.slice a0 n0 k0,c1,c2,c3,c4,c5,c6,c7,c8,c9,c10,c11,c12,c13,c14,c15,c16] 39):=⟨_,rfl⟩;have W0:=alY (show Whole wo w.heap.size 39 #[.slice a0 n0 k0,c1,c2,c3,c4,c5,c6,c7,c8,c9,c10,c11,c12,c13,c14,c15,c16] by rw[cG];exact(Whole.new w 39 _));have iF:=alY (show alU w.heap.size w wo by rw[cG];exact((Below.refl _ w).alloc (Nat.le_refl _) _));have YA:wo.cell? ⟨w.heap.size,0,none⟩=some (.slice a0 n0 k0):=W0.out.cell 0
 cases hb:aF c (n0:Int) with
 | false=>
  have H1:=alY hb;rw[rJ (by rw[← N0.out];exact hb)];clear hb
  go_enter Tryz.func160,Tryz.ntmps160
  go_upto_region 1 with(fail)
  rw[← cG];clear cG
  go_wp2_with (have hZ:=H1;clear hZ;go_at_call 162;go_must (refine(show Calls Tryz.prog 162 _ _ (fun e w'=>e=.returned (.bool false)∧wo=w') from by have h:=bN wo c (n0:Int);rw[H1.out] at h;exact h).mono ?_;rintro e w' ⟨rfl,rfl⟩;clear H1))
  go_ret
  exact⟨rfl,iF.out⟩
 | true=>
  have H1:=alY hb;obtain⟨hc0,hcn⟩:0≤c∧c<(n0:Int):=by unfold aF at hb;simpa using hb
  obtain⟨i,rfl⟩:∃ i:Nat,c=i:=⟨c.toNat,by omega⟩;obtain⟨x,hx⟩:∃ x,p.classes[i]?=some x:=⟨_,alT (by have:=N0.out;omega)⟩
  have hval:eM p.classes (i:Int) v=(decide ((32:Int)≤(x.perms.length:Int))||decide (v/2^x.perms.length=0)):=by
   unfold eM;rw[if_pos hc0];simp only[Int.toNat_natCast,hx]
  rw[hval];obtain⟨b,off,cs,rfl,hrow,hlen,hcc⟩:=HC.out i x hx;obtain⟨pv,rfl,hst⟩:=hrow;obtain⟨a1,k1,rfl,hk1,hm1,-⟩:=hst.open;have kx:wo.cell? ⟨b,off+i*2+1,none⟩=some (.slice a1 x.perms.length k1):=cell_later iF.out (hcc 1 _ rfl);obtain⟨m,hm⟩:∃ m,m=x.perms.length:=⟨_,rfl⟩;rw[← hm] at kx hm1 hk1 ⊢;clear hb hval hx hst hcc hm;by_cases Lv:(32:Int)≤(m:Int)
  ·have d1:decide ((32:Int)≤(m:Int))=true:=by simp;omega
   rw[d1]
   go_enter Tryz.func160,Tryz.ntmps160
   go_upto_region 1 with(fail)
   rw[← cG];clear cG
   go_wp2_with (have hZ:=H1;clear hZ;go_at_call 162;go_must (refine(show Calls Tryz.prog 162 _ _ (fun e w'=>e=.returned (.bool true)∧wo=w') from by have h:=bN wo (i:Int) (n0:Int);rw[H1.out] at h;exact h).mono ?_;rintro e w' ⟨rfl,rfl⟩;clear H1))
   go_ret
   exact⟨rfl,iF.out⟩
  ·have d1:decide ((32:Int)≤(m:Int))=false:=by simp;omega
   rw[d1];have h7:m<32:=by omega
   go_enter Tryz.func160,Tryz.ntmps160
   go_upto_region 1 with(fail)
   rw[← cG];clear cG
   go_wp2_with (have hZ:=H1;clear hZ;go_at_call 162;go_must (refine(show Calls Tryz.prog 162 _ _ (fun e w'=>e=.returned (.bool true)∧wo=w') from by have h:=bN wo (i:Int) (n0:Int);rw[H1.out] at h;exact h).mono ?_;rintro e w' ⟨rfl,rfl⟩;clear H1))
   go_ret
   exact⟨aJ (by first|rfl|(simp<;>rfl)),iF.out⟩
theorem ju:∀ (m:Nat) (w:World) (cs:List Value) (e:aS),m≤13→bq w cs e→Calls Tryz.prog 72 #[.agg cs.toArray,.int .i64 (m:Int)] w fun r w'=>r=.returned (.int .i64 (aL m e))∧alU w.heap.size w w':=by
 intro m
 induction m with
 | zero=>
  intro w cs e _ h;obtain⟨_,_,rfl,hn,hk⟩:=h.open;obtain⟨_,_,rfl,-⟩:=aN.get hn;obtain⟨_,_,rfl,-⟩:=aj.form hk (by decide);refine bM [] (fn:=Tryz.f72) Tryz.func72 rfl Tryz.ntmps72 rfl<|fun g1 w1 M1=>?_
  exact an (fun _ M=>⟨rfl,M.below⟩) fun h=>by simp at h
 | succ m ih=>
  intro w cs e hm h;obtain⟨_,_,rfl,hn,hk⟩:=h.open;obtain⟨_,_,rfl,-⟩:=aN.get hn;obtain⟨_,_,rfl,-,hkm,-⟩:=aj.form hk (by decide);refine bM [] (fn:=Tryz.f72) Tryz.func72 rfl Tryz.ntmps72 rfl<|fun g1 w1 M1=>?_
  refine an (fun h=>by simp at h;omega) fun _=>?_
  refine lr (ι:=Nat) (fun k=>[(5,.int .i64 (dY (fun i=>match e.kids[i]? with|some k=>aL m k|none=>0) k)),(6,.int .i64 (k:Int))]) (fun k _=>k≤e.kids.length) (fun k=>e.kids.length-k) 0 (an ⟨⟨rfl,rfl,trivial⟩,fun M=>⟨M,alW _⟩⟩ ?_);intro k w M hkl;have hx:=eK (fun i=>match e.kids[i]? with|some k=>aL m k|none=>0) k
  have hz:=lA (f:=fun i=>match e.kids[i]? with|some k=>aL m k|none=>0) (b:=m) (by omega) k fun i _=>by
   split
   ·exact(iG m _).2
   ·omega
  refine lb 0<|an rfl<|an (fun h1=>?_) fun h1=>?_
  ·have hlt:k<e.kids.length:=by simp at h1;omega
   obtain⟨y,hy⟩:∃ y,e.kids[k]?=some y:=⟨_,alT hlt⟩;obtain⟨b,o,_,e1,hE,hc⟩:=aj.elt hk (by decide) hy;obtain⟨_,_,rfl,hn2,hk2⟩:=hE.open;obtain⟨_,_,rfl,-⟩:=aN.get hn2;obtain⟨_,_,rfl,-⟩:=aj.form hk2 (by decide);refine lb 0<|an rfl<|ia<|an ⟨e1,rfl,hlt⟩<|lc<|an (bZ M.below hc)<|an (by omega)<|cl (v:=.int .i64 (aL m y))<|an ?_ fun w2 M2=>N9 M2 (v:=.int .i64 (dY (fun i=>match e.kids[i]? with|some k=>aL m k|none=>0) (k+1))) (fun a o ho hv=>?_)<|?_
   ·have h2:=ih _ _ y (by omega) (hE.keep M.below)
    rwa [show((m:Nat):Int)=((m+1:Nat):Int)-1 by omega] at h2
   ·rw[vA ho (aY hv) (cC hv)]
    have e2:dY (fun i=>match e.kids[i]? with|some k=>aL m k|none=>0) (k+1)=max (dY (fun i=>match e.kids[i]? with|some k=>aL m k|none=>0) k) (aL m y):=by
     show max _ (match e.kids[k]? with|some k=>aL m k|none=>0)=_;rw[hy]
    rw[e2,Int.max_def];congr 3;split<;>split<;>omega
   ·exact an (by omega)<|bk (k+1) ⟨rfl,rfl,trivial⟩ (fun M=>⟨M,by omega⟩) (by dsimp only;omega)
  ·obtain rfl:k=e.kids.length:=by simp at h1;omega
   exact an (by omega) fun M=>⟨rfl,M.below⟩
theorem pE(w:World)(o:Int):Calls Tryz.prog 303 #[.int .i64 o] w fun e w'=>e=.returned (.int .i64 (fJ o))∧w=w':=by
 unfold fJ;by_cases h0:o=1
 ·rw[if_pos h0];subst h0
  go_enter Tryz.func303,Tryz.ntmps303
  go_wp2
  go_ret
  exact⟨rfl,rfl⟩
 ·rw[if_neg h0];by_cases h1:o=8
  ·rw[if_pos h1];subst h1
   go_enter Tryz.func303,Tryz.ntmps303
   go_wp2
   go_ret
   exact⟨rfl,rfl⟩
  ·rw[if_neg h1];by_cases h2:o=9
   ·rw[if_pos h2];subst h2
    go_enter Tryz.func303,Tryz.ntmps303
    go_wp2
    go_ret
    exact⟨rfl,rfl⟩
   ·rw[if_neg h2];by_cases h3:o=2
    ·rw[if_pos h3];subst h3
     go_enter Tryz.func303,Tryz.ntmps303
     go_wp2
     go_ret
     exact⟨rfl,rfl⟩
    ·rw[if_neg h3];by_cases h4:o=3
     ·rw[if_pos h4];subst h4
      go_enter Tryz.func303,Tryz.ntmps303
      go_wp2
      go_ret
      exact⟨rfl,rfl⟩
     ·rw[if_neg h4];by_cases h5:o=4
      ·rw[if_pos h5];subst h5
       go_enter Tryz.func303,Tryz.ntmps303
       go_wp2
       go_ret
       exact⟨rfl,rfl⟩
      ·rw[if_neg h5];by_cases h6:o=5
       ·rw[if_pos h6];subst h6
        go_enter Tryz.func303,Tryz.ntmps303
        go_wp2
        go_ret
        exact⟨rfl,rfl⟩
       ·rw[if_neg h6];by_cases h7:o=6
        ·rw[if_pos h7];subst h7
         go_enter Tryz.func303,Tryz.ntmps303
         go_wp2
         go_ret
         exact⟨rfl,rfl⟩
        ·rw[if_neg h7];by_cases h8:o=7
         ·rw[if_pos h8];subst h8
          go_enter Tryz.func303,Tryz.ntmps303
          go_wp2
          go_ret
          exact⟨rfl,rfl⟩
         ·rw[if_neg h8]
          go_enter Tryz.func303,Tryz.ntmps303
          go_wp2
          go_ret
          exact⟨rfl,rfl⟩
theorem cJ(w:World)(cs:List Value)(e:aS)(h:bq w cs e):Calls Tryz.prog 27 #[.agg cs.toArray] w fun r w'=>r=.returned (.int .i64 (aL 13 e))∧alU w.heap.size w w':=by
 have HE:=alY h;obtain⟨nv,kv,hcs,-,-⟩:=h.open;rw[hcs] at HE;subst hcs;clear h;show Calls Tryz.prog 27 #[.agg #[.int .i64 e.op,.int .i64 e.a,.int .i64 e.rel,.int .i64 e.b,nv,.int .u64 e.set.a,.int .u64 e.set.b,.int .u64 e.set.c,.int .u64 e.set.d,kv]] w _;obtain⟨wo,cG⟩:∃ wo,wo=(w).alloc (.cells #[.int .i64 e.op,.int .i64 e.a,.int .i64 e.rel,.int .i64 e.b,nv,.int .u64 e.set.a,.int .u64 e.set.b,.int .u64 e.set.c,.int .u64 e.set.d,kv] 84):=⟨_,rfl⟩;have W0:=alY (show Whole wo w.heap.size 84 #[.int .i64 e.op,.int .i64 e.a,.int .i64 e.rel,.int .i64 e.b,nv,.int .u64 e.set.a,.int .u64 e.set.b,.int .u64 e.set.c,.int .u64 e.set.d,kv] by rw[cG];exact(Whole.new w 84 _));have iF:=alY (show alU w.heap.size w wo by rw[cG];exact((Below.refl _ w).alloc (Nat.le_refl _) _))
 go_enter Tryz.func27,Tryz.ntmps27
 go_upto_region 1 with(fail)
 rw[← cG];clear cG
 go_wp2_with (first|(refine wpList_load_row rfl 84 _ rfl (w.heap.size) rfl 84 _ (0,0) _ W0.out Tryz.underlying84 rfl tQ ?_)|(go_at_call 72;go_must (refine(ju 13 wo _ e (by omega) (bq.keep iF.out HE.out)).mono ?_;rintro r w1 ⟨rfl,hb1⟩;have Ku:=alY hb1;clear hb1)))
 go_ret
 exact⟨rfl,iF.out.trans (Ku.out.mono iF.out.size)⟩
theorem mG:∀ e:aS,∀ (w0:World) (cs:List Value) (c0 c1 c2 c3 c4 c5 c6 c7 c8 c9 c10 c11 c12 c13 c14 c15 c16:Value) (p:aD),aA w0 c0 c1 c2 c3 c4 c5 c6 c7 c8 c9 c10 c11 c12 c13 c14 c15 c16 p→bq w0 cs e→Calls Tryz.prog 263 #[.agg #[c0,c1,c2,c3,c4,c5,c6,c7,c8,c9,c10,c11,c12,c13,c14,c15,c16],.agg cs.toArray] w0 (RI w0 (pH p.bools.length e)):=by
 refine aS.ind fun e ih=>?_
 intro w0 cs c0 c1 c2 c3 c4 c5 c6 c7 c8 c9 c10 c11 c12 c13 c14 c15 c16 p hp h;obtain⟨nv,kv,rfl,uH,hk⟩:=h.open;obtain⟨_,_,rfl,-⟩:=aN.get uH;obtain⟨_,_,rfl,-,Cc,-⟩:=aj.form hk (by decide);obtain⟨_,_,_,_,_,_,_,_,_,_,_,_,_,_,_,_,_,_,_,_,_,_,_,_,_,_,_,_,_,_,_,_,_,_,rfl,rfl,rfl,rfl,rfl,rfl,rfl,rfl,rfl,rfl,rfl,rfl,rfl,rfl,rfl,rfl,rfl⟩:=hp.open;refine bM [] (fn:=Tryz.f263) Tryz.func263 rfl Tryz.ntmps263 rfl<|fun g1 w1 M1=>fun g2 w2 M2=>dr (by kernel_rfl)<|lb 0<|an rfl<|lb 0<|an (fun _=>rfl)<|lb 0<|an (fun _=>rfl)<|cl<|an (fun _ w' hb M=>(pE _ _).mono fun _ _ ⟨h1,h2⟩=>⟨h1,h2▸Below.refl _ _⟩)<|lb 0<|an (fun _=>rfl)<|lb 0<|an (fun _=>rfl)<|lb 0<|an (fun _=>rfl)<|lb 0<|an (fun _=>rfl)<|lb 0<|an (fun _=>rfl)<|ei (x:=.agg #[.int .u64 0,.int .u64 0,.int .u64 0,.int .u64 0])<|an (fun _=>bd (by kernel_rfl))<|ei<|an (fun _=>⟨sW,fun w=>dN e.set w⟩)<|lb 0<|an (fun _=>rfl)<|lb 0<|an (fun _=>rfl)<|fun w3 hb M3=>an (fun h1 M=>⟨ri (vY h1),M.below⟩) fun h1=>lb 0<|an rfl<|lb 0<|an (fun _=>rfl)<|lb 1<|an (fun _=>rfl)<|cl<|an (fun _=>(bN _ _ _).mono fun _ _ ⟨h1,h2⟩=>⟨h1,h2▸Below.refl _ _⟩) fun w4 M4=>an (fun h2 M=>⟨ri (vX h1 h2),M.below⟩) fun h2=>lr (ι:=Nat) (fun m=>[(5,.int .i64 (m:Int))]) (fun m _=>m≤e.kids.length∧n_ p.bools.length e.kids=n_ p.bools.length (e.kids.drop m)) (fun m=>e.kids.length-m) 0 (an ⟨⟨rfl,trivial⟩,fun M=>⟨M,alW _,rfl⟩⟩ ?_)
 rintro m w M ⟨hm,hinv⟩;refine lb 0<|an rfl<|an (fun h3=>?_) fun h3 M=>⟨ri (by rw[kN h1 h2,hinv,show m=e.kids.length by simp at h3;omega,List.drop_length];rfl),M.below⟩
 have hlt:m<e.kids.length:=by simp at h3;omega
 obtain⟨y,hy⟩:∃ y,e.kids[m]?=some y:=⟨_,alT hlt⟩;obtain⟨b,o,_,e1,hE,hc⟩:=aj.elt hk (by decide) hy;obtain⟨PB,kv',rfl,hn',hk'⟩:=hE.open;obtain⟨_,_,rfl,-⟩:=aN.get hn';obtain⟨_,_,rfl,-⟩:=aj.form hk' (by decide);exact dr (by kernel_rfl)<|lb 1<|an rfl<|lb 0<|an rfl<|ia<|an ⟨e1,rfl,hlt⟩<|lc<|an (bZ M.below hc)<|cl<|an (fun w' hb M'=>ih y (alZ hy) w' _ _ _ _ _ _ _ _ _ _ _ _ _ _ _ _ _ _ p (hp.keep M'.below) (hE.keep M'.below)) fun w5 uL M5=>an (fun h4 M=>⟨ri (by rw[kN h1 h2,hinv,kO hy,if_neg (by simpa using h4)]),M.below⟩) fun h4=>an (by omega)<|bk (m+1) ⟨rfl,trivial⟩ (fun M=>⟨M,by omega,by rw[hinv,kO hy,if_pos (by simpa using h4)]⟩) (by dsimp only;omega)
theorem mI(e:aS)(w0:World)(cs:List Value)(c0 c1 c2 c3 c4 c5 c6 c7 c8 c9 c10 c11 c12 c13 c14 c15 c16:Value)(p:aD)(hp:aA w0 c0 c1 c2 c3 c4 c5 c6 c7 c8 c9 c10 c11 c12 c13 c14 c15 c16 p)(h:bq w0 cs e):Calls Tryz.prog 159 #[.agg #[c0,c1,c2,c3,c4,c5,c6,c7,c8,c9,c10,c11,c12,c13,c14,c15,c16],.agg cs.toArray] w0 (RI w0 (cW p.bools.length e)):=by
 obtain⟨nv,kv,rfl,-,-⟩:=h.open;have oJ:=hr1 Tryz.prog Tryz.f159 (RI w0 (cW p.bools.length e)) 11 4 rfl;refine en Tryz.func159 rfl Tryz.ntmps159 rfl (vs:=[.agg #[c0,c1,c2,c3,c4,c5,c6,c7,c8,c9,c10,c11,c12,c13,c14,c15,c16],.agg #[.int .i64 e.op,.int .i64 e.a,.int .i64 e.rel,.int .i64 e.b,nv,.int .u64 e.set.a,.int .u64 e.set.b,.int .u64 e.set.c,.int .u64 e.set.d,kv]]) rfl fun _ F=>?_
 have M:=Mm.start w0;refine al3 fun K1 G5=>bC<|Lm (on rfl) rfl (F.u rf) rfl F rfl M fun g1 _ _ F M=>Lm (on rfl) rfl (F.u rf) rfl F rfl M fun g2 _ _ F M=>xA (v:=.int .i64 0) F rf rf rf fun _ F=>al4<|G5 _ _ ?_
 refine al3 fun K2 G4=>al3 fun K3 Nv=>bC<|xW F (M.b 0 rfl) rf rf rf FP rf uR rf fun _ F=>xC F M rf rf Ua (args1 (F.u rf)) (cJ _ _ e (bq.keep M.below h)) fun _ _ F M=>kz F rf (Cu rfl (F.u rf) rfl) fun _ F=>al4<|Nv _ _ ?_
 refine wp_cond_split (F.e 7 rfl) (fun hc3=>?_) (fun hc3=>?_)
 ·have GZ:=of_decide_eq_true hc3;refine al3 fun K4 JG=>bC<|xA (v:=.int .i64 4) F rf rf rf fun _ F=>al4<|JG _ _ ?_
  refine wp_ret<|oJ _ _ _ _ F rfl ?_;exact⟨dU (by unfold cW;repeat (first|with_reducible rfl|assumption|(with_reducible refine Eq.trans (if_pos ?_) ?_;focus (first|assumption|(refine gI ?_;assumption)|(refine gH ?_;assumption)|omega|(simp[GZ];done)))|(with_reducible refine Eq.trans (if_neg ?_) ?_;focus (first|assumption|(refine gI ?_;assumption)|(refine gH ?_;assumption)|omega|(simp[GZ];done)))|omega)),M.below⟩
 ·have Ce:=of_decide_eq_false hc3;refine wp_skip<|G4 _ _ ?_;refine al3 fun K5 QK=>bC<|xW F (M.b 1 rfl) rf rf rf OC rf Br rf fun _ F=>xW F (M.b 0 rfl) rf rf rf FP rf uR rf fun _ F=>xC F M rf rf Po (args2 (F.u rf) (F.u rf)) (mG e _ _ _ _ _ _ _ _ _ _ _ _ _ _ _ _ _ _ _ p (hp.keep M.below) (bq.keep M.below h)) fun _ _ F M=>xA F rf rf rf fun _ F=>al4<|QK _ _ ?_
  refine wp_ret<|oJ _ _ _ _ F rfl ?_;exact⟨dU (by unfold cW;repeat (first|with_reducible rfl|assumption|(with_reducible refine Eq.trans (if_pos ?_) ?_;focus (first|assumption|(refine gI ?_;assumption)|(refine gH ?_;assumption)|omega|(simp[Ce];done)))|(with_reducible refine Eq.trans (if_neg ?_) ?_;focus (first|assumption|(refine gI ?_;assumption)|(refine gH ?_;assumption)|omega|(simp[Ce];done)))|omega)),M.below⟩
theorem q6(w0:World)(cs:List Value)(e:aS)(h:bq w0 cs e):Calls Tryz.prog 304 #[.agg cs.toArray] w0 (fun(r:Ending) (w':World)=>r=.returned (.bool (cT e))∧alU w0.heap.size w0 w'):=by
 obtain⟨nv,kv,rfl,uH,hk⟩:=h.open;obtain⟨_,_,rfl,-⟩:=aN.get uH;obtain⟨_,_,rfl,-,Cc,-⟩:=aj.form hk (by decide);refine bM [] (fn:=Tryz.f304) Tryz.func304 rfl Tryz.ntmps304 rfl<|fun g1 w1 M1=>lb 0<|an rfl<|an (fun h=>an (fun _=>?_) fun h'=>by rw[h] at h';cases h') fun h1=>an (fun h=>an (fun _=>?_) fun h'=>by rw[h] at h';cases h') fun h2=>an (fun h=>?_) fun h3=>an (fun h4=>lb 0<|an rfl<|lb 0<|an (fun _=>rfl)<|lb 0<|an (fun _=>rfl)<|ei (x:=.agg #[.int .u64 0,.int .u64 0,.int .u64 0,.int .u64 0])<|an (fun _=>bd (by kernel_rfl))<|ei<|an (fun _=>⟨sW,fun w=>dN e.set w⟩)<|fun M=>⟨rb ?_,M.below⟩) fun h4=>an (fun h5=>lb 0<|an rfl<|lb 0<|an (fun _=>rfl)<|lb 0<|an (fun _=>rfl)<|lb 0<|an (fun _=>rfl)<|fun M=>⟨rb ?_,M.below⟩) fun h5 M=>⟨rb ?_,M.below⟩
 rotate_left 3
 ·simp only[decide_eq_true_eq,decide_eq_false_iff_not] at h1 h2 h3 h4;unfold cT;rw[if_neg (by omega),if_pos h4]
 ·simp only[decide_eq_true_eq,decide_eq_false_iff_not] at h1 h2 h3 h4 h5;unfold cT;rw[if_neg (by omega),if_neg h4,if_pos h5]
 ·simp only[decide_eq_true_eq,decide_eq_false_iff_not] at h1 h2 h3 h4 h5;unfold cT;rw[if_neg (by omega),if_neg h4,if_neg h5]
 all_goals
  refine dr (by kernel_rfl)<|lb 0<|an rfl<|lb 0<|an rfl<|cl<|an (fun w' hb M=>(pE _ _).mono fun _ _ ⟨h1,h2⟩=>⟨h1,h2▸Below.refl _ _⟩)<|lb 0<|an (fun _=>rfl)<|lb 0<|an (fun _=>rfl)<|lb 0<|an (fun _=>rfl)<|lb 0<|an (fun _=>rfl)<|lb 0<|an (fun _=>rfl)<|ei (x:=.agg #[.int .u64 0,.int .u64 0,.int .u64 0,.int .u64 0])<|an (fun _=>bd (by kernel_rfl))<|ei<|an (fun _=>⟨sW,fun w=>dN e.set w⟩)<|fun w2 hb2 M2 M=>⟨rb ?_,M.below⟩
  simp only[decide_eq_true_eq] at h;unfold cT;rw[if_pos (by omega)]
theorem qU(w:World)(c0 c1 c2 c3 c4 c5 c6 c7 c8 c9 c10 c11 c12 c13 c14 c15 c16:Value)(p:aD)(hp:aA w c0 c1 c2 c3 c4 c5 c6 c7 c8 c9 c10 c11 c12 c13 c14 c15 c16 p)(k:Nat)(hk:k<1000):Calls Tryz.prog 306 #[.agg #[c0,c1,c2,c3,c4,c5,c6,c7,c8,c9,c10,c11,c12,c13,c14,c15,c16],.int .i64 (k:Int)] w fun e w'=>e=.returned (.int .i64 (dh p.users.length p.roles.length p.types.length k))∧alU w.heap.size w w':=by
 obtain⟨a1,k1,rfl,hk1,hm1⟩:=aA.f1 hp;obtain⟨n1,hn1⟩:∃ n,n=p.types.length:=⟨_,rfl⟩;have N1:=alY hn1;rw[← hn1] at hk1 hm1 ⊢;clear hn1;obtain⟨a3,k3,rfl,Xx,YQ⟩:=aA.f3 hp;obtain⟨n3,GY⟩:∃ n,n=p.roles.length:=⟨_,rfl⟩;have N3:=alY GY;rw[← GY] at Xx YQ ⊢;clear GY;obtain⟨a4,k4,rfl,NY,YP⟩:=aA.f4 hp;obtain⟨n4,Qy⟩:∃ n,n=p.users.length:=⟨_,rfl⟩;have N4:=alY Qy;rw[← Qy] at NY YP ⊢;clear Qy;clear hp;unfold dh;obtain⟨wo,cG⟩:∃ wo,wo=(w).alloc (.cells #[c0,.slice a1 n1 k1,c2,.slice a3 n3 k3,.slice a4 n4 k4,c5,c6,c7,c8,c9,c10,c11,c12,c13,c14,c15,c16] 39):=⟨_,rfl⟩;have W0:=alY (show Whole wo w.heap.size 39 #[c0,.slice a1 n1 k1,c2,.slice a3 n3 k3,.slice a4 n4 k4,c5,c6,c7,c8,c9,c10,c11,c12,c13,c14,c15,c16] by rw[cG];exact(Whole.new w 39 _));have iF:=alY (show alU w.heap.size w wo by rw[cG];exact((Below.refl _ w).alloc (Nat.le_refl _) _));have kp1:wo.cell? ⟨w.heap.size,1,none⟩=some (.slice a1 n1 k1):=W0.out.cell 1;have kp3:wo.cell? ⟨w.heap.size,3,none⟩=some (.slice a3 n3 k3):=W0.out.cell 3;have kp4:wo.cell? ⟨w.heap.size,4,none⟩=some (.slice a4 n4 k4):=W0.out.cell 4;by_cases h0:k%5=0
 ·rw[if_pos h0]
  go_enter Tryz.func306,Tryz.ntmps306
  go_upto_region 1 with(fail)
  rw[← cG];clear cG
  go_wp2_with fail
  go_ret
  exact⟨rfl,iF.out⟩
 ·rw[if_neg h0];by_cases h1:k%5=1
  ·rw[if_pos h1]
   go_enter Tryz.func306,Tryz.ntmps306
   go_upto_region 1 with(fail)
   rw[← cG];clear cG
   go_wp2_with fail
   go_ret
   exact⟨rfl,iF.out⟩
  ·rw[if_neg h1];by_cases h2:k%5=2
   ·rw[if_pos h2]
    go_enter Tryz.func306,Tryz.ntmps306
    go_upto_region 1 with(fail)
    rw[← cG];clear cG
    go_wp2_with fail
    go_ret
    exact⟨rfl,iF.out⟩
   ·rw[if_neg h2];have g0:¬ ((k%5:Nat):Int)=0:=by omega
    have g1:¬ ((k%5:Nat):Int)=1:=by omega
    have g2:¬ ((k%5:Nat):Int)=2:=by omega
    go_enter Tryz.func306,Tryz.ntmps306
    go_upto_region 1 with(fail)
    rw[← cG];clear cG
    go_wp2_with fail
    go_ret
    exact⟨rfl,iF.out⟩
theorem kS(w:World)(i n:Int):Calls Tryz.prog 162 #[.int .i64 i,.int .i64 n] w fun e w'=>e=.returned (.bool (aF i n))∧alU w.heap.size w w':=(bN w i n).mono fun _ _ ⟨h1,h2⟩=>⟨h1,h2▸alU.refl _ _⟩
theorem nH(w:World)(cs:List Value)(e:aS)(h:bq w cs e)(n:Nat):Calls Tryz.prog 305 #[.agg cs.toArray,.int .i64 (n:Int)] w fun r w'=>r=.returned (.int .i64 (ez n e))∧alU w.heap.size w w':=by
 obtain⟨nv,kv,rfl,-,-⟩:=h.open;refine bM [] (fn:=Tryz.f305) Tryz.func305 rfl Tryz.ntmps305 rfl<|fun g1 w1 M1=>lb 0<|an rfl<|cl<|an (kS _ e.a n) fun w2 M2=>lb 0<|an (fun _=>rfl)<|cl<|an (fun _=>kS _ e.b n) fun w3 M3=>lb 0<|an (fun _=>rfl)<|cl<|an (fun _=>kS _ e.rel 5) fun w4 M4=>an (fun h M=>⟨ri ?_,M.below⟩) fun h=>?_
 ·unfold ez;cases h1:aF e.a (n:Int)<;>cases h2:aF e.b (n:Int)<;>cases h3:aF e.rel 5<;>simp_all
 simp only[Bool.or_eq_false_iff,Bool.not_eq_false'] at h;obtain⟨⟨h1,h2⟩,h3⟩:=h;have hc:ez n e=og e.rel e.a.toNat e.b.toNat:=by unfold ez;rw[h1,h2,h3];rfl
 rw[hc];have a0:0≤e.a:=by unfold aF at h1;rw[alX,decide_eq_true_eq] at h1;exact h1.1
 have b0:0≤e.b:=by unfold aF at h2;rw[alX,decide_eq_true_eq] at h2;exact h2.1
 unfold og;refine dr (by kernel_rfl)<|lb 0<|an rfl<|ei<|an (fun a w o ho hv=>Ga a0 ho (aY hv) (cC hv))<|lb 0<|an rfl<|ei<|an (fun a w o ho hv=>Ga b0 ho (aY hv) (cC hv))<|fun w5 uL M5=>an (fun h4 M=>⟨ri (if_pos ?_),M.below⟩) fun h4=>?_
 ·rw[alX,decide_eq_true_eq,decide_eq_true_eq] at h4;omega
 rw[if_neg (by rw[Bool.and_eq_false_iff,decide_eq_false_iff_not,decide_eq_false_iff_not] at h4;omega)];refine lb 0<|an (fun _=>rfl)<|an (fun h5 M=>⟨ri ?_,M.below⟩) fun h5 M=>⟨ri ?_,M.below⟩
 ·by_cases e1:e.a.toNat%5=e.b.toNat%5
  ·rw[if_neg (by omega),if_pos];simp[e1] at h5;omega
  ·rw[if_pos e1]
 ·simp at h5;rw[if_neg (by omega),if_neg (by omega)]
theorem sO{nU nR nT:Nat}(k:Nat){B:Nat}(h1:nU≤B)(h2:nR≤B)(h3:nT≤B):dh nU nR nT k≤(B:Int):=by
 unfold dh;split
 ·omega
 ·split
  ·omega
  ·split<;>omega
theorem f_(N:Nat)(hN:N≤100):∀ e:aS,e.Ok→∀ (w0:World) (cs:List Value) (c0 c1 c2 c3 c4 c5 c6 c7 c8 c9 c10 c11 c12 c13 c14 c15 c16:Value) (p:aD),aA w0 c0 c1 c2 c3 c4 c5 c6 c7 c8 c9 c10 c11 c12 c13 c14 c15 c16 p→p.Ok→bq w0 cs e→Calls Tryz.prog 264 #[.agg #[c0,c1,c2,c3,c4,c5,c6,c7,c8,c9,c10,c11,c12,c13,c14,c15,c16],.agg cs.toArray,.int .i64 (N:Int)] w0 (RI w0 (iC p.users.length p.roles.length p.types.length N e)):=by
 refine aS.ind fun e ih=>?_
 intro he w0 cs c0 c1 c2 c3 c4 c5 c6 c7 c8 c9 c10 c11 c12 c13 c14 c15 c16 p hp hok h;have hU:=hok.Eb;have hR:=hok.wU;have hT:=hok.jm;obtain⟨_,_,_,_,_,_,_,_,_,_,_,_,_,_,_,_,_,_,_,_,_,_,_,_,_,_,_,_,_,_,_,_,_,_,rfl,rfl,rfl,rfl,rfl,rfl,rfl,rfl,rfl,rfl,rfl,rfl,rfl,rfl,rfl,rfl,rfl⟩:=hp.open;obtain⟨nv,kv,rfl,uH,hk⟩:=h.open;obtain⟨_,_,rfl,-⟩:=aN.get uH;obtain⟨_,_,rfl,-,Cc,-⟩:=aj.form hk (by decide);have out:∀ r:Int,dF p.users.length p.roles.length p.types.length N e=some r→iC p.users.length p.roles.length p.types.length N e=r:=fun r h=>kE h
 have hs:dF p.users.length p.roles.length p.types.length N e=none→iC p.users.length p.roles.length p.types.length N e=lV p.users.length p.roles.length p.types.length N e.kids:=mP;unfold dF at out hs;refine bM [] (fn:=Tryz.f264) Tryz.func264 rfl Tryz.ntmps264 rfl<|fun g1 w1 M1=>fun g2 w2 M2=>lb 0<|an rfl<|cl<|an (q6 _ _ e (h.keep M2.below)) fun w3 M3=>an (fun h1 M=>⟨ri (out _ (if_pos (by simpa using h1))),M.below⟩) fun h1=>?_
 rw[if_neg (by simpa using h1)] at out hs;refine lb 0<|an rfl<|an (fun h2=>lb 0<|an rfl<|cl<|an (nH _ _ e (h.keep M3.below) N) fun w4 M4 M=>⟨ri (out _ (if_pos (by simpa using h2))),M.below⟩) fun h2=>?_
 rw[if_neg (by simpa using h2)] at out hs;refine lb 0<|an rfl<|an (fun h3=>?_) fun h3=>?_
 focus
  rw[if_pos (by simpa using h3)] at out hs;refine lb 0<|an rfl<|cl<|an ((bN _ _ _).mono fun _ _ ⟨h1,h2⟩=>⟨h1,h2▸Below.refl _ _⟩) fun w5 M5=>an (fun h4 M=>⟨ri (out _ (if_pos (by simpa using h4))),M.below⟩) fun h4=>?_
  rw[if_neg (by simpa using h4)] at out hs;have hb:0≤e.a∧e.a<(N:Int):=by simpa[aF] using h4
  have Y4:((e.a.toNat:Nat):Int)=e.a:=by omega
  have hle:=sO (nU:=p.users.length) (nR:=p.roles.length) (nT:=p.types.length) e.a.toNat (B:=140737488355328) hU hR hT;refine lb 1<|an rfl<|lb 0<|an rfl<|cl<|an (Y4▸qU _ _ _ _ _ _ _ _ _ _ _ _ _ _ _ _ _ _ p (hp.keep M5.below) e.a.toNat (by omega) :) fun w6 M6=>an (fun h5 M=>⟨ri (out _ (if_pos (by simpa using h5))),M.below⟩) fun h5=>?_
  rw[if_neg (by simpa using h5)] at out hs;have hnn:((dh p.users.length p.roles.length p.types.length e.a.toNat).toNat:Int)=dh p.users.length p.roles.length p.types.length e.a.toNat:=by simp at h5;omega
  refine lb 0<|an rfl<|cl<|an (hnn▸bQ _ e.set he.set' (dh p.users.length p.roles.length p.types.length e.a.toNat).toNat (by omega) :) fun w7 M7=>an (fun h6 M=>⟨ri (out _ (if_pos (by simpa using h6))),M.below⟩) fun h6=>?_
  rw[if_neg (by simpa using h6)] at out hs;refine an (fun h7 M=>⟨ri (out _ (if_pos (by simpa using h7))),M.below⟩) fun h7=>?_
  rw[if_neg (by simpa using h7)] at out hs;replace hs:=hs rfl
 rotate_left 1
 focus
  replace hs:=hs (if_neg (by simpa using h3))
 all_goals
  refine lr (ι:=Nat) (fun m=>[(10,.int .i64 (m:Int))]) (fun m _=>m≤e.kids.length∧lV p.users.length p.roles.length p.types.length N e.kids=lV p.users.length p.roles.length p.types.length N (e.kids.drop m)) (fun m=>e.kids.length-m) 0 (an ⟨⟨rfl,trivial⟩,fun M=>⟨M,alW _,rfl⟩⟩ ?_);rintro m w M ⟨hm,hinv⟩;refine lb 0<|an rfl<|an (fun h9=>?_) fun h9 M=>⟨ri (by rw[hs,hinv,show m=e.kids.length by simp at h9;omega,List.drop_length];rfl),M.below⟩
  have hlt:m<e.kids.length:=by simp at h9;omega
  obtain⟨y,hy⟩:∃ y,e.kids[m]?=some y:=⟨_,alT hlt⟩;obtain⟨b,o,_,e1,hE,hc⟩:=aj.elt hk (by decide) hy;obtain⟨PB,kv',rfl,hn',hk'⟩:=hE.open;obtain⟨_,_,rfl,-⟩:=aN.get hn';obtain⟨_,_,rfl,-⟩:=aj.form hk' (by decide);exact dr (by kernel_rfl)<|lb 1<|an rfl<|lb 0<|an rfl<|ia<|an ⟨e1,rfl,hlt⟩<|lc<|an (bZ M.below hc)<|cl<|an (fun w' hb M'=>ih y (alZ hy) (he.BZ y (alZ hy)) w' _ _ _ _ _ _ _ _ _ _ _ _ _ _ _ _ _ _ p (hp.keep M'.below) hok (hE.keep M'.below)) fun w5 uL M5=>an (fun h4 M=>⟨ri (by rw[hs,hinv,mQ hy,if_neg (by simpa using h4)]),M.below⟩) fun h4=>an (by omega)<|bk (m+1) ⟨rfl,trivial⟩ (fun M=>⟨M,by omega,by rw[hinv,mQ hy,if_pos (by simpa using h4)]⟩) (by dsimp only;omega)
theorem kU(e:aS)(he:e.Ok)(w0:World)(cs:List Value)(c0 c1 c2 c3 c4 c5 c6 c7 c8 c9 c10 c11 c12 c13 c14 c15 c16:Value)(p:aD)(hp:aA w0 c0 c1 c2 c3 c4 c5 c6 c7 c8 c9 c10 c11 c12 c13 c14 c15 c16 p)(hok:p.Ok)(h:bq w0 cs e)(v:Bool):Calls Tryz.prog 164 #[.agg #[c0,c1,c2,c3,c4,c5,c6,c7,c8,c9,c10,c11,c12,c13,c14,c15,c16],.agg cs.toArray,.bool v] w0 (RI w0 (cq p.users.length p.roles.length p.types.length v e)):=by
 obtain⟨nv,kv,rfl,-,-⟩:=h.open;have oJ:=hr1 Tryz.prog Tryz.f164 (RI w0 (cq p.users.length p.roles.length p.types.length v e)) 17 6 rfl;refine en Tryz.func164 rfl Tryz.ntmps164 rfl (vs:=[.agg #[c0,c1,c2,c3,c4,c5,c6,c7,c8,c9,c10,c11,c12,c13,c14,c15,c16],.agg #[.int .i64 e.op,.int .i64 e.a,.int .i64 e.rel,.int .i64 e.b,nv,.int .u64 e.set.a,.int .u64 e.set.b,.int .u64 e.set.c,.int .u64 e.set.d,kv],.bool v]) rfl fun _ F=>?_
 have M:=Mm.start w0;refine al3 fun K1 G5=>bC<|Lm (on rfl) rfl (F.u rf) rfl F rfl M fun g1 _ _ F M=>Lm (on rfl) rfl (F.u rf) rfl F rfl M fun g2 _ _ F M=>xA (v:=.int .i64 0) F rf rf rf fun _ F=>al4<|G5 _ _ ?_
 refine al3 fun K2 G4=>al3 fun K3 Nv=>bC<|xW F (M.b 0 rfl) rf rf rf FP rf uR rf fun _ F=>xC F M rf rf Ua (args1 (F.u rf)) (cJ _ _ e (bq.keep M.below h)) fun _ _ F M=>kz F rf (Cu rfl (F.u rf) rfl) fun _ F=>al4<|Nv _ _ ?_
 refine wp_cond_split (F.e 9 rfl) (fun hc3=>?_) (fun hc3=>?_)
 ·have GZ:=of_decide_eq_true hc3;refine al3 fun K4 JG=>bC<|xA (v:=.int .i64 4) F rf rf rf fun _ F=>al4<|JG _ _ ?_
  refine wp_ret<|oJ _ _ _ _ F rfl ?_;exact⟨dU (by unfold cq;refine Eq.symm ?_;repeat (first|with_reducible rfl|assumption|(with_reducible refine Eq.trans (if_pos ?_) ?_;focus (first|assumption|(refine gI ?_;assumption)|(refine gH ?_;assumption)|omega|(simp[GZ];done)))|(with_reducible refine Eq.trans (if_neg ?_) ?_;focus (first|assumption|(refine gI ?_;assumption)|(refine gH ?_;assumption)|omega|(simp[GZ];done)))|omega)),M.below⟩
 ·have Ce:=of_decide_eq_false hc3;refine wp_skip<|G4 _ _ ?_;refine al3 fun K5 QK=>al3 fun K6 Zh=>bC<|xM F rf rf rf fun _ F=>al4<|Zh _ _ ?_
  refine wp_cond_split (F.e 10 rfl) (fun G0=>?_) (fun G0=>?_)
  ·refine al3 fun K7 Zg=>bC<|xW F (M.b 1 rfl) rf rf rf OC rf Br rf fun _ F=>xW F (M.b 0 rfl) rf rf rf FP rf uR rf fun _ F=>
    xC F M rf rf Ge (z7 (F.u rf) (F.u rf) rfl) (f_ 15 (by decide) e he _ _ _ _ _ _ _ _ _ _ _ _ _ _ _ _ _ _ _ p (hp.keep M.below) hok (bq.keep M.below h)) fun _ _ F M=>
    xA F rf rf rf fun _ F=>
    al4<|
    Zg _ _ ?_
   refine wp_ret<|oJ _ _ _ _ F rfl ?_;exact⟨dU (by unfold cq;refine Eq.symm ?_;repeat (first|with_reducible rfl|assumption|(with_reducible refine Eq.trans (if_pos ?_) ?_;focus (first|assumption|(refine gI ?_;assumption)|(refine gH ?_;assumption)|omega|(simp[Ce,G0];done)))|(with_reducible refine Eq.trans (if_neg ?_) ?_;focus (first|assumption|(refine gI ?_;assumption)|(refine gH ?_;assumption)|omega|(simp[Ce,G0];done)))|omega)),M.below⟩
  ·refine wp_skip<|QK _ _ ?_
   refine al3 fun K8 Zf=>bC<|xW F (M.b 1 rfl) rf rf rf OC rf Br rf fun _ F=>xW F (M.b 0 rfl) rf rf rf FP rf uR rf fun _ F=>
    xC F M rf rf Ge (z7 (F.u rf) (F.u rf) rfl) (f_ 10 (by decide) e he _ _ _ _ _ _ _ _ _ _ _ _ _ _ _ _ _ _ _ p (hp.keep M.below) hok (bq.keep M.below h)) fun _ _ F M=>
    xA F rf rf rf fun _ F=>
    al4<|
    Zf _ _ ?_
   refine wp_ret<|oJ _ _ _ _ F rfl ?_;exact⟨dU (by unfold cq;refine Eq.symm ?_;repeat (first|with_reducible rfl|assumption|(with_reducible refine Eq.trans (if_pos ?_) ?_;focus (first|assumption|(refine gI ?_;assumption)|(refine gH ?_;assumption)|omega|(simp[Ce,G0];done)))|(with_reducible refine Eq.trans (if_neg ?_) ?_;focus (first|assumption|(refine gI ?_;assumption)|(refine gH ?_;assumption)|omega|(simp[Ce,G0];done)))|omega)),M.below⟩
theorem sV(w:World)(v:Value)(l:List Int)(h:SliceAt w v 1 l.length (l.map mY)):Calls Tryz.prog 51 #[v] w fun e w'=>e=.returned (.int .i64 (jv l))∧w=w':=by
 obtain⟨a,c,rfl,hac,Cc,HA⟩:=h.form (by decide);have H1:=alY HA;clear HA h;unfold jv;obtain⟨n,hn⟩:∃ n,n=l.length:=⟨_,rfl⟩;have HN:=alY hn;rw[← hn] at H1 hac Cc ⊢;clear hn
 go_enter Tryz.func51,Tryz.ntmps51
 go_wp2_with fail
 go_loopw [3] (fun i wr=>wr=w∧∃ k:Nat,k≤n∧i=.int .i64 k∧Hid (ah (Kj l) n 0=ah (Kj l) (n-k) k)) (fun i _=>n-(intOf i).toNat)
 case atStart=>exact⟨rfl,0,alW _,rfl,alY (by rw[Nat.sub_zero])⟩
 case round=>
  obtain⟨rfl,k,hk,rfl,hinv⟩:=hrel;by_cases hlt:k<n
  ·obtain⟨x,hx⟩:∃ x,l[k]?=some x:=⟨_,alT (by rw[← HN.out];exact hlt)⟩;obtain⟨b,off,rfl,hc⟩:=H1.out k hlt
   have k0:wr.cell? ⟨b,off+k,none⟩=some (.int .i64 x):=by
    have h:=hc 0 (.int .i64 x) (by simp[hx,mY])
    rwa [Nat.mul_one] at h
   have HF:=alY (show Kj l k=x by unfold Kj;rw[hx]);clear hx hc;by_cases hx0:x=0
   ·subst hx0
    go_wp2_with fail
    go_roundw
    case rel=>exact⟨by first|trivial|rfl,k+1,by omega,by go_num,alY (hinv.out.trans (aG hlt HF.out))⟩
    case measure=>simp[intOf];omega
   ·have d0:(x != 0)=true:=by simp[hx0]
    have HX0:=alY hx0;clear hx0
    go_wp2_with fail
    go_ret
    exact⟨dU (by rw[hinv.out,aP hlt (by rw[HF.out];exact HX0.out),HF.out]),rfl⟩
  ·obtain rfl:n=k:=by omega
   go_wp2_with fail
   go_ret
   exact⟨dU (by rw[hinv.out,aM]),rfl⟩
end Go.Proofs.YtkkmjdceiocnbaaGreatDoor

import Derived.JoinedOf
import Derived.LaidMore
import Derived.OpenShut
import Derived.ProofKit
import Derived.SizedLaws
import Derived.Stop.Joined
import Derived.Test.YtkkmjdceiocnbaaGreatDoorCards
import Derived.Test.YtkkmjdceiocnbaaGreatDoorChecked
import Derived.Test.YtkkmjdceiocnbaaGreatDoorProg
import Derived.Test.YtkkmjdceiocnbaaGreatDoorRows
import Derived.Test.YtkkmjdceiocnbaaGreatDoorTie
import Derived.Test.YtkkmjdceiocnbaaGreatDoorSTC
open Go.RowKit renaming Below→ali
open List renaming getElem?_eq_getElem→alh
set_option maxRecDepth 100000
set_option maxHeartbeats 8000000
set_option linter.unusedSectionVars false
set_option linter.unusedSimpArgs false
set_option linter.unusedVariables false
namespace Go.Proofs.YtkkmjdceiocnbaaGreatDoor
open Go Go.ChangeAt Go.ChangeShapes Go.RowKit Go.WideShapes
theorem aW{n:Nat}(h:n≤reachBytes):n≤140737488355328:=by unfold reachBytes at h;omega
theorem au{n b:Nat}(hb:0<b)(h:n*b≤reachBytes):n≤140737488355328:=aW (Nat.le_trans (Nat.le_mul_of_pos_right n hb) h)
theorem wf_i64{n:Int}(h:(Lit.int .i64 n).wf=true):gA n:=by
 have a1:IntKind.i64.min=-9223372036854775808:=by decide
 have a2:IntKind.i64.max=9223372036854775807:=by decide
 simp only[Lit.wf,a1,a2] at h;simp at h;unfold gA;omega
theorem wf_u32{n:Int}(h:(Lit.int .u32 n).wf=true):z_ n:=by
 have a1:IntKind.u32.min=0:=by decide
 have a2:IntKind.u32.max=4294967295:=by decide
 simp only[Lit.wf,a1,a2] at h;simp at h;unfold z_;omega
theorem wf_u64{n:Int}(h:(Lit.int .u64 n).wf=true):∃ m:Nat,n=m∧fA m:=by
 have a1:IntKind.u64.min=0:=by decide
 have a2:IntKind.u64.max=18446744073709551615:=by decide
 simp only[Lit.wf,a1,a2] at h;simp at h;exact⟨n.toNat,by omega,by unfold fA;omega⟩
theorem aI{w:World}{f:Nat}{cs:List Value}(h:Rd Tryz.prog w f 77 cs):∃ s:aE,cs=s.cells∧s.Ok:=by
 obtain⟨f',rfl,es,rfl,hn,hx⟩:=h.array Tryz.underlying77
 match es,hn with
 | [e0,e1,e2,e3],_=>
  obtain⟨A,rfl,hA⟩:=(hx e0 (by simp)).2.int Tryz.underlying59;obtain⟨B,rfl,hB⟩:=(hx e1 (by simp)).2.int Tryz.underlying59;obtain⟨C,rfl,hC⟩:=(hx e2 (by simp)).2.int Tryz.underlying59;obtain⟨D,rfl,hD⟩:=(hx e3 (by simp)).2.int Tryz.underlying59;obtain⟨a,rfl,ha⟩:=wf_u64 hA;obtain⟨b,rfl,hb⟩:=wf_u64 hB;obtain⟨c,rfl,hc⟩:=wf_u64 hC;obtain⟨d,rfl,hd⟩:=wf_u64 hD;exact⟨⟨a,b,c,d⟩,rfl,ha,hb,hc,hd⟩
theorem dR{w:World}{f:Nat}{cs:List Value}(h:Rd Tryz.prog w f 61 cs):∃ x:iL,cs=x.cells∧x.Ok:=by
 obtain⟨f',rfl,h⟩:=h.struct Tryz.underlying61;obtain⟨c0,_,rfl,-,r0,c1,_,rfl,-,r1,hn⟩:=h;obtain rfl:_=[]:=hn;obtain⟨A,rfl,hA⟩:=r0.int Tryz.underlying3;obtain⟨B',rfl,hB'⟩:=r1.int Tryz.underlying59;obtain⟨B,rfl,hB⟩:=wf_u64 hB';exact⟨⟨A,B⟩,rfl,⟨wf_i64 hA,hB⟩⟩
theorem dP{w:World}{f:Nat}{cs:List Value}(h:Rd Tryz.prog w f 63 cs):∃ x:mS,cs=x.cells∧x.Ok:=by
 obtain⟨f',rfl,h⟩:=h.struct Tryz.underlying63;obtain⟨c0,_,rfl,-,r0,c1,_,rfl,-,r1,hn⟩:=h;obtain rfl:_=[]:=hn;obtain⟨A,rfl,hA⟩:=dR r0;obtain⟨B,rfl,hB⟩:=dR r1;exact⟨⟨A,B⟩,rfl,⟨hA,hB⟩⟩
theorem fu{w:World}{f:Nat}{cs:List Value}(h:Rd Tryz.prog w f 65 cs):∃ x:eG,cs=x.cells∧x.Ok:=by
 obtain⟨f',rfl,h⟩:=h.struct Tryz.underlying65;obtain⟨c0,_,rfl,-,r0,c1,_,rfl,-,r1,c2,_,rfl,-,r2,c3,_,rfl,-,r3,hn⟩:=h;obtain rfl:_=[]:=hn;obtain⟨A,rfl,hA⟩:=r0.int Tryz.underlying3;obtain⟨B,rfl,hB⟩:=r1.int Tryz.underlying3;obtain⟨C,rfl,hC⟩:=r2.int Tryz.underlying3;obtain⟨D,rfl,hD⟩:=dP r3;exact⟨⟨A,B,C,D⟩,rfl,⟨wf_i64 hA,wf_i64 hB,wf_i64 hC,hD⟩⟩
theorem aC{α:Type}{Q:List Value→Prop}{R:List Value→α→Prop}(one:∀ cs,Q cs→∃ x,R cs x):∀ es:List (List Value),(∀ x∈es,Q x)→∃ l:List α,es.length=l.length∧(∀ (i:Nat) x y,es[i]?=some x→l[i]?=some y→R x y)
 | [],_=>⟨[],rfl,fun i x y h=>by simp at h⟩
 | e::es,h=>by
  obtain⟨x,hx⟩:=one e (h e (by simp));obtain⟨l,h1,h2⟩:=aC one es fun y hy=>h y (by simp[hy])
  refine⟨x::l,by simp[h1],fun i y z hy hz=>?_⟩
  cases i with
  | zero=>simp at hy hz;subst hy hz;exact hx
  | succ i=>exact h2 i y z (by simpa using hy) (by simpa using hz)
theorem aK{α:Type}{R:List Value→α→Prop}{B:α→Prop}{es:List (List Value)}{l:List α}(hl:es.length=l.length)(h:∀ (i:Nat) x y,es[i]?=some x→l[i]?=some y→R x y∧B y):∀ y∈l,B y:=by
 intro y hy;obtain⟨i,hi⟩:=List.getElem?_of_mem hy;have hlt:=(List.getElem?_eq_some_iff.1 hi).1;exact(h i _ y (alh (by omega)) hi).2
theorem aO{α:Type}{cells:α→List Value}:∀ {es:List (List Value)} {l:List α},es.length=l.length→(∀ (i:Nat) x y,es[i]?=some x→l[i]?=some y→x=cells y)→es.flatten=l.flatMap cells
 | [],[],_,_=>rfl
 | [],_::_,h,_=>by simp at h
 | _::_,[],h,_=>by simp at h
 | e::es,x::l,h,hr=>by
  rw[List.flatten_cons,List.flatMap_cons,hr 0 e x rfl rfl,aO (es:=es) (l:=l) (by simpa using h) fun i a b ha hb=>hr (i+1) a b (by simpa using ha) (by simpa using hb)]
theorem k_{w:World}{f:Nat}{cs:List Value}(h:Rd Tryz.prog w f 9 cs):∃ x,cs=aR x∧bW x:=by
 obtain⟨s,rfl,hs⟩:=h.string Tryz.underlying9;exact⟨s,rfl,aW hs⟩
theorem bU{w:World}{f:Nat}{cs:List Value}(h:Rd Tryz.prog w f 28 cs):∃ v,∃ l:List ByteArray,cs=[v]∧SliceAt w v 1 l.length (l.flatMap aR)∧(∀ x∈l,bW x)∧fU l.length:=by
 obtain⟨f',v,rfl,rfl,es,h1,h2,h3⟩:=h.slice Tryz.underlying28;rw[show Tryz.prog.cellsOf 9=1 from by kernel_rfl] at h1;obtain⟨l,e1,e2⟩:=aC (R:=fun cs (x:ByteArray)=>cs=aR x∧bW x) (fun cs h=>k_ h.2) es h2;rw[aO e1 fun i x y hx hy=>(e2 i x y hx hy).1,e1] at h1;rw[e1] at h3;exact⟨v,l,rfl,h1,aK e1 e2,au (of_decide_eq_true (by kernel_rfl)) h3⟩
theorem eX{w:World}:∀ (f:Nat) (cs:List Value),Rd Tryz.prog w f 84 cs→∃ e,bq w cs e∧e.Ok:=by
 intro f
 induction f using Nat.strongRecOn with
 | ind f ih=>
  intro cs h;obtain⟨f',rfl,h⟩:=h.struct Tryz.underlying84;obtain⟨c0,_,rfl,-,r0,c1,_,rfl,-,r1,c2,_,rfl,-,r2,c3,_,rfl,-,r3,c4,_,rfl,-,r4,c5,_,rfl,-,r5,c6,_,rfl,-,r6,hn⟩:=h;obtain rfl:_=[]:=hn;obtain⟨A,rfl,hA⟩:=r0.int Tryz.underlying3;obtain⟨B,rfl,hB⟩:=r1.int Tryz.underlying3;obtain⟨C,rfl,hC⟩:=r2.int Tryz.underlying3;obtain⟨D,rfl,hD⟩:=r3.int Tryz.underlying3;obtain⟨nv,ns,rfl,hns,hno,hnl⟩:=bU r4;obtain⟨s,rfl,hs⟩:=aI r5;obtain⟨f'',kv,rfl,rfl,es,h1,h2,h3⟩:=r6.slice Tryz.underlying29;rw[show Tryz.prog.cellsOf 84=10 from by kernel_rfl] at h1 h2;obtain⟨l,e1,e2⟩:=aC (R:=fun cs (x:aS)=>bq w cs x∧x.Ok) (fun cs h=>ih f'' (by omega) cs h.2) es h2;rw[e1] at h1 h3;exact⟨.node A B C D ns s l,.node hns e1 (fun x hx=>(h2 x hx).1) h1 fun i x y hx hy=>(e2 i x y hx hy).1,.node (wf_i64 hA) (wf_i64 hB) (wf_i64 hC) (wf_i64 hD) ⟨hnl,hno⟩ hs (au (of_decide_eq_true (by kernel_rfl)) h3) (aK e1 e2)⟩
theorem iE{w:World}{f:Nat}{cs:List Value}(h:Rd Tryz.prog w f 142 cs):∃ x:bY,cs=x.cells∧x.oo:=by
 obtain⟨f',rfl,h⟩:=h.struct Tryz.underlying142;obtain⟨c0,_,rfl,-,r0,c1,_,rfl,-,r1,c2,_,rfl,-,r2,c3,_,rfl,-,r3,c4,_,rfl,-,r4,c5,_,rfl,-,r5,c6,_,rfl,-,r6,hn⟩:=h;obtain rfl:_=[]:=hn;obtain⟨A,rfl,hA⟩:=r0.int Tryz.underlying3;obtain⟨B,rfl,hB⟩:=aI r1;obtain⟨C,rfl,hC⟩:=aI r2;obtain⟨D,rfl⟩:=r3.bool Tryz.underlying4;obtain⟨E,rfl,hE⟩:=r4.int Tryz.underlying3;obtain⟨F,rfl,hF⟩:=r5.int Tryz.underlying68;obtain⟨G,rfl,hG⟩:=r6.int Tryz.underlying3;exact⟨⟨A,B,C,D,E,F,G⟩,rfl,⟨wf_i64 hA,hB,hC,wf_i64 hE,wf_u32 hF,wf_i64 hG⟩⟩
theorem jF{w:World}{f:Nat}{cs:List Value}(h:Rd Tryz.prog w f 30 cs):∃ v,∃ l:List bY,cs=[v]∧SliceAt w v 13 l.length (l.flatMap bY.cells)∧(∀ x∈l,bY.oo x)∧fU l.length:=by
 obtain⟨f',v,rfl,rfl,es,h1,h2,h3⟩:=h.slice Tryz.underlying30;rw[show Tryz.prog.cellsOf 142=13 from by kernel_rfl] at h1;obtain⟨l,e1,e2⟩:=aC (R:=fun cs (x:bY)=>cs=bY.cells x∧bY.oo x) (fun cs h=>iE h.2) es h2;rw[aO e1 fun i x y hx hy=>(e2 i x y hx hy).1,e1] at h1;rw[e1] at h3;exact⟨v,l,rfl,h1,aK e1 e2,au (of_decide_eq_true (by kernel_rfl)) h3⟩
theorem jN{w:World}{f:Nat}{cs:List Value}(h:Rd Tryz.prog w f 134 cs):∃ x:fH,cs=x.cells∧x.Ok:=by
 obtain⟨f',rfl,h⟩:=h.struct Tryz.underlying134;obtain⟨c0,_,rfl,-,r0,c1,_,rfl,-,r1,hn⟩:=h;obtain rfl:_=[]:=hn;obtain⟨A,rfl,hA⟩:=r0.string Tryz.underlying9;obtain⟨B,rfl,hB⟩:=aI r1;exact⟨⟨A,B⟩,rfl,⟨aW hA,hB⟩⟩
theorem lS{w:World}{f:Nat}{cs:List Value}(h:Rd Tryz.prog w f 24 cs):∃ v,∃ l:List fH,cs=[v]∧SliceAt w v 5 l.length (l.flatMap fH.cells)∧(∀ x∈l,fH.Ok x)∧fU l.length:=by
 obtain⟨f',v,rfl,rfl,es,h1,h2,h3⟩:=h.slice Tryz.underlying24;rw[show Tryz.prog.cellsOf 134=5 from by kernel_rfl] at h1;obtain⟨l,e1,e2⟩:=aC (R:=fun cs (x:fH)=>cs=fH.cells x∧fH.Ok x) (fun cs h=>jN h.2) es h2;rw[aO e1 fun i x y hx hy=>(e2 i x y hx hy).1,e1] at h1;rw[e1] at h3;exact⟨v,l,rfl,h1,aK e1 e2,au (of_decide_eq_true (by kernel_rfl)) h3⟩
theorem jH{w:World}{f:Nat}{cs:List Value}(h:Rd Tryz.prog w f 136 cs):∃ x:dI,cs=x.cells∧x.Ok:=by
 obtain⟨f',rfl,h⟩:=h.struct Tryz.underlying136;obtain⟨c0,_,rfl,-,r0,c1,_,rfl,-,r1,c2,_,rfl,-,r2,hn⟩:=h;obtain rfl:_=[]:=hn;obtain⟨A,rfl,hA⟩:=r0.string Tryz.underlying9;obtain⟨B,rfl,hB⟩:=aI r1;obtain⟨C,rfl,hC⟩:=aI r2;exact⟨⟨A,B,C⟩,rfl,⟨aW hA,hB,hC⟩⟩
theorem lM{w:World}{f:Nat}{cs:List Value}(h:Rd Tryz.prog w f 25 cs):∃ v,∃ l:List dI,cs=[v]∧SliceAt w v 9 l.length (l.flatMap dI.cells)∧(∀ x∈l,dI.Ok x)∧fU l.length:=by
 obtain⟨f',v,rfl,rfl,es,h1,h2,h3⟩:=h.slice Tryz.underlying25;rw[show Tryz.prog.cellsOf 136=9 from by kernel_rfl] at h1;obtain⟨l,e1,e2⟩:=aC (R:=fun cs (x:dI)=>cs=dI.cells x∧dI.Ok x) (fun cs h=>jH h.2) es h2;rw[aO e1 fun i x y hx hy=>(e2 i x y hx hy).1,e1] at h1;rw[e1] at h3;exact⟨v,l,rfl,h1,aK e1 e2,au (of_decide_eq_true (by kernel_rfl)) h3⟩
theorem jB{w:World}{f:Nat}{cs:List Value}(h:Rd Tryz.prog w f 138 cs):∃ x:fq,cs=x.cells∧x.Ok:=by
 obtain⟨f',rfl,h⟩:=h.struct Tryz.underlying138;obtain⟨c0,_,rfl,-,r0,c1,_,rfl,-,r1,c2,_,rfl,-,r2,c3,_,rfl,-,r3,hn⟩:=h;obtain rfl:_=[]:=hn;obtain⟨A,rfl,hA⟩:=r0.string Tryz.underlying9;obtain⟨B,rfl,hB⟩:=aI r1;obtain⟨C,rfl,hC⟩:=dR r2;obtain⟨D,rfl,hD⟩:=dP r3;exact⟨⟨A,B,C,D⟩,rfl,⟨aW hA,hB,hC,hD⟩⟩
theorem lG{w:World}{f:Nat}{cs:List Value}(h:Rd Tryz.prog w f 26 cs):∃ v,∃ l:List fq,cs=[v]∧SliceAt w v 11 l.length (l.flatMap fq.cells)∧(∀ x∈l,fq.Ok x)∧fU l.length:=by
 obtain⟨f',v,rfl,rfl,es,h1,h2,h3⟩:=h.slice Tryz.underlying26;rw[show Tryz.prog.cellsOf 138=11 from by kernel_rfl] at h1;obtain⟨l,e1,e2⟩:=aC (R:=fun cs (x:fq)=>cs=fq.cells x∧fq.Ok x) (fun cs h=>jB h.2) es h2;rw[aO e1 fun i x y hx hy=>(e2 i x y hx hy).1,e1] at h1;rw[e1] at h3;exact⟨v,l,rfl,h1,aK e1 e2,au (of_decide_eq_true (by kernel_rfl)) h3⟩
theorem jM{w:World}{f:Nat}{cs:List Value}(h:Rd Tryz.prog w f 140 cs):∃ x:fN,cs=x.cells∧x.Ok:=by
 obtain⟨f',rfl,h⟩:=h.struct Tryz.underlying140;obtain⟨c0,_,rfl,-,r0,c1,_,rfl,-,r1,hn⟩:=h;obtain rfl:_=[]:=hn;obtain⟨A,rfl,hA⟩:=r0.string Tryz.underlying9;obtain⟨B,rfl⟩:=r1.bool Tryz.underlying4;exact⟨⟨A,B⟩,rfl,⟨aW hA⟩⟩
theorem lR{w:World}{f:Nat}{cs:List Value}(h:Rd Tryz.prog w f 27 cs):∃ v,∃ l:List fN,cs=[v]∧SliceAt w v 2 l.length (l.flatMap fN.cells)∧(∀ x∈l,fN.Ok x)∧fU l.length:=by
 obtain⟨f',v,rfl,rfl,es,h1,h2,h3⟩:=h.slice Tryz.underlying27;rw[show Tryz.prog.cellsOf 140=2 from by kernel_rfl] at h1;obtain⟨l,e1,e2⟩:=aC (R:=fun cs (x:fN)=>cs=fN.cells x∧fN.Ok x) (fun cs h=>jM h.2) es h2;rw[aO e1 fun i x y hx hy=>(e2 i x y hx hy).1,e1] at h1;rw[e1] at h3;exact⟨v,l,rfl,h1,aK e1 e2,au (of_decide_eq_true (by kernel_rfl)) h3⟩
theorem jD{w:World}{f:Nat}{cs:List Value}(h:Rd Tryz.prog w f 79 cs):∃ x:dH,cs=x.cells∧x.Ok:=by
 obtain⟨f',rfl,h⟩:=h.struct Tryz.underlying79;obtain⟨c0,_,rfl,-,r0,c1,_,rfl,-,r1,c2,_,rfl,-,r2,c3,_,rfl,-,r3,c4,_,rfl,-,r4,c5,_,rfl,-,r5,c6,_,rfl,-,r6,hn⟩:=h;obtain rfl:_=[]:=hn;obtain⟨A,rfl,hA⟩:=r0.int Tryz.underlying3;obtain⟨B,rfl,hB⟩:=aI r1;obtain⟨C,rfl,hC⟩:=aI r2;obtain⟨D,rfl,hD⟩:=r3.int Tryz.underlying3;obtain⟨E,rfl,hE⟩:=r4.string Tryz.underlying9;obtain⟨F,rfl,hF⟩:=r5.int Tryz.underlying3;obtain⟨G,rfl,hG⟩:=r6.int Tryz.underlying3;exact⟨⟨A,B,C,D,E,F,G⟩,rfl,⟨wf_i64 hA,hB,hC,wf_i64 hD,aW hE,wf_i64 hF,wf_i64 hG⟩⟩
theorem lI{w:World}{f:Nat}{cs:List Value}(h:Rd Tryz.prog w f 31 cs):∃ v,∃ l:List dH,cs=[v]∧SliceAt w v 13 l.length (l.flatMap dH.cells)∧(∀ x∈l,dH.Ok x)∧fU l.length:=by
 obtain⟨f',v,rfl,rfl,es,h1,h2,h3⟩:=h.slice Tryz.underlying31;rw[show Tryz.prog.cellsOf 79=13 from by kernel_rfl] at h1;obtain⟨l,e1,e2⟩:=aC (R:=fun cs (x:dH)=>cs=dH.cells x∧dH.Ok x) (fun cs h=>jD h.2) es h2;rw[aO e1 fun i x y hx hy=>(e2 i x y hx hy).1,e1] at h1;rw[e1] at h3;exact⟨v,l,rfl,h1,aK e1 e2,au (of_decide_eq_true (by kernel_rfl)) h3⟩
theorem jG{w:World}{f:Nat}{cs:List Value}(h:Rd Tryz.prog w f 186 cs):∃ x:fE,cs=x.cells∧x.Ok:=by
 obtain⟨f',rfl,h⟩:=h.struct Tryz.underlying186;obtain⟨c0,_,rfl,-,r0,c1,_,rfl,-,r1,c2,_,rfl,-,r2,c3,_,rfl,-,r3,hn⟩:=h;obtain rfl:_=[]:=hn;obtain⟨A,rfl,hA⟩:=aI r0;obtain⟨B,rfl,hB⟩:=aI r1;obtain⟨C,rfl,hC⟩:=r2.int Tryz.underlying3;obtain⟨D,rfl,hD⟩:=r3.int Tryz.underlying3;exact⟨⟨A,B,C,D⟩,rfl,⟨hA,hB,wf_i64 hC,wf_i64 hD⟩⟩
theorem lK{w:World}{f:Nat}{cs:List Value}(h:Rd Tryz.prog w f 32 cs):∃ v,∃ l:List fE,cs=[v]∧SliceAt w v 10 l.length (l.flatMap fE.cells)∧(∀ x∈l,fE.Ok x)∧fU l.length:=by
 obtain⟨f',v,rfl,rfl,es,h1,h2,h3⟩:=h.slice Tryz.underlying32;rw[show Tryz.prog.cellsOf 186=10 from by kernel_rfl] at h1;obtain⟨l,e1,e2⟩:=aC (R:=fun cs (x:fE)=>cs=fE.cells x∧fE.Ok x) (fun cs h=>jG h.2) es h2;rw[aO e1 fun i x y hx hy=>(e2 i x y hx hy).1,e1] at h1;rw[e1] at h3;exact⟨v,l,rfl,h1,aK e1 e2,au (of_decide_eq_true (by kernel_rfl)) h3⟩
theorem jI{w:World}{f:Nat}{cs:List Value}(h:Rd Tryz.prog w f 190 cs):∃ x:fF,cs=x.cells∧x.Ok:=by
 obtain⟨f',rfl,h⟩:=h.struct Tryz.underlying190;obtain⟨c0,_,rfl,-,r0,c1,_,rfl,-,r1,c2,_,rfl,-,r2,c3,_,rfl,-,r3,hn⟩:=h;obtain rfl:_=[]:=hn;obtain⟨A,rfl,hA⟩:=aI r0;obtain⟨B,rfl,hB⟩:=aI r1;obtain⟨C,rfl,hC⟩:=r2.int Tryz.underlying3;obtain⟨D,rfl,hD⟩:=dP r3;exact⟨⟨A,B,C,D⟩,rfl,⟨hA,hB,wf_i64 hC,hD⟩⟩
theorem lN{w:World}{f:Nat}{cs:List Value}(h:Rd Tryz.prog w f 33 cs):∃ v,∃ l:List fF,cs=[v]∧SliceAt w v 13 l.length (l.flatMap fF.cells)∧(∀ x∈l,fF.Ok x)∧fU l.length:=by
 obtain⟨f',v,rfl,rfl,es,h1,h2,h3⟩:=h.slice Tryz.underlying33;rw[show Tryz.prog.cellsOf 190=13 from by kernel_rfl] at h1;obtain⟨l,e1,e2⟩:=aC (R:=fun cs (x:fF)=>cs=fF.cells x∧fF.Ok x) (fun cs h=>jI h.2) es h2;rw[aO e1 fun i x y hx hy=>(e2 i x y hx hy).1,e1] at h1;rw[e1] at h3;exact⟨v,l,rfl,h1,aK e1 e2,au (of_decide_eq_true (by kernel_rfl)) h3⟩
theorem jE{w:World}{f:Nat}{cs:List Value}(h:Rd Tryz.prog w f 145 cs):∃ x:fC,cs=x.cells∧x.Ok:=by
 obtain⟨f',rfl,h⟩:=h.struct Tryz.underlying145;obtain⟨c0,_,rfl,-,r0,c1,_,rfl,-,r1,hn⟩:=h;obtain rfl:_=[]:=hn;obtain⟨A,rfl,hA⟩:=r0.string Tryz.underlying9;obtain⟨B,rfl,hB⟩:=fu r1;exact⟨⟨A,B⟩,rfl,⟨aW hA,hB⟩⟩
theorem lJ{w:World}{f:Nat}{cs:List Value}(h:Rd Tryz.prog w f 35 cs):∃ v,∃ l:List fC,cs=[v]∧SliceAt w v 8 l.length (l.flatMap fC.cells)∧(∀ x∈l,fC.Ok x)∧fU l.length:=by
 obtain⟨f',v,rfl,rfl,es,h1,h2,h3⟩:=h.slice Tryz.underlying35;rw[show Tryz.prog.cellsOf 145=8 from by kernel_rfl] at h1;obtain⟨l,e1,e2⟩:=aC (R:=fun cs (x:fC)=>cs=fC.cells x∧fC.Ok x) (fun cs h=>jE h.2) es h2;rw[aO e1 fun i x y hx hy=>(e2 i x y hx hy).1,e1] at h1;rw[e1] at h3;exact⟨v,l,rfl,h1,aK e1 e2,au (of_decide_eq_true (by kernel_rfl)) h3⟩
theorem jJ{w:World}{f:Nat}{cs:List Value}(h:Rd Tryz.prog w f 199 cs):∃ x:fG,cs=x.cells∧x.Ok:=by
 obtain⟨f',rfl,h⟩:=h.struct Tryz.underlying199;obtain⟨c0,_,rfl,-,r0,c1,_,rfl,-,r1,c2,_,rfl,-,r2,hn⟩:=h;obtain rfl:_=[]:=hn;obtain⟨A,rfl,hA⟩:=r0.string Tryz.underlying9;obtain⟨B,rfl,hB⟩:=r1.int Tryz.underlying3;obtain⟨C,rfl,hC⟩:=fu r2;exact⟨⟨A,B,C⟩,rfl,⟨aW hA,wf_i64 hB,hC⟩⟩
theorem lO{w:World}{f:Nat}{cs:List Value}(h:Rd Tryz.prog w f 36 cs):∃ v,∃ l:List fG,cs=[v]∧SliceAt w v 9 l.length (l.flatMap fG.cells)∧(∀ x∈l,fG.Ok x)∧fU l.length:=by
 obtain⟨f',v,rfl,rfl,es,h1,h2,h3⟩:=h.slice Tryz.underlying36;rw[show Tryz.prog.cellsOf 199=9 from by kernel_rfl] at h1;obtain⟨l,e1,e2⟩:=aC (R:=fun cs (x:fG)=>cs=fG.cells x∧fG.Ok x) (fun cs h=>jJ h.2) es h2;rw[aO e1 fun i x y hx hy=>(e2 i x y hx hy).1,e1] at h1;rw[e1] at h3;exact⟨v,l,rfl,h1,aK e1 e2,au (of_decide_eq_true (by kernel_rfl)) h3⟩
theorem jO{w:World}{f:Nat}{cs:List Value}(h:Rd Tryz.prog w f 203 cs):∃ x:fI,cs=x.cells∧x.Ok:=by
 obtain⟨f',rfl,h⟩:=h.struct Tryz.underlying203;obtain⟨c0,_,rfl,-,r0,c1,_,rfl,-,r1,c2,_,rfl,-,r2,c3,_,rfl,-,r3,hn⟩:=h;obtain rfl:_=[]:=hn;obtain⟨A,rfl,hA⟩:=r0.string Tryz.underlying9;obtain⟨B,rfl,hB⟩:=r1.int Tryz.underlying3;obtain⟨C,rfl,hC⟩:=aI r2;obtain⟨D,rfl,hD⟩:=aI r3;exact⟨⟨A,B,C,D⟩,rfl,⟨aW hA,wf_i64 hB,hC,hD⟩⟩
theorem lT{w:World}{f:Nat}{cs:List Value}(h:Rd Tryz.prog w f 37 cs):∃ v,∃ l:List fI,cs=[v]∧SliceAt w v 10 l.length (l.flatMap fI.cells)∧(∀ x∈l,fI.Ok x)∧fU l.length:=by
 obtain⟨f',v,rfl,rfl,es,h1,h2,h3⟩:=h.slice Tryz.underlying37;rw[show Tryz.prog.cellsOf 203=10 from by kernel_rfl] at h1;obtain⟨l,e1,e2⟩:=aC (R:=fun cs (x:fI)=>cs=fI.cells x∧fI.Ok x) (fun cs h=>jO h.2) es h2;rw[aO e1 fun i x y hx hy=>(e2 i x y hx hy).1,e1] at h1;rw[e1] at h3;exact⟨v,l,rfl,h1,aK e1 e2,au (of_decide_eq_true (by kernel_rfl)) h3⟩
theorem jL{w:World}{f:Nat}{cs:List Value}(h:Rd Tryz.prog w f 131 cs):∃ x:gi,kW w cs x∧x.Ok:=by
 obtain⟨f',rfl,h⟩:=h.struct Tryz.underlying131;obtain⟨c0,_,rfl,-,r0,c1,_,rfl,-,r1,hn⟩:=h;obtain rfl:_=[]:=hn;obtain⟨A,rfl,hA⟩:=r0.string Tryz.underlying9;obtain⟨vB,B,rfl,sB,aB,lB⟩:=bU r1;exact⟨⟨A,B⟩,⟨vB,rfl,sB⟩,⟨aW hA,⟨lB,aB⟩⟩⟩
theorem lQ{w:World}{f:Nat}{cs:List Value}(h:Rd Tryz.prog w f 22 cs):∃ v,∃ l:List gi,cs=[v]∧aj 2 (kW w) w v l∧(∀ x∈l,gi.Ok x)∧fU l.length:=by
 obtain⟨f',v,rfl,rfl,es,h1,h2,h3⟩:=h.slice Tryz.underlying22;rw[show Tryz.prog.cellsOf 131=2 from by kernel_rfl] at h1 h2;obtain⟨l,e1,e2⟩:=aC (R:=fun cs (x:gi)=>kW w cs x∧gi.Ok x) (fun cs h=>jL h.2) es h2;rw[e1] at h1 h3;exact⟨v,l,rfl,⟨es,e1,fun x hx=>(h2 x hx).1,h1,fun i x y hx hy=>(e2 i x y hx hy).1⟩,aK e1 e2,au (of_decide_eq_true (by kernel_rfl)) h3⟩
theorem jC{w:World}{f:Nat}{cs:List Value}(h:Rd Tryz.prog w f 81 cs):∃ x:gh,jk w cs x∧x.Ok:=by
 obtain⟨f',rfl,h⟩:=h.struct Tryz.underlying81;obtain⟨c0,_,rfl,-,r0,c1,_,rfl,-,r1,c2,_,rfl,-,r2,hn⟩:=h;obtain rfl:_=[]:=hn;obtain⟨A,rfl,hA⟩:=r0.string Tryz.underlying9;obtain⟨vB,B,rfl,sB,aB,lB⟩:=bU r1;obtain⟨C,rfl⟩:=r2.bool Tryz.underlying4;exact⟨⟨A,B,C⟩,⟨vB,rfl,sB⟩,⟨aW hA,⟨lB,aB⟩⟩⟩
theorem lH{w:World}{f:Nat}{cs:List Value}(h:Rd Tryz.prog w f 23 cs):∃ v,∃ l:List gh,cs=[v]∧aj 3 (jk w) w v l∧(∀ x∈l,gh.Ok x)∧fU l.length:=by
 obtain⟨f',v,rfl,rfl,es,h1,h2,h3⟩:=h.slice Tryz.underlying23;rw[show Tryz.prog.cellsOf 81=3 from by kernel_rfl] at h1 h2;obtain⟨l,e1,e2⟩:=aC (R:=fun cs (x:gh)=>jk w cs x∧gh.Ok x) (fun cs h=>jC h.2) es h2;rw[e1] at h1 h3;exact⟨v,l,rfl,⟨es,e1,fun x hx=>(h2 x hx).1,h1,fun i x y hx hy=>(e2 i x y hx hy).1⟩,aK e1 e2,au (of_decide_eq_true (by kernel_rfl)) h3⟩
theorem jK{w:World}{f:Nat}{cs:List Value}(h:Rd Tryz.prog w f 86 cs):∃ x:ij,kV w cs x∧x.Ok:=by
 obtain⟨f',rfl,h⟩:=h.struct Tryz.underlying86;obtain⟨c0,_,rfl,-,r0,c1,_,rfl,-,r1,c2,_,rfl,-,r2,c3,_,rfl,-,r3,hn⟩:=h;obtain rfl:_=[]:=hn;obtain⟨A,rfl,hA⟩:=r0.int Tryz.underlying3;obtain⟨B,rfl,hB⟩:=r1.int Tryz.underlying68;obtain⟨C,rfl⟩:=r2.bool Tryz.underlying4;obtain⟨D,sD,hD⟩:=eX _ _ r3;exact⟨⟨A,B,C,D⟩,⟨_,by simp,sD⟩,⟨wf_i64 hA,wf_u32 hB,hD⟩⟩
theorem lP{w:World}{f:Nat}{cs:List Value}(h:Rd Tryz.prog w f 34 cs):∃ v,∃ l:List ij,cs=[v]∧aj 13 (kV w) w v l∧(∀ x∈l,ij.Ok x)∧fU l.length:=by
 obtain⟨f',v,rfl,rfl,es,h1,h2,h3⟩:=h.slice Tryz.underlying34;rw[show Tryz.prog.cellsOf 86=13 from by kernel_rfl] at h1 h2;obtain⟨l,e1,e2⟩:=aC (R:=fun cs (x:ij)=>kV w cs x∧ij.Ok x) (fun cs h=>jK h.2) es h2;rw[e1] at h1 h3;exact⟨v,l,rfl,⟨es,e1,fun x hx=>(h2 x hx).1,h1,fun i x y hx hy=>(e2 i x y hx hy).1⟩,aK e1 e2,au (of_decide_eq_true (by kernel_rfl)) h3⟩
theorem lE{w:World}{f:Nat}{cs:List Value}(h:Rd Tryz.prog w f 29 cs):∃ v,∃ l:List aS,cs=[v]∧aj 10 (bq w) w v l∧(∀ x∈l,aS.Ok x)∧fU l.length:=by
 obtain⟨f',v,rfl,rfl,es,h1,h2,h3⟩:=h.slice Tryz.underlying29;rw[show Tryz.prog.cellsOf 84=10 from by kernel_rfl] at h1 h2;obtain⟨l,e1,e2⟩:=aC (R:=fun cs (x:aS)=>bq w cs x∧aS.Ok x) (fun cs h=>eX _ _ h.2) es h2;rw[e1] at h1 h3;exact⟨v,l,rfl,⟨es,e1,fun x hx=>(h2 x hx).1,h1,fun i x y hx hy=>(e2 i x y hx hy).1⟩,aK e1 e2,au (of_decide_eq_true (by kernel_rfl)) h3⟩
theorem nJ{w:World}{u:Value}(h:Arg Tryz.prog w 39 u):∃ c0 c1 c2 c3 c4 c5 c6 c7 c8 c9 c10 c11 c12 c13 c14 c15 c16:Value,∃ p:aD,u=.agg #[c0,c1,c2,c3,c4,c5,c6,c7,c8,c9,c10,c11,c12,c13,c14,c15,c16]∧aA w c0 c1 c2 c3 c4 c5 c6 c7 c8 c9 c10 c11 c12 c13 c14 c15 c16 p∧p.Ok:=by
 obtain⟨f,cs,h,rfl⟩:=h;rw[Tryz.underlying39];obtain⟨f',rfl,h⟩:=h.struct Tryz.underlying39;obtain⟨c0,_,rfl,-,r0,c1,_,rfl,-,r1,c2,_,rfl,-,r2,c3,_,rfl,-,r3,c4,_,rfl,-,r4,c5,_,rfl,-,r5,c6,_,rfl,-,r6,c7,_,rfl,-,r7,c8,_,rfl,-,r8,c9,_,rfl,-,r9,c10,_,rfl,-,Pg,c11,_,rfl,-,Pf,c12,_,rfl,-,Pc,c13,_,rfl,-,Pb,c14,_,rfl,-,O_,c15,_,rfl,-,O9,c16,_,rfl,-,r16,hn⟩:=h;obtain rfl:_=[]:=hn;obtain⟨v0,l0,rfl,s0,o0,b0⟩:=lQ r0;obtain⟨v1,l1,rfl,s1,o1,b1⟩:=lH r1;obtain⟨v2,l2,rfl,s2,o2,b2⟩:=lS r2;obtain⟨v3,l3,rfl,s3,o3,b3⟩:=lM r3;obtain⟨v4,l4,rfl,s4,o4,b4⟩:=lG r4;obtain⟨v5,l5,rfl,s5,o5,b5⟩:=lR r5;obtain⟨v6,l6,rfl,s6,o6,b6⟩:=bU r6;obtain⟨v7,l7,rfl,s7,o7,b7⟩:=bU r7;obtain⟨v8,l8,rfl,s8,o8,b8⟩:=lE r8;obtain⟨v9,l9,rfl,s9,o9,b9⟩:=jF r9;obtain⟨v10,RA,rfl,s10,SE,b10⟩:=lI Pg;obtain⟨v11,Rz,rfl,FC,SD,b11⟩:=lK Pf;obtain⟨v12,Ry,rfl,s12,SC,b12⟩:=lN Pc;obtain⟨KF,Ql,rfl,FA,SA,b13⟩:=lP Pb;obtain⟨HY,Qk,rfl,Fz,Sz,b14⟩:=lJ O_;obtain⟨KE,Qj,rfl,Eh,Sy,b15⟩:=lO O9;obtain⟨HV,Qi,rfl,Mq,Sx,b16⟩:=lT r16;exact⟨v0,v1,v2,v3,v4,v5,v6,v7,v8,v9,v10,v11,v12,KF,HY,KE,HV,⟨l0,l1,l2,l3,l4,l5,l6,l7,l8,l9,RA,Rz,Ry,Ql,Qk,Qj,Qi⟩,rfl,⟨s0,s1,s2,s3,s4,s5,s6,s7,s8,s9,s10,FC,s12,FA,Fz,Eh,Mq⟩,⟨o0,b0,o1,b1,o2,b2,o3,b3,o4,b4,o5,b5,o6,b6,o7,b7,o8,b8,o9,b9,SE,b10,SD,b11,SC,b12,SA,b13,Sz,b14,Sy,b15,Sx,b16⟩⟩
end Go.Proofs.YtkkmjdceiocnbaaGreatDoor
namespace Go.Proofs.YtkkmjdceiocnbaaGreatDoor
open Go Go.RowKit
theorem Ab:(Tryz.prog.info? 75).bind (·.zero)=some (.agg #[.int .i64 0,.int .i64 0,.int .i64 0,.int .i64 0]):=by kernel_rfl
theorem aA.f11{w:World}{c0 c1 c2 c3 c4 c5 c6 c7 c8 c9 c10 c11 c12 c13 c14 c15 c16:Value}{p:aD}(h:aA w c0 c1 c2 c3 c4 c5 c6 c7 c8 c9 c10 c11 c12 c13 c14 c15 c16 p):∃ a c,c11=.slice a p.ay.length c∧p.ay.length≤c∧p.ay.length≤9223372036854775807:=dJ h.ay (by decide)
theorem tQ:(Tryz.prog.info? 84).map (·.size)=some 10:=by kernel_rfl
theorem ju:∀ (m:Nat) (w:World) (cs:List Value) (e:aS),m≤13→bq w cs e→Calls Tryz.prog 72 #[.agg cs.toArray,.int .i64 (m:Int)] w fun r w'=>r=.returned (.int .i64 (aL m e))∧ali w.heap.size w w':=by
 intro m
 induction m with
 | zero=>
  intro w cs e _ h;obtain⟨_,_,rfl,hn,hk⟩:=h.open;obtain⟨_,_,rfl,-⟩:=aN.get hn;obtain⟨_,_,rfl,-⟩:=aj.form hk (by decide);refine bM [] (fn:=Tryz.f72) Tryz.func72 rfl Tryz.ntmps72 rfl<|fun g1 w1 M1=>?_
  exact an (fun _ M=>⟨rfl,M.below⟩) fun h=>by simp at h
 | succ m ih=>
  intro w cs e hm h;obtain⟨_,_,rfl,hn,hk⟩:=h.open;obtain⟨_,_,rfl,-⟩:=aN.get hn;obtain⟨_,_,rfl,-,hkm,-⟩:=aj.form hk (by decide);refine bM [] (fn:=Tryz.f72) Tryz.func72 rfl Tryz.ntmps72 rfl<|fun g1 w1 M1=>?_
  refine an (fun h=>by simp at h;omega) fun _=>?_
  refine lr (ι:=Nat) (fun k=>[(5,.int .i64 (dY (fun i=>match e.kids[i]? with|some k=>aL m k|none=>0) k)),(6,.int .i64 (k:Int))]) (fun k _=>k≤e.kids.length) (fun k=>e.kids.length-k) 0 (an ⟨⟨rfl,rfl,trivial⟩,fun M=>⟨M,Nat.zero_le _⟩⟩ ?_);intro k w M hkl;have hx:=eK (fun i=>match e.kids[i]? with|some k=>aL m k|none=>0) k
  have hz:=lA (f:=fun i=>match e.kids[i]? with|some k=>aL m k|none=>0) (b:=m) (by omega) k fun i _=>by
   split
   ·exact(iG m _).2
   ·omega
  refine lb 0<|an rfl<|an (fun h1=>?_) fun h1=>?_
  ·have hlt:k<e.kids.length:=by simp at h1;omega
   obtain⟨y,hy⟩:∃ y,e.kids[k]?=some y:=⟨_,alh hlt⟩;obtain⟨b,o,_,e1,hE,hc⟩:=aj.elt hk (by decide) hy;obtain⟨_,_,rfl,hn2,hk2⟩:=hE.open;obtain⟨_,_,rfl,-⟩:=aN.get hn2;obtain⟨_,_,rfl,-⟩:=aj.form hk2 (by decide);refine lb 0<|an rfl<|ia<|an ⟨e1,rfl,hlt⟩<|lc<|an (bZ M.below hc)<|an (by omega)<|cl (v:=.int .i64 (aL m y))<|an ?_ fun w2 M2=>N9 M2 (v:=.int .i64 (dY (fun i=>match e.kids[i]? with|some k=>aL m k|none=>0) (k+1))) (fun a o ho hv=>?_)<|?_
   ·have h2:=ih _ _ y (by omega) (hE.keep M.below)
    rwa [show((m:Nat):Int)=((m+1:Nat):Int)-1 by omega] at h2
   ·rw[vA ho (aY hv) (cC hv)]
    have e2:dY (fun i=>match e.kids[i]? with|some k=>aL m k|none=>0) (k+1)=max (dY (fun i=>match e.kids[i]? with|some k=>aL m k|none=>0) k) (aL m y):=by
     show max _ (match e.kids[k]? with|some k=>aL m k|none=>0)=_;rw[hy]
    rw[e2,Int.max_def];congr 3;split<;>split<;>omega
   ·exact an (by omega)<|bk (k+1) ⟨rfl,rfl,trivial⟩ (fun M=>⟨M,by omega⟩) (by dsimp only;omega)
  ·obtain rfl:k=e.kids.length:=by simp at h1;omega
   exact an (by omega) fun M=>⟨rfl,M.below⟩
theorem cJ(w:World)(cs:List Value)(e:aS)(h:bq w cs e):Calls Tryz.prog 27 #[.agg cs.toArray] w fun r w'=>r=.returned (.int .i64 (aL 13 e))∧ali w.heap.size w w':=by
 have HE:=Lib.hid h;obtain⟨nv,kv,hcs,-,-⟩:=h.open;rw[hcs] at HE;subst hcs;clear h;show Calls Tryz.prog 27 #[.agg #[.int .i64 e.op,.int .i64 e.a,.int .i64 e.rel,.int .i64 e.b,nv,.int .u64 e.set.a,.int .u64 e.set.b,.int .u64 e.set.c,.int .u64 e.set.d,kv]] w _;obtain⟨wo,cG⟩:∃ wo,wo=(w).alloc (.cells #[.int .i64 e.op,.int .i64 e.a,.int .i64 e.rel,.int .i64 e.b,nv,.int .u64 e.set.a,.int .u64 e.set.b,.int .u64 e.set.c,.int .u64 e.set.d,kv] 84):=⟨_,rfl⟩;have W0:=Lib.hid (show Whole wo w.heap.size 84 #[.int .i64 e.op,.int .i64 e.a,.int .i64 e.rel,.int .i64 e.b,nv,.int .u64 e.set.a,.int .u64 e.set.b,.int .u64 e.set.c,.int .u64 e.set.d,kv] by rw[cG];exact(Whole.new w 84 _));have iF:=Lib.hid (show ali w.heap.size w wo by rw[cG];exact((Below.refl _ w).alloc (Nat.le_refl _) _))
 go_enter Tryz.func27,Tryz.ntmps27
 go_upto_region 1 with(fail)
 rw[← cG];clear cG
 go_wp2_with (first|(refine wpList_load_row rfl 84 _ rfl (w.heap.size) rfl 84 _ (0,0) _ W0.out Tryz.underlying84 rfl tQ ?_)|(go_at_call 72;go_must (refine(ju 13 wo _ e (by omega) (bq.keep iF.out HE.out)).mono ?_;rintro r w1 ⟨rfl,hb1⟩;have Ku:=Lib.hid hb1;clear hb1)))
 go_ret
 exact⟨rfl,iF.out.trans (Ku.out.mono iF.out.size)⟩
theorem tC.no{v u:Value}{l r:List Nat}{e:Int}(he:e≠0)(h:tC v l u r e):u=.slice none 0 0:=by unfold tC at h;rwa [if_neg he] at h
theorem ld(w0:World)(c0 c1 c2 c3 c4 c5 c6 c7 c8 c9 c10 c11 c12 c13 c14 c15 c16:Value)(p:aD)(hp:aA w0 c0 c1 c2 c3 c4 c5 c6 c7 c8 c9 c10 c11 c12 c13 c14 c15 c16 p)(hok:p.Ok):Calls Tryz.prog 11 #[.agg #[c0,c1,c2,c3,c4,c5,c6,c7,c8,c9,c10,c11,c12,c13,c14,c15,c16]] w0 (fun(e:Ending) (w':World)=>∃ v,e=.returned v∧∃ b:Bool,v=.bool b∧(b=true→p.fM)∧ali w0.heap.size w0 w'):=by
 obtain⟨_,_,_,_,_,_,_,_,_,_,_,_,_,_,_,_,_,_,_,_,_,_,_,_,_,_,_,_,_,_,_,_,_,_,rfl,rfl,rfl,rfl,rfl,rfl,rfl,rfl,rfl,rfl,rfl,rfl,rfl,rfl,rfl,rfl,rfl⟩:=hp.open;have tr:=fun m h=>SliceAt.elt (i:=m) hp.trans (fun _=>rfl) (by decide) (alh h) h
 obtain⟨_,_,e1,-,-,ty⟩:=aj.form hp.types (by decide);obtain⟨_,_,e8,-,-,cd⟩:=aj.form hp.conds (by decide);obtain⟨_,_,e13,-,-,cn⟩:=aj.form hp.cons (by decide);injection e1 with e1;injection e8 with e8;injection e13 with e13;subst e1 e8 e13;have no:∀ w,ali w0.heap.size w0 w→∃ v,Ending.returned (rG [Value.bool false])=.returned v∧∃ b:Bool,v=.bool b∧(b=true→p.fM)∧ali w0.heap.size w0 w:=fun w h=>⟨_,rfl,false,rfl,(fun e=>by cases e),h⟩
 refine bM [] (fn:=Tryz.f11) Tryz.func11 rfl Tryz.ntmps11 rfl fun g1 w1 M1=>lb 0<|an rfl<|lb 0<|an (fun _=>rfl)<|lb 0<|an (fun _=>rfl)<|lb 0<|an (fun _=>rfl)<|lb 0<|an (fun _=>rfl)<|lb 0<|an (fun _=>rfl)<|lb 0<|an (fun _=>rfl)<|lb 0<|an (fun _=>rfl)<|lb 0<|an (fun _=>rfl)<|an (fun h M=>no _ M.below) fun h=>?_
 simp only[Bool.or_eq_false_iff,decide_eq_false_iff_not] at h;refine lb 0<|an rfl<|lb 0<|an (fun _=>rfl)<|lb 0<|an (fun _=>rfl)<|lb 0<|an (fun _=>rfl)<|lb 0<|an (fun _=>rfl)<|lb 0<|an (fun _=>rfl)<|lb 0<|an (fun _=>rfl)<|lb 0<|an (fun _=>rfl)<|an (fun h M=>no _ M.below) fun h'=>?_
 simp only[Bool.or_eq_false_iff,decide_eq_false_iff_not] at h';refine ei<|an Ab fun g2 w2 M2=>lp (ι:=Nat×Int×Int×Int×Int) (fun(m,_)=>[(4,.int .i64 (m:Int))]) (fun(m,n0,n1,n2,n3)=>(g2,75,#[.int .i64 n0,.int .i64 n1,.int .i64 n2,.int .i64 n3])::_) (fun _=>[]) (fun(m,n0,n1,n2,n3) _=>m≤p.trans.length∧0≤n1∧n1≤m∧0≤n2∧n2≤m∧0≤n3∧n3≤m) (fun(m,_)=>p.trans.length-m) (0,0,0,0,0) (an ⟨⟨rfl,trivial⟩,fun M=>⟨M,by omega⟩⟩ ?_)
 rintro⟨m,n0,n1,n2,n3⟩ w M hm;refine lb 1<|an rfl<|an (fun h2=>?_) fun h2=>?_
 ·simp only[decide_eq_true_eq] at h2;have hlt:m<p.trans.length:=by omega
  obtain⟨b,o,e,hc⟩:=tr m hlt;refine lb 1<|an rfl<|ia<|an ⟨e,rfl,hlt⟩<|lc<|an (cell_later M.below (hc 0 _ rfl))<|an (fun h3=>?_) fun h3=>an (by omega)<|bk (m+1,n0,n1,n2,n3) ⟨rfl,trivial⟩ (fun M=>⟨M,by omega⟩) (by dsimp only;omega)
  simp only[Bool.and_eq_true,decide_eq_true_eq] at h3;have hk:p.trans[m].kind=1∨p.trans[m].kind=2∨p.trans[m].kind=3:=by omega
  rcases hk with hk|hk|hk
  ·exact ei (x:=1)<|an ⟨hk,by decide⟩<|lb 0<|an rfl<|an (by omega)<|ei (x:=1)<|an ⟨hk,by decide⟩<|lb 0<|an ⟨rfl,rfl⟩ fun w M=>an (by omega)<|bk (m+1,n0,n1+1,n2,n3) ⟨rfl,trivial⟩ (fun M=>⟨M,by omega⟩) (by dsimp only;omega)
  ·exact ei (x:=2)<|an ⟨hk,by decide⟩<|lb 0<|an rfl<|an (by omega)<|ei (x:=2)<|an ⟨hk,by decide⟩<|lb 0<|an ⟨rfl,rfl⟩ fun w M=>an (by omega)<|bk (m+1,n0,n1,n2+1,n3) ⟨rfl,trivial⟩ (fun M=>⟨M,by omega⟩) (by dsimp only;omega)
  ·exact ei (x:=3)<|an ⟨hk,by decide⟩<|lb 0<|an rfl<|an (by omega)<|ei (x:=3)<|an ⟨hk,by decide⟩<|lb 0<|an ⟨rfl,rfl⟩ fun w M=>an (by omega)<|bk (m+1,n0,n1,n2,n3+1) ⟨rfl,trivial⟩ (fun M=>⟨M,by omega⟩) (by dsimp only;omega)
 refine lr (ι:=Nat) (fun m=>[(6,.int .i64 (m:Int))]) (fun m _=>m≤p.types.length∧∀ x∈p.types.take m,x.jg.length≤4) (fun m=>p.types.length-m) 0 (an ⟨⟨rfl,trivial⟩,fun M=>⟨M,Nat.zero_le _,by simp⟩⟩ ?_);rintro i1 w M ⟨hi1,ha⟩;refine lb 1<|an rfl<|an (fun h2=>?_) fun h2=>?_
 ·simp only[decide_eq_true_eq] at h2;obtain⟨x,hx⟩:∃ x,p.types[i1]?=some x:=⟨_,alh (by omega)⟩;obtain⟨b,o,z,rfl,⟨u,rfl,hu⟩,-,hc⟩:=ty i1 x hx;obtain⟨_,_,rfl,-⟩:=hu.get;refine lb 1<|an rfl<|ia<|an ⟨rfl,rfl,by omega⟩<|lc<|an (cell_later M.below (hc 1 _ rfl))<|an (fun h3 M=>no _ M.below) fun h3=>an (by omega)<|bk (i1+1) ⟨rfl,trivial⟩ (fun M=>⟨M,by omega,fun y hy=>?_⟩) (by dsimp only;omega)
  rw[List.take_add_one,hx] at hy;rcases List.mem_append.1 hy with hy|hy
  ·exact ha y hy
  ·obtain rfl:y=x:=by simpa using hy
   simp only[decide_eq_false_iff_not] at h3;omega
 simp only[decide_eq_false_iff_not] at h2;obtain rfl:i1=p.types.length:=by omega
 refine lr (ι:=Nat) (fun m=>[(7,.int .i64 (m:Int))]) (fun m _=>m≤p.conds.length∧∀ x∈p.conds.take m,aL 13 x≤6) (fun m=>p.conds.length-m) 0 (an ⟨⟨rfl,trivial⟩,fun M=>⟨M,Nat.zero_le _,by simp⟩⟩ ?_);rintro i2 w M ⟨hi2,hb⟩;refine lb 1<|an rfl<|an (fun h2=>?_) fun h2=>?_
 ·simp only[decide_eq_true_eq] at h2;obtain⟨x,hx⟩:∃ x,p.conds[i2]?=some x:=⟨_,alh (by omega)⟩;obtain⟨b,o,z,rfl,hz,-,hc⟩:=cd i2 x hx;obtain⟨nv,kv,rfl,-⟩:=hz.open;refine lb 1<|an rfl<|ia<|an ⟨rfl,rfl,by omega⟩<|lc<|an (bZ M.below hc)<|cl<|an (cJ _ _ x (bq.keep M.below hz)) fun w3 M3=>an (fun h3 M=>no _ M.below) fun h3=>an (by omega)<|bk (i2+1) ⟨rfl,trivial⟩ (fun M=>⟨M,by omega,fun y hy=>?_⟩) (by dsimp only;omega)
  rw[List.take_add_one,hx] at hy;rcases List.mem_append.1 hy with hy|hy
  ·exact hb y hy
  ·obtain rfl:y=x:=by simpa using hy
   simp only[decide_eq_false_iff_not] at h3;omega
 simp only[decide_eq_false_iff_not] at h2;obtain rfl:i2=p.conds.length:=by omega
 refine lr (ι:=Nat) (fun m=>[(8,.int .i64 (m:Int))]) (fun m _=>m≤p.cons.length∧∀ x∈p.cons.take m,aL 13 x.expr≤6) (fun m=>p.cons.length-m) 0 (an ⟨⟨rfl,trivial⟩,fun M=>⟨M,Nat.zero_le _,by simp⟩⟩ ?_);rintro i3 w M ⟨Xy,hcn⟩;refine lb 1<|an rfl<|an (fun h2=>?_) fun h2=>?_
 ·simp only[decide_eq_true_eq] at h2;obtain⟨x,hx⟩:∃ x,p.cons[i3]?=some x:=⟨_,alh (by omega)⟩;obtain⟨b,o,z,rfl,⟨es,rfl,hz⟩,-,hc⟩:=cn i3 x hx
  have hc3:∀ j u,es[j]?=some u→w0.cell? ⟨b,o+i3*13+3+j,none⟩=some u:=fun j u hj=>by
   have h4:=hc (j+3) u (by simpa using hj)
   rwa [show o+i3*13+(j+3)=o+i3*13+3+j by omega] at h4
  obtain⟨nv,kv,rfl,-⟩:=hz.open;refine lb 1<|an rfl<|ia<|an ⟨rfl,rfl,by omega⟩<|lc<|an (bZ M.below hc3)<|cl<|an (cJ _ _ x.expr (bq.keep M.below hz)) fun w3 M3=>an (fun h3 M=>no _ M.below) fun h3=>an (by omega)<|bk (i3+1) ⟨rfl,trivial⟩ (fun M=>⟨M,by omega,fun y hy=>?_⟩) (by dsimp only;omega)
  rw[List.take_add_one,hx] at hy;rcases List.mem_append.1 hy with hy|hy
  ·exact hcn y hy
  ·obtain rfl:y=x:=by simpa using hy
   simp only[decide_eq_false_iff_not] at h3;omega
 simp only[decide_eq_false_iff_not] at h2;obtain rfl:i3=p.cons.length:=by omega
 rw[List.take_length] at ha hb hcn;exact ei (x:=1)<|an ⟨rfl,by decide⟩<|lb 0<|an rfl<|ei (x:=2)<|an (fun _=>⟨rfl,by decide⟩)<|lb 0<|an (fun _=>rfl)<|ei (x:=3)<|an (fun _=>⟨rfl,by decide⟩)<|lb 0<|an (fun _=>rfl) fun M=>⟨_,rfl,_,rfl,fun _=>⟨by constructor<;>omega,ha,hb,hcn⟩,M.below⟩
theorem Cq{p:aD}{ver k:Int}(h:gb aZ p ver=.error k):k≠0:=by
 unfold gb at h;split at h
 ·split at h
  ·split at h
   ·injection h with h;subst h;decide
   ·cases h
  ·injection h with h;subst h;assumption
 ·injection h with h;subst h;decide
theorem oP{p:aD}{ver:Int}{l:List Nat}(h:gb aZ p ver=.ok l):∃ v:Nat,ver=(v:Int)∧1≤v∧v≤3∧aZ p=0∧cr p≤v∧l=eP (dM v p):=by
 unfold gb at h;split at h
 ·rename_i h1;split at h
  ·rename_i h2;split at h
   ·cases h
   ·rename_i h3;injection h with h;obtain⟨v,rfl⟩:=Int.eq_ofNat_of_zero_le (a:=ver) (by omega);exact⟨v,rfl,by omega,by omega,h2,by omega,by rw[← h];simp⟩
  ·cases h
 ·cases h
theorem Io{p:aD}{v:Nat}(h1:1≤v)(h3:v≤3)(hR:sw v p)(hc:aZ p=0):nW aZ (eP (dM v p))=.ok (p,v)∧wN (eP (dM v p))=.ok v:=by
 have h:=Em hR [];rw[List.append_nil] at h;have hf:=vW v h1 h3 p;constructor
 ·unfold nW;rw[hf];simp only[h,hc];rfl
 ·unfold wN;rw[hf]
theorem CU(w0:World)(c0 c1 c2 c3 c4 c5 c6 c7 c8 c9 c10 c11 c12 c13 c14 c15 c16:Value)(p:aD)(hp:aA w0 c0 c1 c2 c3 c4 c5 c6 c7 c8 c9 c10 c11 c12 c13 c14 c15 c16 p)(hok:p.Ok)(ver:Int)(hv:gA ver):Calls Tryz.prog 5 #[.agg #[c0,c1,c2,c3,c4,c5,c6,c7,c8,c9,c10,c11,c12,c13,c14,c15,c16],.int .i64 ver] w0 (fun r w'=>r=.returned (.bool true)∧ali w0.heap.size w0 w'):=by
 have hp':=hp;obtain⟨a0,a1,a2,a3,a4,a5,a6,a7,a8,a9,rF,rE,a12,rD,rC,rB,rA,k0,k1,k2,k3,k4,k5,k6,k7,k8,k9,k10,k11,k12,k13,k14,k15,k16,rfl,rfl,rfl,rfl,rfl,rfl,rfl,rfl,rfl,rfl,rfl,rfl,rfl,rfl,rfl,rfl,rfl⟩:=hp.open;refine bM [] (fn:=Tryz.f5) Tryz.func5 rfl Tryz.ntmps5 rfl<|fun g1 w1 M1=>lb 0<|an rfl<|cg<|an (ld w1 _ _ _ _ _ _ _ _ _ _ _ _ _ _ _ _ _ p (hp'.keep M1.below) hok) ?_
 rintro _ w2 ⟨b,rfl,pR,hb2⟩;have M2:=M1.keep hb2;refine⟨_,_,M2,an (fun h=>cl<|an (dW _) fun w3 M3=>fun M=>⟨rfl,M.below⟩) fun h=>?_⟩;have hs:=pR (by simpa using h);refine lb 0<|an rfl<|?_
 cases he:gb aZ p ver with
 | error k=>
  have hk:=Cq he;exact cl<|an (Cr (hp'.keep M2.below) hok hs hv he) fun w3 M3=>an (fun h=>cl<|an (fun _=>dW _) fun w4 M4=>fun M=>⟨rfl,M.below⟩) fun h=>absurd h (by simpa using hk)
 | ok l=>
  obtain⟨v,rfl,h1,h3,yE,hle,rfl⟩:=oP he;obtain⟨XC,hlen⟩:=tP hs hok yE;have hR:=XC.at hle;have NX:=uZ (kR v p);have Wh:=tR h3 (hlen v);obtain⟨EU,aci⟩:=Io h1 h3 hR yE;refine cg<|an (zB (hp'.keep M2.below) hok hs hv he) ?_;rintro _ w3 ⟨⟨ua,uc,rfl,ho⟩,fL⟩;have M3:=M2.sj (r:=bf _ (eP (dM v p))) fL ho;refine⟨_,_,M3,an (fun h=>absurd h (by simp)) fun h=>cg<|an (E8 (dV (M3.r 0 rfl) NX) Wh (Cy h1 h3 hR hok hs.md (by have:=hlen v;omega)) EU) ?_⟩;rintro _ w5 ⟨⟨c0,c1,c2,c3,c4,c5,c6,c7,c8,c9,c10,c11,c12,c13,c14,c15,c16,T,rfl,hT,oF⟩,uL⟩;have M5:=M3.vV uL hT;have hpc:=oF _ _ hT;obtain⟨_,_,_,_,_,_,_,_,_,_,_,_,_,_,_,_,_,_,_,_,_,_,_,_,_,_,_,_,_,_,_,_,_,_,rfl,rfl,rfl,rfl,rfl,rfl,rfl,rfl,rfl,rfl,rfl,rfl,rfl,rfl,rfl,rfl,rfl⟩:=hpc.open;exact⟨_,_,M5,ei<|an Ac fun g2 w6 M6=>lb 0<|an ⟨rfl,rfl⟩ fun w7 M7=>cl<|an (Oy (dV (M7.r 0 rfl) NX) Wh aci) fun w8 M8=>lb 0<|an (fun _=>rfl)<|lb 1<|an (fun _=>rfl)<|cl<|an (fun _=>zi (oF _ _ M8.pU.right) (hp'.keep M8.below) hok (hlen 3)) fun w9 M9=>cl<|an (fun _=>dW _) fun pT j3=>fun M=>⟨by simp;rfl,M.below⟩⟩
end Go.Proofs.YtkkmjdceiocnbaaGreatDoor
namespace Go.Proofs.YtkkmjdceiocnbaaGreatDoor
open Go Go.ChangeAt Go.ChangeShapes Go.RowKit Go.WideShapes
theorem Kl{P:Program}{w:World}{t u:TypeId}{vs:List Value}(h:Args P w [t,u] vs):∃ a b,vs=[a,b]∧Arg P w t a∧Arg P w u b:=by
 match vs,h with
 | [a,b],⟨h1,h2,_⟩=>exact⟨a,b,rfl,h1,h2⟩
theorem wf_i64'{n:Int}(h:(Lit.int .i64 n).wf=true):gA n:=by
 have a1:IntKind.i64.min=-9223372036854775808:=by decide
 have a2:IntKind.i64.max=9223372036854775807:=by decide
 simp only[Lit.wf,a1,a2] at h;simp at h;unfold gA;omega
theorem B0{w:World}{v:Value}(h:Arg Tryz.prog w 3 v):∃ n:Int,v=.int .i64 n∧gA n:=by
 obtain⟨f,cs,h,rfl⟩:=h;rw[Tryz.underlying3];obtain⟨n,rfl,hn⟩:=h.int Tryz.underlying3;exact⟨n,rfl,wf_i64' hn⟩
end Go.Proofs.YtkkmjdceiocnbaaGreatDoor
namespace Go.Proofs.YtkkmjdceiocnbaaGreatDoor
open Go
theorem jw3:Tryz.prog.wantsStandIn 3=false:=by kernel_rfl
theorem EN:Tryz.prog.wantsStandIn 39=false:=by kernel_rfl
end Go.Proofs.YtkkmjdceiocnbaaGreatDoor

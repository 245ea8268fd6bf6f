import Derived.JoinedOf
import Derived.LaidMore
import Derived.OpenShut
import Derived.ProofKit
import Derived.SizedLaws
import Derived.Stop.Joined
import Derived.Test.YtkkmjdceiocnbaaGreatDoorCards
import Derived.Test.YtkkmjdceiocnbaaGreatDoorChecked
import Derived.Test.YtkkmjdceiocnbaaGreatDoorProg
import Derived.Test.YtkkmjdceiocnbaaGreatDoorRows
import Derived.Test.YtkkmjdceiocnbaaGreatDoorTie
import Derived.Test.YtkkmjdceiocnbaaGreatDoorSTC
open Go.RowKit renaming Below→alE
open List renaming getElem?_eq_some_iff→alC,getElem?_eq_getElem→alD
set_option maxRecDepth 100000
set_option maxHeartbeats 8000000
set_option linter.unusedSectionVars false
set_option linter.unusedSimpArgs false
set_option linter.unusedVariables false
namespace Go.Proofs.YtkkmjdceiocnbaaGreatDoor
open Go Go.ChangeAt Go.ChangeShapes Go.RowKit Go.WideShapes
theorem aW{n:Nat}(h:n≤reachBytes):n≤140737488355328:=by unfold reachBytes at h;omega
theorem au{n b:Nat}(hb:0<b)(h:n*b≤reachBytes):n≤140737488355328:=aW (Nat.le_trans (Nat.le_mul_of_pos_right n hb) h)
theorem wf_i64{n:Int}(h:(Lit.int .i64 n).wf=true):gA n:=by
 have a1:IntKind.i64.min=-9223372036854775808:=by decide
 have a2:IntKind.i64.max=9223372036854775807:=by decide
 simp only[Lit.wf,a1,a2] at h;simp at h;unfold gA;omega
theorem wf_u32{n:Int}(h:(Lit.int .u32 n).wf=true):z_ n:=by
 have a1:IntKind.u32.min=0:=by decide
 have a2:IntKind.u32.max=4294967295:=by decide
 simp only[Lit.wf,a1,a2] at h;simp at h;unfold z_;omega
theorem wf_u64{n:Int}(h:(Lit.int .u64 n).wf=true):∃ m:Nat,n=m∧fA m:=by
 have a1:IntKind.u64.min=0:=by decide
 have a2:IntKind.u64.max=18446744073709551615:=by decide
 simp only[Lit.wf,a1,a2] at h;simp at h;exact⟨n.toNat,by omega,by unfold fA;omega⟩
theorem aI{w:World}{f:Nat}{cs:List Value}(h:Rd Tryz.prog w f 77 cs):∃ s:aE,cs=s.cells∧s.Ok:=by
 obtain⟨f',rfl,es,rfl,hn,hx⟩:=h.array Tryz.underlying77
 match es,hn with
 | [e0,e1,e2,e3],_=>
  obtain⟨A,rfl,hA⟩:=(hx e0 (by simp)).2.int Tryz.underlying59;obtain⟨B,rfl,hB⟩:=(hx e1 (by simp)).2.int Tryz.underlying59;obtain⟨C,rfl,hC⟩:=(hx e2 (by simp)).2.int Tryz.underlying59;obtain⟨D,rfl,hD⟩:=(hx e3 (by simp)).2.int Tryz.underlying59;obtain⟨a,rfl,ha⟩:=wf_u64 hA;obtain⟨b,rfl,hb⟩:=wf_u64 hB;obtain⟨c,rfl,hc⟩:=wf_u64 hC;obtain⟨d,rfl,hd⟩:=wf_u64 hD;exact⟨⟨a,b,c,d⟩,rfl,ha,hb,hc,hd⟩
theorem dR{w:World}{f:Nat}{cs:List Value}(h:Rd Tryz.prog w f 61 cs):∃ x:iL,cs=x.cells∧x.Ok:=by
 obtain⟨f',rfl,h⟩:=h.struct Tryz.underlying61;obtain⟨c0,_,rfl,-,r0,c1,_,rfl,-,r1,hn⟩:=h;obtain rfl:_=[]:=hn;obtain⟨A,rfl,hA⟩:=r0.int Tryz.underlying3;obtain⟨B',rfl,hB'⟩:=r1.int Tryz.underlying59;obtain⟨B,rfl,hB⟩:=wf_u64 hB';exact⟨⟨A,B⟩,rfl,⟨wf_i64 hA,hB⟩⟩
theorem dP{w:World}{f:Nat}{cs:List Value}(h:Rd Tryz.prog w f 63 cs):∃ x:mS,cs=x.cells∧x.Ok:=by
 obtain⟨f',rfl,h⟩:=h.struct Tryz.underlying63;obtain⟨c0,_,rfl,-,r0,c1,_,rfl,-,r1,hn⟩:=h;obtain rfl:_=[]:=hn;obtain⟨A,rfl,hA⟩:=dR r0;obtain⟨B,rfl,hB⟩:=dR r1;exact⟨⟨A,B⟩,rfl,⟨hA,hB⟩⟩
theorem fu{w:World}{f:Nat}{cs:List Value}(h:Rd Tryz.prog w f 65 cs):∃ x:eG,cs=x.cells∧x.Ok:=by
 obtain⟨f',rfl,h⟩:=h.struct Tryz.underlying65;obtain⟨c0,_,rfl,-,r0,c1,_,rfl,-,r1,c2,_,rfl,-,r2,c3,_,rfl,-,r3,hn⟩:=h;obtain rfl:_=[]:=hn;obtain⟨A,rfl,hA⟩:=r0.int Tryz.underlying3;obtain⟨B,rfl,hB⟩:=r1.int Tryz.underlying3;obtain⟨C,rfl,hC⟩:=r2.int Tryz.underlying3;obtain⟨D,rfl,hD⟩:=dP r3;exact⟨⟨A,B,C,D⟩,rfl,⟨wf_i64 hA,wf_i64 hB,wf_i64 hC,hD⟩⟩
theorem aC{α:Type}{Q:List Value→Prop}{R:List Value→α→Prop}(one:∀ cs,Q cs→∃ x,R cs x):∀ es:List (List Value),(∀ x∈es,Q x)→∃ l:List α,es.length=l.length∧(∀ (i:Nat) x y,es[i]?=some x→l[i]?=some y→R x y)
 | [],_=>⟨[],rfl,fun i x y h=>by simp at h⟩
 | e::es,h=>by
  obtain⟨x,hx⟩:=one e (h e (by simp));obtain⟨l,h1,h2⟩:=aC one es fun y hy=>h y (by simp[hy])
  refine⟨x::l,by simp[h1],fun i y z hy hz=>?_⟩
  cases i with
  | zero=>simp at hy hz;subst hy hz;exact hx
  | succ i=>exact h2 i y z (by simpa using hy) (by simpa using hz)
theorem aK{α:Type}{R:List Value→α→Prop}{B:α→Prop}{es:List (List Value)}{l:List α}(hl:es.length=l.length)(h:∀ (i:Nat) x y,es[i]?=some x→l[i]?=some y→R x y∧B y):∀ y∈l,B y:=by
 intro y hy;obtain⟨i,hi⟩:=List.getElem?_of_mem hy;have hlt:=(alC.1 hi).1;exact(h i _ y (alD (by omega)) hi).2
theorem aO{α:Type}{cells:α→List Value}:∀ {es:List (List Value)} {l:List α},es.length=l.length→(∀ (i:Nat) x y,es[i]?=some x→l[i]?=some y→x=cells y)→es.flatten=l.flatMap cells
 | [],[],_,_=>rfl
 | [],_::_,h,_=>by simp at h
 | _::_,[],h,_=>by simp at h
 | e::es,x::l,h,hr=>by
  rw[List.flatten_cons,List.flatMap_cons,hr 0 e x rfl rfl,aO (es:=es) (l:=l) (by simpa using h) fun i a b ha hb=>hr (i+1) a b (by simpa using ha) (by simpa using hb)]
theorem k_{w:World}{f:Nat}{cs:List Value}(h:Rd Tryz.prog w f 9 cs):∃ x,cs=aR x∧bW x:=by
 obtain⟨s,rfl,hs⟩:=h.string Tryz.underlying9;exact⟨s,rfl,aW hs⟩
theorem bU{w:World}{f:Nat}{cs:List Value}(h:Rd Tryz.prog w f 28 cs):∃ v,∃ l:List ByteArray,cs=[v]∧SliceAt w v 1 l.length (l.flatMap aR)∧(∀ x∈l,bW x)∧fU l.length:=by
 obtain⟨f',v,rfl,rfl,es,h1,h2,h3⟩:=h.slice Tryz.underlying28;rw[show Tryz.prog.cellsOf 9=1 from by kernel_rfl] at h1;obtain⟨l,e1,e2⟩:=aC (R:=fun cs (x:ByteArray)=>cs=aR x∧bW x) (fun cs h=>k_ h.2) es h2;rw[aO e1 fun i x y hx hy=>(e2 i x y hx hy).1,e1] at h1;rw[e1] at h3;exact⟨v,l,rfl,h1,aK e1 e2,au (of_decide_eq_true (by kernel_rfl)) h3⟩
theorem eX{w:World}:∀ (f:Nat) (cs:List Value),Rd Tryz.prog w f 84 cs→∃ e,bq w cs e∧e.Ok:=by
 intro f
 induction f using Nat.strongRecOn with
 | ind f ih=>
  intro cs h;obtain⟨f',rfl,h⟩:=h.struct Tryz.underlying84;obtain⟨c0,_,rfl,-,r0,c1,_,rfl,-,r1,c2,_,rfl,-,r2,c3,_,rfl,-,r3,c4,_,rfl,-,r4,c5,_,rfl,-,r5,c6,_,rfl,-,r6,hn⟩:=h;obtain rfl:_=[]:=hn;obtain⟨A,rfl,hA⟩:=r0.int Tryz.underlying3;obtain⟨B,rfl,hB⟩:=r1.int Tryz.underlying3;obtain⟨C,rfl,hC⟩:=r2.int Tryz.underlying3;obtain⟨D,rfl,hD⟩:=r3.int Tryz.underlying3;obtain⟨nv,ns,rfl,hns,hno,hnl⟩:=bU r4;obtain⟨s,rfl,hs⟩:=aI r5;obtain⟨f'',kv,rfl,rfl,es,h1,h2,h3⟩:=r6.slice Tryz.underlying29;rw[show Tryz.prog.cellsOf 84=10 from by kernel_rfl] at h1 h2;obtain⟨l,e1,e2⟩:=aC (R:=fun cs (x:aS)=>bq w cs x∧x.Ok) (fun cs h=>ih f'' (by omega) cs h.2) es h2;rw[e1] at h1 h3;exact⟨.node A B C D ns s l,.node hns e1 (fun x hx=>(h2 x hx).1) h1 fun i x y hx hy=>(e2 i x y hx hy).1,.node (wf_i64 hA) (wf_i64 hB) (wf_i64 hC) (wf_i64 hD) ⟨hnl,hno⟩ hs (au (of_decide_eq_true (by kernel_rfl)) h3) (aK e1 e2)⟩
theorem iE{w:World}{f:Nat}{cs:List Value}(h:Rd Tryz.prog w f 142 cs):∃ x:bY,cs=x.cells∧x.oo:=by
 obtain⟨f',rfl,h⟩:=h.struct Tryz.underlying142;obtain⟨c0,_,rfl,-,r0,c1,_,rfl,-,r1,c2,_,rfl,-,r2,c3,_,rfl,-,r3,c4,_,rfl,-,r4,c5,_,rfl,-,r5,c6,_,rfl,-,r6,hn⟩:=h;obtain rfl:_=[]:=hn;obtain⟨A,rfl,hA⟩:=r0.int Tryz.underlying3;obtain⟨B,rfl,hB⟩:=aI r1;obtain⟨C,rfl,hC⟩:=aI r2;obtain⟨D,rfl⟩:=r3.bool Tryz.underlying4;obtain⟨E,rfl,hE⟩:=r4.int Tryz.underlying3;obtain⟨F,rfl,hF⟩:=r5.int Tryz.underlying68;obtain⟨G,rfl,hG⟩:=r6.int Tryz.underlying3;exact⟨⟨A,B,C,D,E,F,G⟩,rfl,⟨wf_i64 hA,hB,hC,wf_i64 hE,wf_u32 hF,wf_i64 hG⟩⟩
theorem jF{w:World}{f:Nat}{cs:List Value}(h:Rd Tryz.prog w f 30 cs):∃ v,∃ l:List bY,cs=[v]∧SliceAt w v 13 l.length (l.flatMap bY.cells)∧(∀ x∈l,bY.oo x)∧fU l.length:=by
 obtain⟨f',v,rfl,rfl,es,h1,h2,h3⟩:=h.slice Tryz.underlying30;rw[show Tryz.prog.cellsOf 142=13 from by kernel_rfl] at h1;obtain⟨l,e1,e2⟩:=aC (R:=fun cs (x:bY)=>cs=bY.cells x∧bY.oo x) (fun cs h=>iE h.2) es h2;rw[aO e1 fun i x y hx hy=>(e2 i x y hx hy).1,e1] at h1;rw[e1] at h3;exact⟨v,l,rfl,h1,aK e1 e2,au (of_decide_eq_true (by kernel_rfl)) h3⟩
theorem jN{w:World}{f:Nat}{cs:List Value}(h:Rd Tryz.prog w f 134 cs):∃ x:fH,cs=x.cells∧x.Ok:=by
 obtain⟨f',rfl,h⟩:=h.struct Tryz.underlying134;obtain⟨c0,_,rfl,-,r0,c1,_,rfl,-,r1,hn⟩:=h;obtain rfl:_=[]:=hn;obtain⟨A,rfl,hA⟩:=r0.string Tryz.underlying9;obtain⟨B,rfl,hB⟩:=aI r1;exact⟨⟨A,B⟩,rfl,⟨aW hA,hB⟩⟩
theorem lS{w:World}{f:Nat}{cs:List Value}(h:Rd Tryz.prog w f 24 cs):∃ v,∃ l:List fH,cs=[v]∧SliceAt w v 5 l.length (l.flatMap fH.cells)∧(∀ x∈l,fH.Ok x)∧fU l.length:=by
 obtain⟨f',v,rfl,rfl,es,h1,h2,h3⟩:=h.slice Tryz.underlying24;rw[show Tryz.prog.cellsOf 134=5 from by kernel_rfl] at h1;obtain⟨l,e1,e2⟩:=aC (R:=fun cs (x:fH)=>cs=fH.cells x∧fH.Ok x) (fun cs h=>jN h.2) es h2;rw[aO e1 fun i x y hx hy=>(e2 i x y hx hy).1,e1] at h1;rw[e1] at h3;exact⟨v,l,rfl,h1,aK e1 e2,au (of_decide_eq_true (by kernel_rfl)) h3⟩
theorem jH{w:World}{f:Nat}{cs:List Value}(h:Rd Tryz.prog w f 136 cs):∃ x:dI,cs=x.cells∧x.Ok:=by
 obtain⟨f',rfl,h⟩:=h.struct Tryz.underlying136;obtain⟨c0,_,rfl,-,r0,c1,_,rfl,-,r1,c2,_,rfl,-,r2,hn⟩:=h;obtain rfl:_=[]:=hn;obtain⟨A,rfl,hA⟩:=r0.string Tryz.underlying9;obtain⟨B,rfl,hB⟩:=aI r1;obtain⟨C,rfl,hC⟩:=aI r2;exact⟨⟨A,B,C⟩,rfl,⟨aW hA,hB,hC⟩⟩
theorem lM{w:World}{f:Nat}{cs:List Value}(h:Rd Tryz.prog w f 25 cs):∃ v,∃ l:List dI,cs=[v]∧SliceAt w v 9 l.length (l.flatMap dI.cells)∧(∀ x∈l,dI.Ok x)∧fU l.length:=by
 obtain⟨f',v,rfl,rfl,es,h1,h2,h3⟩:=h.slice Tryz.underlying25;rw[show Tryz.prog.cellsOf 136=9 from by kernel_rfl] at h1;obtain⟨l,e1,e2⟩:=aC (R:=fun cs (x:dI)=>cs=dI.cells x∧dI.Ok x) (fun cs h=>jH h.2) es h2;rw[aO e1 fun i x y hx hy=>(e2 i x y hx hy).1,e1] at h1;rw[e1] at h3;exact⟨v,l,rfl,h1,aK e1 e2,au (of_decide_eq_true (by kernel_rfl)) h3⟩
theorem jB{w:World}{f:Nat}{cs:List Value}(h:Rd Tryz.prog w f 138 cs):∃ x:fq,cs=x.cells∧x.Ok:=by
 obtain⟨f',rfl,h⟩:=h.struct Tryz.underlying138;obtain⟨c0,_,rfl,-,r0,c1,_,rfl,-,r1,c2,_,rfl,-,r2,c3,_,rfl,-,r3,hn⟩:=h;obtain rfl:_=[]:=hn;obtain⟨A,rfl,hA⟩:=r0.string Tryz.underlying9;obtain⟨B,rfl,hB⟩:=aI r1;obtain⟨C,rfl,hC⟩:=dR r2;obtain⟨D,rfl,hD⟩:=dP r3;exact⟨⟨A,B,C,D⟩,rfl,⟨aW hA,hB,hC,hD⟩⟩
theorem lG{w:World}{f:Nat}{cs:List Value}(h:Rd Tryz.prog w f 26 cs):∃ v,∃ l:List fq,cs=[v]∧SliceAt w v 11 l.length (l.flatMap fq.cells)∧(∀ x∈l,fq.Ok x)∧fU l.length:=by
 obtain⟨f',v,rfl,rfl,es,h1,h2,h3⟩:=h.slice Tryz.underlying26;rw[show Tryz.prog.cellsOf 138=11 from by kernel_rfl] at h1;obtain⟨l,e1,e2⟩:=aC (R:=fun cs (x:fq)=>cs=fq.cells x∧fq.Ok x) (fun cs h=>jB h.2) es h2;rw[aO e1 fun i x y hx hy=>(e2 i x y hx hy).1,e1] at h1;rw[e1] at h3;exact⟨v,l,rfl,h1,aK e1 e2,au (of_decide_eq_true (by kernel_rfl)) h3⟩
theorem jM{w:World}{f:Nat}{cs:List Value}(h:Rd Tryz.prog w f 140 cs):∃ x:fN,cs=x.cells∧x.Ok:=by
 obtain⟨f',rfl,h⟩:=h.struct Tryz.underlying140;obtain⟨c0,_,rfl,-,r0,c1,_,rfl,-,r1,hn⟩:=h;obtain rfl:_=[]:=hn;obtain⟨A,rfl,hA⟩:=r0.string Tryz.underlying9;obtain⟨B,rfl⟩:=r1.bool Tryz.underlying4;exact⟨⟨A,B⟩,rfl,⟨aW hA⟩⟩
theorem lR{w:World}{f:Nat}{cs:List Value}(h:Rd Tryz.prog w f 27 cs):∃ v,∃ l:List fN,cs=[v]∧SliceAt w v 2 l.length (l.flatMap fN.cells)∧(∀ x∈l,fN.Ok x)∧fU l.length:=by
 obtain⟨f',v,rfl,rfl,es,h1,h2,h3⟩:=h.slice Tryz.underlying27;rw[show Tryz.prog.cellsOf 140=2 from by kernel_rfl] at h1;obtain⟨l,e1,e2⟩:=aC (R:=fun cs (x:fN)=>cs=fN.cells x∧fN.Ok x) (fun cs h=>jM h.2) es h2;rw[aO e1 fun i x y hx hy=>(e2 i x y hx hy).1,e1] at h1;rw[e1] at h3;exact⟨v,l,rfl,h1,aK e1 e2,au (of_decide_eq_true (by kernel_rfl)) h3⟩
theorem jD{w:World}{f:Nat}{cs:List Value}(h:Rd Tryz.prog w f 79 cs):∃ x:dH,cs=x.cells∧x.Ok:=by
 obtain⟨f',rfl,h⟩:=h.struct Tryz.underlying79;obtain⟨c0,_,rfl,-,r0,c1,_,rfl,-,r1,c2,_,rfl,-,r2,c3,_,rfl,-,r3,c4,_,rfl,-,r4,c5,_,rfl,-,r5,c6,_,rfl,-,r6,hn⟩:=h;obtain rfl:_=[]:=hn;obtain⟨A,rfl,hA⟩:=r0.int Tryz.underlying3;obtain⟨B,rfl,hB⟩:=aI r1;obtain⟨C,rfl,hC⟩:=aI r2;obtain⟨D,rfl,hD⟩:=r3.int Tryz.underlying3;obtain⟨E,rfl,hE⟩:=r4.string Tryz.underlying9;obtain⟨F,rfl,hF⟩:=r5.int Tryz.underlying3;obtain⟨G,rfl,hG⟩:=r6.int Tryz.underlying3;exact⟨⟨A,B,C,D,E,F,G⟩,rfl,⟨wf_i64 hA,hB,hC,wf_i64 hD,aW hE,wf_i64 hF,wf_i64 hG⟩⟩
theorem lI{w:World}{f:Nat}{cs:List Value}(h:Rd Tryz.prog w f 31 cs):∃ v,∃ l:List dH,cs=[v]∧SliceAt w v 13 l.length (l.flatMap dH.cells)∧(∀ x∈l,dH.Ok x)∧fU l.length:=by
 obtain⟨f',v,rfl,rfl,es,h1,h2,h3⟩:=h.slice Tryz.underlying31;rw[show Tryz.prog.cellsOf 79=13 from by kernel_rfl] at h1;obtain⟨l,e1,e2⟩:=aC (R:=fun cs (x:dH)=>cs=dH.cells x∧dH.Ok x) (fun cs h=>jD h.2) es h2;rw[aO e1 fun i x y hx hy=>(e2 i x y hx hy).1,e1] at h1;rw[e1] at h3;exact⟨v,l,rfl,h1,aK e1 e2,au (of_decide_eq_true (by kernel_rfl)) h3⟩
theorem jG{w:World}{f:Nat}{cs:List Value}(h:Rd Tryz.prog w f 186 cs):∃ x:fE,cs=x.cells∧x.Ok:=by
 obtain⟨f',rfl,h⟩:=h.struct Tryz.underlying186;obtain⟨c0,_,rfl,-,r0,c1,_,rfl,-,r1,c2,_,rfl,-,r2,c3,_,rfl,-,r3,hn⟩:=h;obtain rfl:_=[]:=hn;obtain⟨A,rfl,hA⟩:=aI r0;obtain⟨B,rfl,hB⟩:=aI r1;obtain⟨C,rfl,hC⟩:=r2.int Tryz.underlying3;obtain⟨D,rfl,hD⟩:=r3.int Tryz.underlying3;exact⟨⟨A,B,C,D⟩,rfl,⟨hA,hB,wf_i64 hC,wf_i64 hD⟩⟩
theorem lK{w:World}{f:Nat}{cs:List Value}(h:Rd Tryz.prog w f 32 cs):∃ v,∃ l:List fE,cs=[v]∧SliceAt w v 10 l.length (l.flatMap fE.cells)∧(∀ x∈l,fE.Ok x)∧fU l.length:=by
 obtain⟨f',v,rfl,rfl,es,h1,h2,h3⟩:=h.slice Tryz.underlying32;rw[show Tryz.prog.cellsOf 186=10 from by kernel_rfl] at h1;obtain⟨l,e1,e2⟩:=aC (R:=fun cs (x:fE)=>cs=fE.cells x∧fE.Ok x) (fun cs h=>jG h.2) es h2;rw[aO e1 fun i x y hx hy=>(e2 i x y hx hy).1,e1] at h1;rw[e1] at h3;exact⟨v,l,rfl,h1,aK e1 e2,au (of_decide_eq_true (by kernel_rfl)) h3⟩
theorem jI{w:World}{f:Nat}{cs:List Value}(h:Rd Tryz.prog w f 190 cs):∃ x:fF,cs=x.cells∧x.Ok:=by
 obtain⟨f',rfl,h⟩:=h.struct Tryz.underlying190;obtain⟨c0,_,rfl,-,r0,c1,_,rfl,-,r1,c2,_,rfl,-,r2,c3,_,rfl,-,r3,hn⟩:=h;obtain rfl:_=[]:=hn;obtain⟨A,rfl,hA⟩:=aI r0;obtain⟨B,rfl,hB⟩:=aI r1;obtain⟨C,rfl,hC⟩:=r2.int Tryz.underlying3;obtain⟨D,rfl,hD⟩:=dP r3;exact⟨⟨A,B,C,D⟩,rfl,⟨hA,hB,wf_i64 hC,hD⟩⟩
theorem lN{w:World}{f:Nat}{cs:List Value}(h:Rd Tryz.prog w f 33 cs):∃ v,∃ l:List fF,cs=[v]∧SliceAt w v 13 l.length (l.flatMap fF.cells)∧(∀ x∈l,fF.Ok x)∧fU l.length:=by
 obtain⟨f',v,rfl,rfl,es,h1,h2,h3⟩:=h.slice Tryz.underlying33;rw[show Tryz.prog.cellsOf 190=13 from by kernel_rfl] at h1;obtain⟨l,e1,e2⟩:=aC (R:=fun cs (x:fF)=>cs=fF.cells x∧fF.Ok x) (fun cs h=>jI h.2) es h2;rw[aO e1 fun i x y hx hy=>(e2 i x y hx hy).1,e1] at h1;rw[e1] at h3;exact⟨v,l,rfl,h1,aK e1 e2,au (of_decide_eq_true (by kernel_rfl)) h3⟩
theorem jE{w:World}{f:Nat}{cs:List Value}(h:Rd Tryz.prog w f 145 cs):∃ x:fC,cs=x.cells∧x.Ok:=by
 obtain⟨f',rfl,h⟩:=h.struct Tryz.underlying145;obtain⟨c0,_,rfl,-,r0,c1,_,rfl,-,r1,hn⟩:=h;obtain rfl:_=[]:=hn;obtain⟨A,rfl,hA⟩:=r0.string Tryz.underlying9;obtain⟨B,rfl,hB⟩:=fu r1;exact⟨⟨A,B⟩,rfl,⟨aW hA,hB⟩⟩
theorem lJ{w:World}{f:Nat}{cs:List Value}(h:Rd Tryz.prog w f 35 cs):∃ v,∃ l:List fC,cs=[v]∧SliceAt w v 8 l.length (l.flatMap fC.cells)∧(∀ x∈l,fC.Ok x)∧fU l.length:=by
 obtain⟨f',v,rfl,rfl,es,h1,h2,h3⟩:=h.slice Tryz.underlying35;rw[show Tryz.prog.cellsOf 145=8 from by kernel_rfl] at h1;obtain⟨l,e1,e2⟩:=aC (R:=fun cs (x:fC)=>cs=fC.cells x∧fC.Ok x) (fun cs h=>jE h.2) es h2;rw[aO e1 fun i x y hx hy=>(e2 i x y hx hy).1,e1] at h1;rw[e1] at h3;exact⟨v,l,rfl,h1,aK e1 e2,au (of_decide_eq_true (by kernel_rfl)) h3⟩
theorem jJ{w:World}{f:Nat}{cs:List Value}(h:Rd Tryz.prog w f 199 cs):∃ x:fG,cs=x.cells∧x.Ok:=by
 obtain⟨f',rfl,h⟩:=h.struct Tryz.underlying199;obtain⟨c0,_,rfl,-,r0,c1,_,rfl,-,r1,c2,_,rfl,-,r2,hn⟩:=h;obtain rfl:_=[]:=hn;obtain⟨A,rfl,hA⟩:=r0.string Tryz.underlying9;obtain⟨B,rfl,hB⟩:=r1.int Tryz.underlying3;obtain⟨C,rfl,hC⟩:=fu r2;exact⟨⟨A,B,C⟩,rfl,⟨aW hA,wf_i64 hB,hC⟩⟩
theorem lO{w:World}{f:Nat}{cs:List Value}(h:Rd Tryz.prog w f 36 cs):∃ v,∃ l:List fG,cs=[v]∧SliceAt w v 9 l.length (l.flatMap fG.cells)∧(∀ x∈l,fG.Ok x)∧fU l.length:=by
 obtain⟨f',v,rfl,rfl,es,h1,h2,h3⟩:=h.slice Tryz.underlying36;rw[show Tryz.prog.cellsOf 199=9 from by kernel_rfl] at h1;obtain⟨l,e1,e2⟩:=aC (R:=fun cs (x:fG)=>cs=fG.cells x∧fG.Ok x) (fun cs h=>jJ h.2) es h2;rw[aO e1 fun i x y hx hy=>(e2 i x y hx hy).1,e1] at h1;rw[e1] at h3;exact⟨v,l,rfl,h1,aK e1 e2,au (of_decide_eq_true (by kernel_rfl)) h3⟩
theorem jO{w:World}{f:Nat}{cs:List Value}(h:Rd Tryz.prog w f 203 cs):∃ x:fI,cs=x.cells∧x.Ok:=by
 obtain⟨f',rfl,h⟩:=h.struct Tryz.underlying203;obtain⟨c0,_,rfl,-,r0,c1,_,rfl,-,r1,c2,_,rfl,-,r2,c3,_,rfl,-,r3,hn⟩:=h;obtain rfl:_=[]:=hn;obtain⟨A,rfl,hA⟩:=r0.string Tryz.underlying9;obtain⟨B,rfl,hB⟩:=r1.int Tryz.underlying3;obtain⟨C,rfl,hC⟩:=aI r2;obtain⟨D,rfl,hD⟩:=aI r3;exact⟨⟨A,B,C,D⟩,rfl,⟨aW hA,wf_i64 hB,hC,hD⟩⟩
theorem lT{w:World}{f:Nat}{cs:List Value}(h:Rd Tryz.prog w f 37 cs):∃ v,∃ l:List fI,cs=[v]∧SliceAt w v 10 l.length (l.flatMap fI.cells)∧(∀ x∈l,fI.Ok x)∧fU l.length:=by
 obtain⟨f',v,rfl,rfl,es,h1,h2,h3⟩:=h.slice Tryz.underlying37;rw[show Tryz.prog.cellsOf 203=10 from by kernel_rfl] at h1;obtain⟨l,e1,e2⟩:=aC (R:=fun cs (x:fI)=>cs=fI.cells x∧fI.Ok x) (fun cs h=>jO h.2) es h2;rw[aO e1 fun i x y hx hy=>(e2 i x y hx hy).1,e1] at h1;rw[e1] at h3;exact⟨v,l,rfl,h1,aK e1 e2,au (of_decide_eq_true (by kernel_rfl)) h3⟩
theorem jL{w:World}{f:Nat}{cs:List Value}(h:Rd Tryz.prog w f 131 cs):∃ x:gi,kW w cs x∧x.Ok:=by
 obtain⟨f',rfl,h⟩:=h.struct Tryz.underlying131;obtain⟨c0,_,rfl,-,r0,c1,_,rfl,-,r1,hn⟩:=h;obtain rfl:_=[]:=hn;obtain⟨A,rfl,hA⟩:=r0.string Tryz.underlying9;obtain⟨vB,B,rfl,sB,aB,lB⟩:=bU r1;exact⟨⟨A,B⟩,⟨vB,rfl,sB⟩,⟨aW hA,⟨lB,aB⟩⟩⟩
theorem lQ{w:World}{f:Nat}{cs:List Value}(h:Rd Tryz.prog w f 22 cs):∃ v,∃ l:List gi,cs=[v]∧aj 2 (kW w) w v l∧(∀ x∈l,gi.Ok x)∧fU l.length:=by
 obtain⟨f',v,rfl,rfl,es,h1,h2,h3⟩:=h.slice Tryz.underlying22;rw[show Tryz.prog.cellsOf 131=2 from by kernel_rfl] at h1 h2;obtain⟨l,e1,e2⟩:=aC (R:=fun cs (x:gi)=>kW w cs x∧gi.Ok x) (fun cs h=>jL h.2) es h2;rw[e1] at h1 h3;exact⟨v,l,rfl,⟨es,e1,fun x hx=>(h2 x hx).1,h1,fun i x y hx hy=>(e2 i x y hx hy).1⟩,aK e1 e2,au (of_decide_eq_true (by kernel_rfl)) h3⟩
theorem jC{w:World}{f:Nat}{cs:List Value}(h:Rd Tryz.prog w f 81 cs):∃ x:gh,jk w cs x∧x.Ok:=by
 obtain⟨f',rfl,h⟩:=h.struct Tryz.underlying81;obtain⟨c0,_,rfl,-,r0,c1,_,rfl,-,r1,c2,_,rfl,-,r2,hn⟩:=h;obtain rfl:_=[]:=hn;obtain⟨A,rfl,hA⟩:=r0.string Tryz.underlying9;obtain⟨vB,B,rfl,sB,aB,lB⟩:=bU r1;obtain⟨C,rfl⟩:=r2.bool Tryz.underlying4;exact⟨⟨A,B,C⟩,⟨vB,rfl,sB⟩,⟨aW hA,⟨lB,aB⟩⟩⟩
theorem lH{w:World}{f:Nat}{cs:List Value}(h:Rd Tryz.prog w f 23 cs):∃ v,∃ l:List gh,cs=[v]∧aj 3 (jk w) w v l∧(∀ x∈l,gh.Ok x)∧fU l.length:=by
 obtain⟨f',v,rfl,rfl,es,h1,h2,h3⟩:=h.slice Tryz.underlying23;rw[show Tryz.prog.cellsOf 81=3 from by kernel_rfl] at h1 h2;obtain⟨l,e1,e2⟩:=aC (R:=fun cs (x:gh)=>jk w cs x∧gh.Ok x) (fun cs h=>jC h.2) es h2;rw[e1] at h1 h3;exact⟨v,l,rfl,⟨es,e1,fun x hx=>(h2 x hx).1,h1,fun i x y hx hy=>(e2 i x y hx hy).1⟩,aK e1 e2,au (of_decide_eq_true (by kernel_rfl)) h3⟩
theorem jK{w:World}{f:Nat}{cs:List Value}(h:Rd Tryz.prog w f 86 cs):∃ x:ij,kV w cs x∧x.Ok:=by
 obtain⟨f',rfl,h⟩:=h.struct Tryz.underlying86;obtain⟨c0,_,rfl,-,r0,c1,_,rfl,-,r1,c2,_,rfl,-,r2,c3,_,rfl,-,r3,hn⟩:=h;obtain rfl:_=[]:=hn;obtain⟨A,rfl,hA⟩:=r0.int Tryz.underlying3;obtain⟨B,rfl,hB⟩:=r1.int Tryz.underlying68;obtain⟨C,rfl⟩:=r2.bool Tryz.underlying4;obtain⟨D,sD,hD⟩:=eX _ _ r3;exact⟨⟨A,B,C,D⟩,⟨_,by simp,sD⟩,⟨wf_i64 hA,wf_u32 hB,hD⟩⟩
theorem lP{w:World}{f:Nat}{cs:List Value}(h:Rd Tryz.prog w f 34 cs):∃ v,∃ l:List ij,cs=[v]∧aj 13 (kV w) w v l∧(∀ x∈l,ij.Ok x)∧fU l.length:=by
 obtain⟨f',v,rfl,rfl,es,h1,h2,h3⟩:=h.slice Tryz.underlying34;rw[show Tryz.prog.cellsOf 86=13 from by kernel_rfl] at h1 h2;obtain⟨l,e1,e2⟩:=aC (R:=fun cs (x:ij)=>kV w cs x∧ij.Ok x) (fun cs h=>jK h.2) es h2;rw[e1] at h1 h3;exact⟨v,l,rfl,⟨es,e1,fun x hx=>(h2 x hx).1,h1,fun i x y hx hy=>(e2 i x y hx hy).1⟩,aK e1 e2,au (of_decide_eq_true (by kernel_rfl)) h3⟩
theorem lE{w:World}{f:Nat}{cs:List Value}(h:Rd Tryz.prog w f 29 cs):∃ v,∃ l:List aS,cs=[v]∧aj 10 (bq w) w v l∧(∀ x∈l,aS.Ok x)∧fU l.length:=by
 obtain⟨f',v,rfl,rfl,es,h1,h2,h3⟩:=h.slice Tryz.underlying29;rw[show Tryz.prog.cellsOf 84=10 from by kernel_rfl] at h1 h2;obtain⟨l,e1,e2⟩:=aC (R:=fun cs (x:aS)=>bq w cs x∧aS.Ok x) (fun cs h=>eX _ _ h.2) es h2;rw[e1] at h1 h3;exact⟨v,l,rfl,⟨es,e1,fun x hx=>(h2 x hx).1,h1,fun i x y hx hy=>(e2 i x y hx hy).1⟩,aK e1 e2,au (of_decide_eq_true (by kernel_rfl)) h3⟩
theorem nJ{w:World}{u:Value}(h:Arg Tryz.prog w 39 u):∃ c0 c1 c2 c3 c4 c5 c6 c7 c8 c9 c10 c11 c12 c13 c14 c15 c16:Value,∃ p:aD,u=.agg #[c0,c1,c2,c3,c4,c5,c6,c7,c8,c9,c10,c11,c12,c13,c14,c15,c16]∧aA w c0 c1 c2 c3 c4 c5 c6 c7 c8 c9 c10 c11 c12 c13 c14 c15 c16 p∧p.Ok:=by
 obtain⟨f,cs,h,rfl⟩:=h;rw[Tryz.underlying39];obtain⟨f',rfl,h⟩:=h.struct Tryz.underlying39;obtain⟨c0,_,rfl,-,r0,c1,_,rfl,-,r1,c2,_,rfl,-,r2,c3,_,rfl,-,r3,c4,_,rfl,-,r4,c5,_,rfl,-,r5,c6,_,rfl,-,r6,c7,_,rfl,-,r7,c8,_,rfl,-,r8,c9,_,rfl,-,r9,c10,_,rfl,-,Pg,c11,_,rfl,-,Pf,c12,_,rfl,-,Pc,c13,_,rfl,-,Pb,c14,_,rfl,-,O_,c15,_,rfl,-,O9,c16,_,rfl,-,r16,hn⟩:=h;obtain rfl:_=[]:=hn;obtain⟨v0,l0,rfl,s0,o0,b0⟩:=lQ r0;obtain⟨v1,l1,rfl,s1,o1,b1⟩:=lH r1;obtain⟨v2,l2,rfl,s2,o2,b2⟩:=lS r2;obtain⟨v3,l3,rfl,s3,o3,b3⟩:=lM r3;obtain⟨v4,l4,rfl,s4,o4,b4⟩:=lG r4;obtain⟨v5,l5,rfl,s5,o5,b5⟩:=lR r5;obtain⟨v6,l6,rfl,s6,o6,b6⟩:=bU r6;obtain⟨v7,l7,rfl,s7,o7,b7⟩:=bU r7;obtain⟨v8,l8,rfl,s8,o8,b8⟩:=lE r8;obtain⟨v9,l9,rfl,s9,o9,b9⟩:=jF r9;obtain⟨v10,RA,rfl,s10,SE,b10⟩:=lI Pg;obtain⟨v11,Rz,rfl,FC,SD,b11⟩:=lK Pf;obtain⟨v12,Ry,rfl,s12,SC,b12⟩:=lN Pc;obtain⟨KF,Ql,rfl,FA,SA,b13⟩:=lP Pb;obtain⟨HY,Qk,rfl,Fz,Sz,b14⟩:=lJ O_;obtain⟨KE,Qj,rfl,Eh,Sy,b15⟩:=lO O9;obtain⟨HV,Qi,rfl,Mq,Sx,b16⟩:=lT r16;exact⟨v0,v1,v2,v3,v4,v5,v6,v7,v8,v9,v10,v11,v12,KF,HY,KE,HV,⟨l0,l1,l2,l3,l4,l5,l6,l7,l8,l9,RA,Rz,Ry,Ql,Qk,Qj,Qi⟩,rfl,⟨s0,s1,s2,s3,s4,s5,s6,s7,s8,s9,s10,FC,s12,FA,Fz,Eh,Mq⟩,⟨o0,b0,o1,b1,o2,b2,o3,b3,o4,b4,o5,b5,o6,b6,o7,b7,o8,b8,o9,b9,SE,b10,SD,b11,SC,b12,SA,b13,Sz,b14,Sy,b15,Sx,b16⟩⟩
end Go.Proofs.YtkkmjdceiocnbaaGreatDoor
namespace Go.Proofs.YtkkmjdceiocnbaaGreatDoor
open Go Go.RowKit
theorem u56:type_of% Tryz.underlying56:=Tryz.underlying56
theorem Ab:(Tryz.prog.info? 75).bind (·.zero)=some (.agg #[.int .i64 0,.int .i64 0,.int .i64 0,.int .i64 0]):=by kernel_rfl
theorem aA.f11{w:World}{c0 c1 c2 c3 c4 c5 c6 c7 c8 c9 c10 c11 c12 c13 c14 c15 c16:Value}{p:aD}(h:aA w c0 c1 c2 c3 c4 c5 c6 c7 c8 c9 c10 c11 c12 c13 c14 c15 c16 p):∃ a c,c11=.slice a p.ay.length c∧p.ay.length≤c∧p.ay.length≤9223372036854775807:=dJ h.ay (by decide)
section
variable (N:Nat) (J C:List Nat)
def Xj:Code→Nat→World→Slots→List Bx→List Rw→World→(Nat→World→KK)→Prop
 | .seq x y,B,w0,l,bs,rs,w,K=>bif jn (fid y) J then Bn none B w0 N J (.seq x y) l bs rs w (K B w0) else Xj x B w0 l bs rs w fun B' Ia e l' bs' rs' w'=>match e with
  | .normal=>bif jn (fid y) C then Xj y w'.heap.size w' l' [] [] w' K else Xj y B' Ia l' bs' rs' w' K
  | e=>K B' Ia e l' bs' rs' w'
 | c,B,w0,l,bs,rs,w,K=>Bn none B w0 N J c l bs rs w (K B w0)
end
theorem UU{N:Nat}{J C:List Nat}:∀ {c:Code} {B:Nat} {w0:World} {l:Slots} {bs:List Bx} {rs:List Rw} {w:World} {K:Nat→World→KK} {Q:Exit→Act→World→Prop} {a:Act},Xj N J C c B w0 l bs rs w K→Fs a N l→aQ B w0 w bs rs →
 (∀ B' Ia e a l bs rs w,(∀ w bs rs,aQ B' Ia w bs rs→aQ B w0 w bs rs)→Fs a N l→aQ B' Ia w bs rs→K B' Ia e l bs rs w→Q e a w)→c.wp Tryz.prog Q a w:=by
 intro c
 induction c with
 | seq x y EO ihy=>
  intro B w0 l bs rs w K Q a h F M hQ;unfold Xj at h
  cases hj:jn (fid y) J with
  | true=>rw[hj] at h;exact jl h F M (fun _ h=>by cases h) fun e a l bs rs w F M hk=>hQ B w0 e a l bs rs w (fun _ _ _ h=>h) F M hk
  | false=>
   rw[hj] at h;refine wp_seq (EO h F M fun B' Ia e a l' bs' rs' w' cv F' M' hk=>?_)
   cases e with
   | normal=>
    cases hc:jn (fid y) C with
    | false=>
     simp only[hc,cond_false] at hk;exact ihy hk F' M' fun B2 w2 e a l bs rs w WT F M hk=>hQ B2 w2 e a l bs rs w (fun w bs rs h=>cv w bs rs (WT w bs rs h)) F M hk
    | true=>
     simp only[hc,cond_true] at hk;exact ihy hk F' (Mm.start w') fun B2 w2 e a l bs rs w WT F M hk=>hQ B2 w2 e a l bs rs w (fun w bs rs h=>cv w bs rs (M'.Ri (WT w bs rs h))) F M hk
   | _=>exact hQ _ _ _ _ _ _ _ _ cv F' M' hk
 | _=>intro B w0 l bs rs w K Q a h F M hQ;exact jl h F M (fun _ h=>by cases h) fun e a l bs rs w F M hk=>hQ B w0 e a l bs rs w (fun _ _ _ h=>h) F M hk
theorem aa6{f:FuncId}{fn:Func}{c:Code}{N:Nat}(J C:List Nat){vs:List Value}{R:Ending→World→Prop}{w0:World}(hf:Tryz.prog.funcs[f]?=some fn)(hb:fn.body=some c)(hn:fn.ntmps=N)(hN:Nat.ble vs.length N=true)
 (h:Xj N J C c w0.heap.size w0 (HZ 0 vs) [] [] w0 fun _ _=>F9 fn w0.heap.size w0 R):Calls Tryz.prog f vs.toArray w0 R:=by
 refine en hf hb hn (by simpa using hN) rfl fun a F=>UU h F (Mm.start w0) fun B w1 e a l bs rs w cv F M hk=>?_
 have M:=cv _ _ _ M
 cases e with
 | normal=>exact tK (iM F M hk)
 | ret=>exact iM F M hk
 | _=>exact hk.elim
theorem tQ:(Tryz.prog.info? 84).map (·.size)=some 10:=by kernel_rfl
theorem ju:∀ (m:Nat) (w:World) (cs:List Value) (e:aS),m≤13→bq w cs e→Calls Tryz.prog 72 #[.agg cs.toArray,.int .i64 (m:Int)] w fun r w'=>r=.returned (.int .i64 (aL m e))∧alE w.heap.size w w':=by
 intro m
 induction m with
 | zero=>
  intro w cs e _ h;obtain⟨_,_,rfl,hn,hk⟩:=h.open;obtain⟨_,_,rfl,-⟩:=aN.get hn;obtain⟨_,_,rfl,-⟩:=aj.form hk (by decide);refine bM [] (fn:=Tryz.f72) Tryz.func72 rfl Tryz.ntmps72 rfl<|fun g1 w1 M1=>?_
  exact an (fun _ M=>⟨rfl,M.below⟩) fun h=>by simp at h
 | succ m ih=>
  intro w cs e hm h;obtain⟨_,_,rfl,hn,hk⟩:=h.open;obtain⟨_,_,rfl,-⟩:=aN.get hn;obtain⟨_,_,rfl,-,hkm,-⟩:=aj.form hk (by decide);refine bM [] (fn:=Tryz.f72) Tryz.func72 rfl Tryz.ntmps72 rfl<|fun g1 w1 M1=>?_
  refine an (fun h=>by simp at h;omega) fun _=>?_
  refine lr (ι:=Nat) (fun k=>[(5,.int .i64 (dY (fun i=>match e.kids[i]? with|some k=>aL m k|none=>0) k)),(6,.int .i64 (k:Int))]) (fun k _=>k≤e.kids.length) (fun k=>e.kids.length-k) 0 (an ⟨⟨rfl,rfl,trivial⟩,fun M=>⟨M,Nat.zero_le _⟩⟩ ?_);intro k w M hkl;have hx:=eK (fun i=>match e.kids[i]? with|some k=>aL m k|none=>0) k
  have hz:=lA (f:=fun i=>match e.kids[i]? with|some k=>aL m k|none=>0) (b:=m) (by omega) k fun i _=>by
   split
   ·exact(iG m _).2
   ·omega
  refine lb 0<|an rfl<|an (fun h1=>?_) fun h1=>?_
  ·have hlt:k<e.kids.length:=by simp at h1;omega
   obtain⟨y,hy⟩:∃ y,e.kids[k]?=some y:=⟨_,alD hlt⟩;obtain⟨b,o,_,e1,hE,hc⟩:=aj.elt hk (by decide) hy;obtain⟨_,_,rfl,hn2,hk2⟩:=hE.open;obtain⟨_,_,rfl,-⟩:=aN.get hn2;obtain⟨_,_,rfl,-⟩:=aj.form hk2 (by decide);refine lb 0<|an rfl<|ia<|an ⟨e1,rfl,hlt⟩<|lc<|an (bZ M.below hc)<|an (by omega)<|cl (v:=.int .i64 (aL m y))<|an ?_ fun w2 M2=>N9 M2 (v:=.int .i64 (dY (fun i=>match e.kids[i]? with|some k=>aL m k|none=>0) (k+1))) (fun a o ho hv=>?_)<|?_
   ·have h2:=ih _ _ y (by omega) (hE.keep M.below)
    rwa [show((m:Nat):Int)=((m+1:Nat):Int)-1 by omega] at h2
   ·rw[vA ho (aY hv) (cC hv)]
    have e2:dY (fun i=>match e.kids[i]? with|some k=>aL m k|none=>0) (k+1)=max (dY (fun i=>match e.kids[i]? with|some k=>aL m k|none=>0) k) (aL m y):=by
     show max _ (match e.kids[k]? with|some k=>aL m k|none=>0)=_;rw[hy]
    rw[e2,Int.max_def];congr 3;split<;>split<;>omega
   ·exact an (by omega)<|bk (k+1) ⟨rfl,rfl,trivial⟩ (fun M=>⟨M,by omega⟩) (by dsimp only;omega)
  ·obtain rfl:k=e.kids.length:=by simp at h1;omega
   exact an (by omega) fun M=>⟨rfl,M.below⟩
theorem cJ(w:World)(cs:List Value)(e:aS)(h:bq w cs e):Calls Tryz.prog 27 #[.agg cs.toArray] w fun r w'=>r=.returned (.int .i64 (aL 13 e))∧alE w.heap.size w w':=by
 have HE:=Lib.hid h;obtain⟨nv,kv,hcs,-,-⟩:=h.open;rw[hcs] at HE;subst hcs;clear h;show Calls Tryz.prog 27 #[.agg #[.int .i64 e.op,.int .i64 e.a,.int .i64 e.rel,.int .i64 e.b,nv,.int .u64 e.set.a,.int .u64 e.set.b,.int .u64 e.set.c,.int .u64 e.set.d,kv]] w _;obtain⟨wo,cG⟩:∃ wo,wo=(w).alloc (.cells #[.int .i64 e.op,.int .i64 e.a,.int .i64 e.rel,.int .i64 e.b,nv,.int .u64 e.set.a,.int .u64 e.set.b,.int .u64 e.set.c,.int .u64 e.set.d,kv] 84):=⟨_,rfl⟩;have W0:=Lib.hid (show Whole wo w.heap.size 84 #[.int .i64 e.op,.int .i64 e.a,.int .i64 e.rel,.int .i64 e.b,nv,.int .u64 e.set.a,.int .u64 e.set.b,.int .u64 e.set.c,.int .u64 e.set.d,kv] by rw[cG];exact(Whole.new w 84 _));have iF:=Lib.hid (show alE w.heap.size w wo by rw[cG];exact((Below.refl _ w).alloc (Nat.le_refl _) _))
 go_enter Tryz.func27,Tryz.ntmps27
 go_upto_region 1 with(fail)
 rw[← cG];clear cG
 go_wp2_with (first|(refine wpList_load_row rfl 84 _ rfl (w.heap.size) rfl 84 _ (0,0) _ W0.out Tryz.underlying84 rfl tQ ?_)|(go_at_call 72;go_must (refine(ju 13 wo _ e (by omega) (bq.keep iF.out HE.out)).mono ?_;rintro r w1 ⟨rfl,hb1⟩;have Ku:=Lib.hid hb1;clear hb1)))
 go_ret
 exact⟨rfl,iF.out.trans (Ku.out.mono iF.out.size)⟩
theorem Kw{n:Int}(h0:0≤n)(h1:n<4294967296)(c:Nat)(hc:c<256):bits .xor .u32 n (c:Int)=((n.toNat ^^^ c:Nat):Int):=by
 obtain⟨a,rfl⟩:∃ a:Nat,n=a:=⟨n.toNat,by omega⟩;have hx:a ^^^ c<2^32:=Nat.xor_lt_two_pow (by omega) (by omega)
 have k1:(BitVec.ofInt 32 (a:Int)).toNat=a:=by
  rw[BitVec.ofInt_natCast,BitVec.toNat_ofNat];exact Nat.mod_eq_of_lt (by omega)
 have k2:(BitVec.ofInt 32 (c:Int)).toNat=c:=by
  rw[BitVec.ofInt_natCast,BitVec.toNat_ofNat];exact Nat.mod_eq_of_lt (by omega)
 show IntKind.u32.wrap ((BitVec.ofInt 32 (a:Int) ^^^ BitVec.ofInt 32 (c:Int)).toNat:Int)=_;rw[BitVec.toNat_xor,k1,k2];simp only[IntKind.wrap,IntKind.bits,IntKind.signed,Int.toNat_natCast];simp;omega
theorem SG{a b:Nat}(ha:a<4294967296)(hb:b<4294967296)(h:a*16777619%4294967296=b*16777619%4294967296):a=b:=by
 have key:∀ x:Nat,x<4294967296→(x*16777619%4294967296)*899433627%4294967296=x:=fun x hx=>by
  rw[Nat.mod_mul_mod,Nat.mul_assoc,Nat.mul_mod,show 16777619*899433627%4294967296=1 by decide,Nat.mul_one,Nat.mod_mod];exact Nat.mod_eq_of_lt hx
 rw[← key a ha,← key b hb,h]
theorem FZ{m n:Int}(hm:0≤m∧m<4294967296)(hn:0≤n∧n<4294967296){c d:Nat}(hc:c<256)(hd:d<256)(h:gT m c=gT n d):m.toNat ^^^ c=n.toNat ^^^ d:=by
 unfold gT at h;rw[Kw hm.1 hm.2 c hc,Kw hn.1 hn.2 d hd] at h;have h1:m.toNat ^^^ c<2^32:=Nat.xor_lt_two_pow (by omega) (by omega);have h2:n.toNat ^^^ d<2^32:=Nat.xor_lt_two_pow (by omega) (by omega);generalize m.toNat ^^^ c=x at h h1 ⊢;generalize n.toNat ^^^ d=y at h h2 ⊢;refine SG (by omega) (by omega) (Int.ofNat.inj ?_);show((x*16777619%4294967296:Nat):Int)=((y*16777619%4294967296:Nat):Int);rw[Int.natCast_emod,Int.natCast_emod,Int.natCast_mul,Int.natCast_mul];exact h
theorem KI:∀ (l:List Nat),Bytes l→∀ m n:Int,0≤m∧m<4294967296→0≤n∧n<4294967296→l.foldl gT m=l.foldl gT n→m=n
 | [],_,m,n,_,_,h=>h
 | c::l,hb,m,n,hm,hn,h=>by
  have hc:=hb c (by simp);have e:=KI l (fun x hx=>hb x (by simp[hx])) _ _ (by unfold gT;omega) (by unfold gT;omega) h;have e2:=FZ hm hn hc hc e
  have e3:m.toNat=n.toNat:=by
   have:=congrArg (·^^^ c) e2;simpa[Nat.xor_assoc] using this
  omega
theorem R4{l:List Nat}(hb:Bytes l){i a b:Nat}(hi:l[i]?=some a)(hab:a≠b)(hb2:b<256):gW (l.set i b)≠gW l:=fun h=>by
 have hlt:=(alC.1 hi).1
 have hl:l=l.take i++a::l.drop (i+1):=by
  rw[← LP hi,List.take_append_drop]
 have hl2:l.set i b=l.take i++b::l.drop (i+1):=by
  rw[List.set_eq_take_append_cons_drop,if_pos hlt]
 rw[hl2] at h;have h2:gW l=gW (l.take i++a::l.drop (i+1)):=by rw[← hl]
 rw[h2] at h;unfold gW at h;rw[List.foldl_append,List.foldl_append,List.foldl_cons,List.foldl_cons] at h;have hs:=KL (l.take i) 2166136261 (by omega) (by omega);generalize List.foldl gT 2166136261 (l.take i)=s at h hs;have ha:a<256:=hb a (List.mem_of_getElem? hi);have e:=KI _ (hb.drop (i+1)) _ _ (by unfold gT;omega) (by unfold gT;omega) h;have e2:=FZ hs hs hb2 ha e;apply hab;have:=congrArg (s.toNat ^^^ ·) e2;simp only[← Nat.xor_assoc,Nat.xor_self,Nat.zero_xor] at this;exact this.symm
theorem Ee{m n:Int}(hm:0≤m∧m<4294967296)(hn:0≤n∧n<4294967296)(h:cM m=cM n):m=n:=by
 unfold cM at h;simp only[List.cons.injEq,and_true] at h;omega
theorem Ew{x:List Nat}(hx:Bytes x){i a b:Nat}(hi:(eP x)[i]?=some a)(hab:a≠b)(hb:b<256):gZ ((eP x).set i b)=([],7):=by
 have hlen:=mT x;have hlt:=(alC.1 hi).1;unfold gZ;rw[if_neg (by rw[List.length_set];omega),List.length_set,hlen,Nat.add_sub_cancel];rw[if_neg];intro h;by_cases YX:i<x.length
 ·have hxi:x[i]?=some a:=by rw[← hi];unfold eP;rw[List.getElem?_append_left YX]
  have e1:(eP x).set i b=x.set i b++cM (gW x):=by unfold eP;rw[List.set_append_left _ _ YX]
  rw[e1,show x.length=(x.set i b).length by simp,List.drop_left,List.take_left] at h;exact R4 hx hxi hab hb (Ee (zf _) (zf _) h).symm
 ·have e1:(eP x).set i b=x++(cM (gW x)).set (i-x.length) b:=by unfold eP;rw[List.set_append_right _ _ (by omega)]
  rw[e1,List.drop_left,List.take_left] at h;have hxi:(cM (gW x))[i-x.length]?=some a:=by rw[← hi];unfold eP;rw[List.getElem?_append_right (by omega)]
  have:=congrArg (fun l=>l[i-x.length]?) h;simp only[List.getElem?_set_self (alC.1 hxi).1,hxi] at this;exact hab (Option.some.inj this).symm
section
variable (A8:aD→Int)
variable {A8}
end
theorem tC.no{v u:Value}{l r:List Nat}{e:Int}(he:e≠0)(h:tC v l u r e):u=.slice none 0 0:=by unfold tC at h;rwa [if_neg he] at h
theorem ld(w0:World)(c0 c1 c2 c3 c4 c5 c6 c7 c8 c9 c10 c11 c12 c13 c14 c15 c16:Value)(p:aD)(hp:aA w0 c0 c1 c2 c3 c4 c5 c6 c7 c8 c9 c10 c11 c12 c13 c14 c15 c16 p)(hok:p.Ok):Calls Tryz.prog 11 #[.agg #[c0,c1,c2,c3,c4,c5,c6,c7,c8,c9,c10,c11,c12,c13,c14,c15,c16]] w0 (fun(e:Ending) (w':World)=>∃ v,e=.returned v∧∃ b:Bool,v=.bool b∧(b=true→p.fM)∧alE w0.heap.size w0 w'):=by
 obtain⟨_,_,_,_,_,_,_,_,_,_,_,_,_,_,_,_,_,_,_,_,_,_,_,_,_,_,_,_,_,_,_,_,_,_,rfl,rfl,rfl,rfl,rfl,rfl,rfl,rfl,rfl,rfl,rfl,rfl,rfl,rfl,rfl,rfl,rfl⟩:=hp.open;have tr:=fun m h=>SliceAt.elt (i:=m) hp.trans (fun _=>rfl) (by decide) (alD h) h
 obtain⟨_,_,e1,-,-,ty⟩:=aj.form hp.types (by decide);obtain⟨_,_,e8,-,-,cd⟩:=aj.form hp.conds (by decide);obtain⟨_,_,e13,-,-,cn⟩:=aj.form hp.cons (by decide);injection e1 with e1;injection e8 with e8;injection e13 with e13;subst e1 e8 e13;have no:∀ w,alE w0.heap.size w0 w→∃ v,Ending.returned (rG [Value.bool false])=.returned v∧∃ b:Bool,v=.bool b∧(b=true→p.fM)∧alE w0.heap.size w0 w:=fun w h=>⟨_,rfl,false,rfl,(fun e=>by cases e),h⟩
 refine bM [] (fn:=Tryz.f11) Tryz.func11 rfl Tryz.ntmps11 rfl fun g1 w1 M1=>lb 0<|an rfl<|lb 0<|an (fun _=>rfl)<|lb 0<|an (fun _=>rfl)<|lb 0<|an (fun _=>rfl)<|lb 0<|an (fun _=>rfl)<|lb 0<|an (fun _=>rfl)<|lb 0<|an (fun _=>rfl)<|lb 0<|an (fun _=>rfl)<|lb 0<|an (fun _=>rfl)<|an (fun h M=>no _ M.below) fun h=>?_
 simp only[Bool.or_eq_false_iff,decide_eq_false_iff_not] at h;refine lb 0<|an rfl<|lb 0<|an (fun _=>rfl)<|lb 0<|an (fun _=>rfl)<|lb 0<|an (fun _=>rfl)<|lb 0<|an (fun _=>rfl)<|lb 0<|an (fun _=>rfl)<|lb 0<|an (fun _=>rfl)<|lb 0<|an (fun _=>rfl)<|an (fun h M=>no _ M.below) fun h'=>?_
 simp only[Bool.or_eq_false_iff,decide_eq_false_iff_not] at h';refine ei<|an Ab fun g2 w2 M2=>lp (ι:=Nat×Int×Int×Int×Int) (fun(m,_)=>[(4,.int .i64 (m:Int))]) (fun(m,n0,n1,n2,n3)=>(g2,75,#[.int .i64 n0,.int .i64 n1,.int .i64 n2,.int .i64 n3])::_) (fun _=>[]) (fun(m,n0,n1,n2,n3) _=>m≤p.trans.length∧0≤n1∧n1≤m∧0≤n2∧n2≤m∧0≤n3∧n3≤m) (fun(m,_)=>p.trans.length-m) (0,0,0,0,0) (an ⟨⟨rfl,trivial⟩,fun M=>⟨M,by omega⟩⟩ ?_)
 rintro⟨m,n0,n1,n2,n3⟩ w M hm;refine lb 1<|an rfl<|an (fun h2=>?_) fun h2=>?_
 ·simp only[decide_eq_true_eq] at h2;have hlt:m<p.trans.length:=by omega
  obtain⟨b,o,e,hc⟩:=tr m hlt;refine lb 1<|an rfl<|ia<|an ⟨e,rfl,hlt⟩<|lc<|an (cell_later M.below (hc 0 _ rfl))<|an (fun h3=>?_) fun h3=>an (by omega)<|bk (m+1,n0,n1,n2,n3) ⟨rfl,trivial⟩ (fun M=>⟨M,by omega⟩) (by dsimp only;omega)
  simp only[Bool.and_eq_true,decide_eq_true_eq] at h3;have hk:p.trans[m].kind=1∨p.trans[m].kind=2∨p.trans[m].kind=3:=by omega
  rcases hk with hk|hk|hk
  ·exact ei (x:=1)<|an ⟨hk,by decide⟩<|lb 0<|an rfl<|an (by omega)<|ei (x:=1)<|an ⟨hk,by decide⟩<|lb 0<|an ⟨rfl,rfl⟩ fun w M=>an (by omega)<|bk (m+1,n0,n1+1,n2,n3) ⟨rfl,trivial⟩ (fun M=>⟨M,by omega⟩) (by dsimp only;omega)
  ·exact ei (x:=2)<|an ⟨hk,by decide⟩<|lb 0<|an rfl<|an (by omega)<|ei (x:=2)<|an ⟨hk,by decide⟩<|lb 0<|an ⟨rfl,rfl⟩ fun w M=>an (by omega)<|bk (m+1,n0,n1,n2+1,n3) ⟨rfl,trivial⟩ (fun M=>⟨M,by omega⟩) (by dsimp only;omega)
  ·exact ei (x:=3)<|an ⟨hk,by decide⟩<|lb 0<|an rfl<|an (by omega)<|ei (x:=3)<|an ⟨hk,by decide⟩<|lb 0<|an ⟨rfl,rfl⟩ fun w M=>an (by omega)<|bk (m+1,n0,n1,n2,n3+1) ⟨rfl,trivial⟩ (fun M=>⟨M,by omega⟩) (by dsimp only;omega)
 refine lr (ι:=Nat) (fun m=>[(6,.int .i64 (m:Int))]) (fun m _=>m≤p.types.length∧∀ x∈p.types.take m,x.jg.length≤4) (fun m=>p.types.length-m) 0 (an ⟨⟨rfl,trivial⟩,fun M=>⟨M,Nat.zero_le _,by simp⟩⟩ ?_);rintro i1 w M ⟨hi1,ha⟩;refine lb 1<|an rfl<|an (fun h2=>?_) fun h2=>?_
 ·simp only[decide_eq_true_eq] at h2;obtain⟨x,hx⟩:∃ x,p.types[i1]?=some x:=⟨_,alD (by omega)⟩;obtain⟨b,o,z,rfl,⟨u,rfl,hu⟩,-,hc⟩:=ty i1 x hx;obtain⟨_,_,rfl,-⟩:=hu.get;refine lb 1<|an rfl<|ia<|an ⟨rfl,rfl,by omega⟩<|lc<|an (cell_later M.below (hc 1 _ rfl))<|an (fun h3 M=>no _ M.below) fun h3=>an (by omega)<|bk (i1+1) ⟨rfl,trivial⟩ (fun M=>⟨M,by omega,fun y hy=>?_⟩) (by dsimp only;omega)
  rw[List.take_add_one,hx] at hy;rcases List.mem_append.1 hy with hy|hy
  ·exact ha y hy
  ·obtain rfl:y=x:=by simpa using hy
   simp only[decide_eq_false_iff_not] at h3;omega
 simp only[decide_eq_false_iff_not] at h2;obtain rfl:i1=p.types.length:=by omega
 refine lr (ι:=Nat) (fun m=>[(7,.int .i64 (m:Int))]) (fun m _=>m≤p.conds.length∧∀ x∈p.conds.take m,aL 13 x≤6) (fun m=>p.conds.length-m) 0 (an ⟨⟨rfl,trivial⟩,fun M=>⟨M,Nat.zero_le _,by simp⟩⟩ ?_);rintro i2 w M ⟨hi2,hb⟩;refine lb 1<|an rfl<|an (fun h2=>?_) fun h2=>?_
 ·simp only[decide_eq_true_eq] at h2;obtain⟨x,hx⟩:∃ x,p.conds[i2]?=some x:=⟨_,alD (by omega)⟩;obtain⟨b,o,z,rfl,hz,-,hc⟩:=cd i2 x hx;obtain⟨nv,kv,rfl,-⟩:=hz.open;refine lb 1<|an rfl<|ia<|an ⟨rfl,rfl,by omega⟩<|lc<|an (bZ M.below hc)<|cl<|an (cJ _ _ x (bq.keep M.below hz)) fun w3 M3=>an (fun h3 M=>no _ M.below) fun h3=>an (by omega)<|bk (i2+1) ⟨rfl,trivial⟩ (fun M=>⟨M,by omega,fun y hy=>?_⟩) (by dsimp only;omega)
  rw[List.take_add_one,hx] at hy;rcases List.mem_append.1 hy with hy|hy
  ·exact hb y hy
  ·obtain rfl:y=x:=by simpa using hy
   simp only[decide_eq_false_iff_not] at h3;omega
 simp only[decide_eq_false_iff_not] at h2;obtain rfl:i2=p.conds.length:=by omega
 refine lr (ι:=Nat) (fun m=>[(8,.int .i64 (m:Int))]) (fun m _=>m≤p.cons.length∧∀ x∈p.cons.take m,aL 13 x.expr≤6) (fun m=>p.cons.length-m) 0 (an ⟨⟨rfl,trivial⟩,fun M=>⟨M,Nat.zero_le _,by simp⟩⟩ ?_);rintro i3 w M ⟨Xy,hcn⟩;refine lb 1<|an rfl<|an (fun h2=>?_) fun h2=>?_
 ·simp only[decide_eq_true_eq] at h2;obtain⟨x,hx⟩:∃ x,p.cons[i3]?=some x:=⟨_,alD (by omega)⟩;obtain⟨b,o,z,rfl,⟨es,rfl,hz⟩,-,hc⟩:=cn i3 x hx
  have hc3:∀ j u,es[j]?=some u→w0.cell? ⟨b,o+i3*13+3+j,none⟩=some u:=fun j u hj=>by
   have h4:=hc (j+3) u (by simpa using hj)
   rwa [show o+i3*13+(j+3)=o+i3*13+3+j by omega] at h4
  obtain⟨nv,kv,rfl,-⟩:=hz.open;refine lb 1<|an rfl<|ia<|an ⟨rfl,rfl,by omega⟩<|lc<|an (bZ M.below hc3)<|cl<|an (cJ _ _ x.expr (bq.keep M.below hz)) fun w3 M3=>an (fun h3 M=>no _ M.below) fun h3=>an (by omega)<|bk (i3+1) ⟨rfl,trivial⟩ (fun M=>⟨M,by omega,fun y hy=>?_⟩) (by dsimp only;omega)
  rw[List.take_add_one,hx] at hy;rcases List.mem_append.1 hy with hy|hy
  ·exact hcn y hy
  ·obtain rfl:y=x:=by simpa using hy
   simp only[decide_eq_false_iff_not] at h3;omega
 simp only[decide_eq_false_iff_not] at h2;obtain rfl:i3=p.cons.length:=by omega
 rw[List.take_length] at ha hb hcn;exact ei (x:=1)<|an ⟨rfl,by decide⟩<|lb 0<|an rfl<|ei (x:=2)<|an (fun _=>⟨rfl,by decide⟩)<|lb 0<|an (fun _=>rfl)<|ei (x:=3)<|an (fun _=>⟨rfl,by decide⟩)<|lb 0<|an (fun _=>rfl) fun M=>⟨_,rfl,_,rfl,fun _=>⟨by constructor<;>omega,ha,hb,hcn⟩,M.below⟩
theorem Cq{p:aD}{ver k:Int}(h:gb aZ p ver=.error k):k≠0:=by
 unfold gb at h;split at h
 ·split at h
  ·split at h
   ·injection h with h;subst h;decide
   ·cases h
  ·injection h with h;subst h;assumption
 ·injection h with h;subst h;decide
theorem oP{p:aD}{ver:Int}{l:List Nat}(h:gb aZ p ver=.ok l):∃ v:Nat,ver=(v:Int)∧1≤v∧v≤3∧aZ p=0∧cr p≤v∧l=eP (dM v p):=by
 unfold gb at h;split at h
 ·rename_i h1;split at h
  ·rename_i h2;split at h
   ·cases h
   ·rename_i h3;injection h with h;obtain⟨v,rfl⟩:=Int.eq_ofNat_of_zero_le (a:=ver) (by omega);exact⟨v,rfl,by omega,by omega,h2,by omega,by rw[← h];simp⟩
  ·cases h
 ·cases h
end Go.Proofs.YtkkmjdceiocnbaaGreatDoor
namespace Go.Proofs.YtkkmjdceiocnbaaGreatDoor
open Go Go.ChangeAt Go.ChangeShapes Go.RowKit Go.WideShapes
theorem Kk{P:Program}{w:World}{t u s:TypeId}{vs:List Value}(h:Args P w [t,u,s] vs):∃ a b c,vs=[a,b,c]∧Arg P w t a∧Arg P w u b∧Arg P w s c:=by
 match vs,h with
 | [a,b,c],⟨h1,h2,h3,_⟩=>exact⟨a,b,c,rfl,h1,h2,h3⟩
theorem H9{n:Int}(h:(Lit.int .u8 n).wf=true):∃ m:Nat,n=m∧m<256:=by
 have a1:IntKind.u8.min=0:=by decide
 have a2:IntKind.u8.max=255:=by decide
 simp only[Lit.wf,a1,a2] at h;simp at h;exact⟨n.toNat,by omega,by omega⟩
theorem RT{n:Int}(h:(Lit.int .u16 n).wf=true):∃ m:Nat,n=m∧m<65536:=by
 have a1:IntKind.u16.min=0:=by decide
 have a2:IntKind.u16.max=65535:=by decide
 simp only[Lit.wf,a1,a2] at h;simp at h;exact⟨n.toNat,by omega,by omega⟩
theorem RZ{w:World}{v:Value}(h:Arg Tryz.prog w 5 v):∃ n:Nat,v=.int .u8 (n:Int)∧n<256:=by
 obtain⟨f,cs,h,rfl⟩:=h;rw[Tryz.underlying5];obtain⟨n,rfl,hn⟩:=h.int Tryz.underlying5;obtain⟨m,rfl,hm⟩:=H9 hn;exact⟨m,rfl,hm⟩
theorem OD{w:World}{v:Value}(h:Arg Tryz.prog w 56 v):∃ n:Nat,v=.int .u16 (n:Int)∧n<65536:=by
 obtain⟨f,cs,h,rfl⟩:=h;rw[Tryz.underlying56];obtain⟨n,rfl,hn⟩:=h.int Tryz.underlying56;obtain⟨m,rfl,hm⟩:=RT hn;exact⟨m,rfl,hm⟩
end Go.Proofs.YtkkmjdceiocnbaaGreatDoor
namespace Go.Proofs.YtkkmjdceiocnbaaGreatDoor
open Go
theorem jw5:Tryz.prog.wantsStandIn 5=false:=by kernel_rfl
theorem ab_:Tryz.prog.wantsStandIn 56=false:=by kernel_rfl
theorem EN:Tryz.prog.wantsStandIn 39=false:=by kernel_rfl
end Go.Proofs.YtkkmjdceiocnbaaGreatDoor
namespace Go.Proofs.YtkkmjdceiocnbaaGreatDoor
open Go Go.RowKit
theorem JX{w0:World}{v:Value}{l:List Nat}{k:Int}(h:aq w0 v l)(hL:l.length≤aT)(hpre:(∀ n r,cS l=.ok (n,r)→r.length≤aT)∧∀ n r p r',cS l=.ok (n,r)→wY n r=.ok (p,r')→p.Ok∧p.Md)(hd:nW aZ l=.error k):Calls Tryz.prog 16 #[v] w0 (fun r w'=>∃ u,r=.returned u∧((∃ (c0 c1 c2 c3 c4 c5 c6 c7 c8 c9 c10 c11 c12 c13 c14 c15 c16:Value),u=.tuple #[.agg #[c0,c1,c2,c3,c4,c5,c6,c7,c8,c9,c10,c11,c12,c13,c14,c15,c16],.int .i64 0,.int .i64 k]∧aA w' c0 c1 c2 c3 c4 c5 c6 c7 c8 c9 c10 c11 c12 c13 c14 c15 c16 q7)∧alE w0.heap.size w0 w')):=by
 refine(xB h hL hpre.1 hpre.2).mono fun r w' ⟨q,c0,c1,c2,c3,c4,c5,c6,c7,c8,c9,c10,c11,c12,c13,c14,c15,c16,n,k,h1,⟨T,hT,oF⟩,h2,h3⟩=>?_
 rw[hd] at h3;obtain⟨rfl,rfl,rfl⟩:=h3;exact⟨_,h1,⟨_,_,_,_,_,_,_,_,_,_,_,_,_,_,_,_,_,rfl,oF _ _ hT⟩,h2⟩
theorem aQ.abA{B:Nat}{w0 w:World}{bs:List Bx}{rs:List Rw}{g i:Nat}{row:Array Value}{v:Value}(M:aQ B w0 w bs rs)(hF:RK w g row)(hg:B≤g)(hbx:∀ b∈bs,b.1≠g)(Uj:∀ r∈rs,r.v.ownBlock≠some g):aQ B w0 (w.setCell ⟨g,i,none⟩ v) bs rs∧RK (w.setCell ⟨g,i,none⟩ v) g (row.setIfInBounds i v):=by
 have off:∀ q,q≠g→(w.setCell ⟨g,i,none⟩ v).heap[q]?=w.heap[q]?:=fun q hq=>by
  simp[World.setCell,Array.getElem?_modify,Ne.symm hq]
 have hF':w.heap[g]?=some (.cells row 5 (row.size,row.size+1)):=hF;have adh:alE B w (w.setCell ⟨g,i,none⟩ v):=⟨rfl,rfl,rfl,by simp[World.setCell],fun k hk=>off k (by omega)⟩;refine⟨⟨M.below.trans adh,M.le,fun q cs' h=>?_,fun b hb=>(M.box b hb).kept (off _ (hbx b hb)),M.lo,M.nd,fun r hr=>?_,M.far,M.yZ⟩,?_⟩
 ·have h1:Whole w q _ cs':=M.old q cs' h
  have hne:q≠g:=fun e=>by
   subst e;have h3:=h1.symm.trans hF';injection h3 with h3;injection h3 with _ h3;cases h3
  exact(off _ hne).trans h1
 ·obtain⟨hl,h⟩:=M.row r hr;rcases h with⟨h1,h2⟩|⟨q,cap,cur,h1,h2,h3,h4⟩
  ·exact⟨hl,.inl ⟨h1,h2⟩⟩
  ·have hne:q≠g:=fun e=>Uj r hr (by rw[h1,e];rfl)
   exact⟨hl,.inr ⟨q,cap,cur,h1,h2,(off _ hne).trans h3,h4⟩⟩
 ·unfold RK;simp[World.setCell,Array.getElem?_modify,hF']
theorem cvz{B:Nat}{w0 w:World}{bs:List Bx}{rs:List Rw}{ty:TypeId}{x:Operand}{s:ByteArray}{l:List Nat}{K:Value→List Bx→List Rw→World→Prop}(M:aQ B w0 w bs rs)(hs:s.size=l.length)(hl:cN s=l)
 (h:∀ g cap row w',RK w' g row→l.length≤cap→l.length≤row.size→(∀ j,j<l.length→row[j]?=(byteCells l)[j]?)→B≤g→(∀ b∈bs,b.1≠g)→(∀ r∈rs,r.v.ownBlock≠some g)→aQ B w0 w' bs rs→K (.slice (some ⟨g,0,none⟩) l.length cap) bs rs w') :
 ∃ R:Value→World→Prop,(∀ (a:Act) (o':Oper),o'.op=.convert 9 42 x→o'.type=ty→wj a (jW (.convert 9 42 x)) [.string s]→∃ v w',(execOp a.eval o').run Tryz.prog w=.ok (.value v) w'∧R v w')∧∀ v w',R v w'→∃ bs' rs',aQ B w0 w' bs' rs'∧K v bs' rs' w':=by
 have hr:=run_bytes_of_string (P:=Tryz.prog) w 9 42 5 s u9 KG u5;refine⟨fun u w2=>u=.slice (some ⟨w.heap.size,0,none⟩) s.size (grownCap w s.size 0 5)∧w2=w.drew.alloc (.cells (bytesRow s (grownCap w s.size 0 5)) 5 ((bytesRow s (grownCap w s.size 0 5)).size,(bytesRow s (grownCap w s.size 0 5)).size+1)),fun a o' hop _ pW=>⟨_,_,?_,rfl,rfl⟩,?_⟩
 ·unfold execOp;simp[hop,aY pW,hr,Sem.run_bind,Result.andThen]
 ·rintro v w2 ⟨rfl,rfl⟩;have hb:alE w.heap.size w (w.drew.alloc (.cells (bytesRow s (grownCap w s.size 0 5)) 5 ((bytesRow s (grownCap w s.size 0 5)).size,(bytesRow s (grownCap w s.size 0 5)).size+1))):=(Below.refl _ w).drew.alloc (Nat.le_refl _) _;have hcap:s.size≤grownCap w s.size 0 5:=grownCap_ge ..
  have hrow:∀ j,j<l.length→(bytesRow s (grownCap w s.size 0 5))[j]?=(byteCells l)[j]?:=fun j hj=>by
   rw[← hs] at hj;unfold bytesRow;rw[Array.getElem?_append_left (by simpa using hj),← hl];simp[byteCells,cN];rfl
  have hsz:l.length≤(bytesRow s (grownCap w s.size 0 5)).size:=by
   rw[← hs];unfold bytesRow;simp
  have key:=h w.heap.size (grownCap w s.size 0 5) _ _ (heap_alloc_new w.drew _) (by rw[← hs];exact hcap) hsz hrow M.big (fun b hb'=>Nat.ne_of_lt (M.box b hb').lt) (fun r hr e=>Nat.lt_irrefl _ ((M.row r hr).lt _ e).2) (M.keep hb);rw[← hs] at key;exact⟨_,_,M.keep hb,key⟩
theorem stz{B:Nat}{w0 w:World}{bs:List Bx}{rs:List Rw}{ty:TypeId}{x y:Operand}{g i off:Nat}{row:Array Value}{b:Int}{K:List Bx→List Rw→World→Prop}{X Y:Prop}(M:aQ B w0 w bs rs)(hF:RK w g row)(hoff:off=i)(hi:i<row.size)(hg:B≤g)(hbx:∀ b∈bs,b.1≠g)(Uj:∀ r∈rs,r.v.ownBlock≠some g)
 (h:∀ w',RK w' g (row.setIfInBounds i (.int .u8 b))→aQ B w0 w' bs rs→K bs rs w') :
 X∨Y∨∃ R:World→Prop,(∀ (a:Act) (o':Oper),o'.op=.store 5 x y→o'.type=ty→wj a (jW (.store 5 x y)) [.pointer (some ⟨g,off,none⟩),.int .u8 b]→∃ w',(execOp a.eval o').run Tryz.prog w=.ok .skip w'∧R w')∧∀ w',R w'→∃ bs' rs',aQ B w0 w' bs' rs'∧K bs' rs' w':=by
 subst hoff;obtain⟨M',hF2⟩:=M.abA (i:=off) (v:=.int .u8 b) hF hg hbx Uj
 have hth:w.there g off 1:=fun j hj=>by
  obtain rfl:j=0:=by omega
  refine⟨?_,?_⟩
  ·rw[Nat.add_zero,cell_of_row _ _ off _ _ _ hF,Array.getElem?_eq_getElem hi];rfl
  ·have hF':w.heap[g]?=some (.cells row 5 (row.size,row.size+1)):=hF;unfold World.frozen?;simp only[hF'];simp;omega
 have h5:(Tryz.prog.info? 5).map (·.size)=some 1:=by kernel_rfl
 refine .inr (.inr ⟨fun w2=>w2=w.setCell ⟨g,off,none⟩ (.int .u8 b),fun a o' hop _ pW=>⟨_,?_,rfl⟩,?_⟩)
 ·unfold execOp;simp only[hop,aY pW,cC pW,Instr.storeAt,Instr.sureAddr,Sem.run_bind,Sem.run_pure,Result.andThen_ok,sG (P:=Tryz.prog) w g off 5 (.int .u8 b) hth h5 (by rfl)];rfl
 ·rintro w2 rfl;exact⟨_,_,M',h _ hF2 M'⟩
theorem UO{a c:Nat}(ha:a<256)(hc:c<256):bits .xor .u8 (a:Int) (c:Int)=((a ^^^ c:Nat):Int):=by
 have hx:a ^^^ c<2^8:=Nat.xor_lt_two_pow (by omega) (by omega)
 have k1:(BitVec.ofInt 8 (a:Int)).toNat=a:=by
  rw[BitVec.ofInt_natCast,BitVec.toNat_ofNat];exact Nat.mod_eq_of_lt (by omega)
 have k2:(BitVec.ofInt 8 (c:Int)).toNat=c:=by
  rw[BitVec.ofInt_natCast,BitVec.toNat_ofNat];exact Nat.mod_eq_of_lt (by omega)
 show IntKind.u8.wrap ((BitVec.ofInt 8 (a:Int) ^^^ BitVec.ofInt 8 (c:Int)).toNat:Int)=_;rw[BitVec.toNat_xor,k1,k2];simp only[IntKind.wrap,IntKind.bits,IntKind.signed];simp;omega
theorem UQ{a c:Nat}(hc:c≠0):a≠a ^^^ c:=fun e=>by
 have h:=congrArg (a ^^^ ·) e;simp only[Nat.xor_self,← Nat.xor_assoc,Nat.zero_xor] at h;exact hc h.symm
theorem Sk{P:Program}{o:Oper}{a:Act}{w:World}{ty yt:TypeId}{x y:Operand}{m n:Nat}(hn:0<n)(ho:o.op=.binOp .rem ty x y yt)(hx:a.eval x=.int .i64 (m:Int))(hy:a.eval y=.int .i64 (n:Int)):(execOp a.eval o).run P w=.ok (.value (.int .i64 ((m%n:Nat):Int))) w:=by
 rw[QY ho hx hy (by omega),Int.tmod_eq_emod_of_nonneg (by omega),← Int.natCast_emod]
theorem FX{l:List Nat}(h:Bytes l):cN (strOf l)=l:=by
 unfold cN strOf;rw[List.map_map]
 conv=>rhs;rw[← List.map_id l]
 refine List.map_congr_left fun x hx=>?_
 have:=h x hx;simp;omega
theorem NP{l:List Nat}(h:gZ l=([],7)):cS l=.error 7:=by
 unfold cS;rw[h];rfl
theorem JY(w0:World)(c0 c1 c2 c3 c4 c5 c6 c7 c8 c9 c10 c11 c12 c13 c14 c15 c16:Value)(p:aD)(hp:aA w0 c0 c1 c2 c3 c4 c5 c6 c7 c8 c9 c10 c11 c12 c13 c14 c15 c16 p)(hok:p.Ok)(n:Nat)(hn:n<65536)(m:Nat)(hm:m<256):Calls Tryz.prog 8 #[.agg #[c0,c1,c2,c3,c4,c5,c6,c7,c8,c9,c10,c11,c12,c13,c14,c15,c16],.int .u16 (n:Int),.int .u8 (m:Int)] w0 (fun r w'=>r=.returned (.bool true)∧alE w0.heap.size w0 w'):=by
 have hp':=hp;obtain⟨a0,a1,a2,a3,a4,a5,a6,a7,a8,a9,rF,rE,a12,rD,rC,rB,rA,k0,k1,k2,k3,k4,k5,k6,k7,k8,k9,k10,k11,k12,k13,k14,k15,k16,rfl,rfl,rfl,rfl,rfl,rfl,rfl,rfl,rfl,rfl,rfl,rfl,rfl,rfl,rfl,rfl,rfl⟩:=hp.open;refine aa6 [] [9] (fn:=Tryz.f8) Tryz.func8 rfl Tryz.ntmps8 rfl<|fun g1 w1 M1=>lb 0<|an rfl<|cg<|an (ld w1 _ _ _ _ _ _ _ _ _ _ _ _ _ _ _ _ _ p (hp'.keep M1.below) hok) ?_
 rintro _ w2 ⟨b,rfl,pR,hb2⟩;have M2:=M1.keep hb2;refine⟨_,_,M2,an (fun h=>cl<|an (dW _) fun w3 M3=>fun M=>⟨rfl,M.below⟩) fun h=>?_⟩;have hs:=pR (by simpa using h);refine lb 0<|an rfl<|?_
 cases he:gb aZ p 3 with
 | error k=>
  have hk:=Cq he;exact cl<|an (Cr (hp'.keep M2.below) hok hs (by unfold gA;omega) he) fun w3 M3=>an (fun h=>cl<|an (dW _) fun w4 M4=>fun M=>⟨rfl,M.below⟩) fun h=>absurd h (by simp[hk])
 | ok l=>
  obtain⟨v,hv,h1,h3,yE,hle,hl⟩:=oP he;obtain rfl:v=3:=by omega
  obtain⟨XC,hlen⟩:=tP hs hok yE;have NX:Bytes l:=by rw[hl];exact uZ (kR 3 p)
  have Wh:l.length≤aT:=by rw[hl];exact tR h3 (hlen 3)
  have hl0:0<l.length:=by rw[hl,mT];omega
  refine cg<|an (zB (hp'.keep M2.below) hok hs (by unfold gA;omega) he) ?_;rintro _ w3 ⟨⟨ua,uc,rfl,ho⟩,fL⟩;have M3:=M2.sj (r:=bf _ l) fL ho;refine⟨_,_,M3,an (fun h=>cl<|an (dW _) fun w4 M4=>fun M=>⟨rfl,M.below⟩) fun h=>?_⟩;have hm0:m≠0:=fun e=>by subst e;simp at h
  refine zD M3 (dV (M3.r 0 rfl) NX)<|cvz M3 (wO l) (FX NX) fun g cap row w4 hF hcap Uj hrow hgB hbx hrr M4=>?_
  obtain⟨i,hi,ET⟩:∃ i,n%l.length=i∧i<l.length:=⟨_,rfl,Nat.mod_lt _ hl0⟩;obtain⟨y,hy⟩:∃ y,l[i]?=some y:=⟨_,alD ET⟩;have hy8:y<256:=NX y (List.mem_of_getElem? hy)
  have hcell:w4.cell? ⟨g,0+i*1,none⟩=some (.int .u8 (y:Int)):=by
   rw[Nat.zero_add,Nat.mul_one,cell_of_row _ _ i _ _ _ hF,hrow i ET];simp[byteCells,hy]
  have hs':∀ w',RK w' g (row.setIfInBounds i (.int .u8 ((y ^^^ m:Nat):Int)))→aq w' (.slice (some ⟨g,0,none⟩) l.length cap) (l.set i (y ^^^ m)):=fun w' hF'=>by
   have hx8:y ^^^ m<256:=Nat.xor_lt_two_pow (n:=8) (by omega) (by omega)
   have hb':Bytes (l.set i (y ^^^ m)):=fun x hx=>by
    rcases List.mem_or_eq_of_mem_set hx with h|h
    ·exact NX x h
    ·omega
   have h:=RK.bytes (l:=l.set i (y ^^^ m)) hF' hb' (by rw[List.length_set];unfold aT at Wh;omega) (by rw[List.length_set];exact hcap) fun j hj=>by
    rw[List.length_set] at hj;rw[Array.getElem?_setIfInBounds];by_cases e:i=j
    ·subst e;simp[byteCells,ET,show i<row.size by omega]
    ·rw[if_neg e,hrow j hj];simp[byteCells,List.getElem?_set,e]
   rwa [List.length_set] at h
  refine ei (x:=.int .i64 (n:Int))<|an (fun a w o ho hv=>(eI ho (aY hv) u56 u3).trans (by rw[show IntKind.i64.wrap (n:Int)=n by simp[IntKind.wrap,IntKind.bits,IntKind.signed];omega]))<|ei (x:=.int .i64 (i:Int))<|an (fun a w o ho hv=>(Sk hl0 ho (aY hv) (cC hv)).trans (by rw[hi]))<|ia (i:=i)<|an ⟨rfl,rfl,ET⟩<|lc (x:=.int .u8 (y:Int))<|an hcell<|ei (x:=((y ^^^ m:Nat):Int))<|an (UO hy8 hm)<|ia (i:=i)<|an ⟨rfl,rfl,ET⟩<|stz (i:=i) M4 hF (by rw[Nat.zero_add,Nat.mul_one]) (by omega) hgB hbx hrr fun w5 hF5 M5=>?_
  have hB5:=hs' w5 hF5
  have hop:gZ (l.set i (y ^^^ m))=([],7):=by
   rw[hl] at hy ⊢;exact Ew (kR 3 p) hy (UQ hm0) (Nat.xor_lt_two_pow (n:=8) (by omega) (by omega))
  have hfr:=NP hop;have hL5:(l.set i (y ^^^ m)).length≤aT:=by rw[List.length_set];exact Wh
  have Wo:nW aZ (l.set i (y ^^^ m))=.error 7:=by unfold nW;rw[hfr]
  have hvm:wN (l.set i (y ^^^ m))=.error 7:=by unfold wN;rw[hfr]
  refine cg<|an (JX hB5 hL5 ⟨fun n r h=>(by rw[hfr] at h;cases h),fun n r p r' h=>(by rw[hfr] at h;cases h)⟩ Wo) ?_;rintro _ w6 ⟨⟨c0,c1,c2,c3,c4,c5,c6,c7,c8,c9,c10,c11,c12,c13,c14,c15,c16,rfl,oF⟩,zx⟩;have M6:=(Mm.start w5).keep zx;have hpc:=oF;obtain⟨_,_,_,_,_,_,_,_,_,_,_,_,_,_,_,_,_,_,_,_,_,_,_,_,_,_,_,_,_,_,_,_,_,_,rfl,rfl,rfl,rfl,rfl,rfl,rfl,rfl,rfl,rfl,rfl,rfl,rfl,rfl,rfl,rfl,rfl⟩:=hpc.open;refine⟨_,_,M6,ei<|an Ac fun g2 w7 M7=>lb 0<|an ⟨rfl,rfl⟩ fun w8 M8=>cg<|an (Oz (hB5.keep M8.below) hL5 hvm) ?_⟩;rintro _ w9 ⟨⟨x9,rfl⟩,Y8⟩;exact⟨_,_,M8.keep Y8,cl<|an (fun _=>dW _) fun pT j3=>fun M=>⟨by simp;rfl,M.below⟩⟩
end Go.Proofs.YtkkmjdceiocnbaaGreatDoor

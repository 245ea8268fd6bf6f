import Derived.JoinedOf
import Derived.LaidMore
import Derived.OpenShut
import Derived.ProofKit
import Derived.SizedLaws
import Derived.Stop.Joined
import Derived.Test.YtkkmjdceiocnbaaGreatDoorCards
import Derived.Test.YtkkmjdceiocnbaaGreatDoorChecked
import Derived.Test.YtkkmjdceiocnbaaGreatDoorRows
import Derived.Test.YtkkmjdceiocnbaaGreatDoorTie
import Derived.Test.YtkkmjdceiocnbaaGreatDoorSTB
set_option maxRecDepth 100000
set_option maxHeartbeats 8000000
set_option linter.unusedSectionVars false
set_option linter.unusedSimpArgs false
set_option linter.unusedVariables false
namespace Go.Proofs.YtkkmjdceiocnbaaGreatDoor
open Go Go.RowKit
theorem dW(w0:World):Calls Tryz.prog 12 #[] w0 (fun r w'=>r=.returned (.bool true)∧RowKit.Below w0.heap.size w0 w'):=by
 refine bM [] (vs:=[]) (fn:=Tryz.f12) Tryz.func12 rfl Tryz.ntmps12 rfl<|cg<|an (wQ w0) ?_;rintro _ w1 ⟨s2,s3,s4,s5,s6,s9,s12,Eh,Mq,s17,s18,s37,s42,s46,rfl,M1⟩;unfold SB at M1;refine⟨_,_,M1,ei<|an Ac fun g1 w2 M2=>lb 0<|an ⟨rfl,rfl⟩ fun w3 M3=>lb 0<|an rfl<|cg<|an (zB (tS (rs:=[]) (M3.only (.cons _ (.refl _)) (.refl _))) tU xS (by unfold gA;omega) OV) ?_⟩;rintro _ w4 ⟨⟨ua,uc,rfl,ho4⟩,uq⟩;have aeG:=Mn
 obtain⟨gu,rfl,huc⟩:∃ gu,ua=some ⟨gu,0,none⟩∧jq.length≤uc:=by
  rcases ho4.2 with⟨-,h⟩|⟨g,cap,cur,h1,-,-,h2,-⟩
  ·omega
  ·injection h1 with h1 h3 h4;exact⟨g,h1,by omega⟩
 have M4:=M3.sj (r:=bf _ jq) uq ho4;refine⟨_,_,M4,cg<|an (E8 (dV (M4.r 0 rfl) wR) zQ (Cy (by decide) (by decide) KR tU xS.md (by have:=xT 1;omega)) OW) ?_⟩;rintro _ w5 ⟨⟨c0,c1,c2,c3,c4,c5,c6,c7,c8,c9,c10,c11,c12,c13,c14,c15,c16,T,rfl,hT,oF⟩,uL⟩;have M5:=M4.vV uL hT;have hpc:=oF _ _ hT;obtain⟨_,_,_,_,_,_,_,_,_,_,_,_,_,_,_,_,_,_,_,_,_,_,_,_,_,_,_,_,_,_,_,_,_,_,rfl,rfl,rfl,rfl,rfl,rfl,rfl,rfl,rfl,rfl,rfl,rfl,rfl,rfl,rfl,rfl,rfl⟩:=hpc.open;refine⟨_,_,M5,ei<|an Ac fun g2 w6 M6=>lb 0<|an ⟨rfl,rfl⟩ fun w7 M7=>cl<|an (Oy (dV (M7.r 0 rfl) wR) zQ OU) fun w8 M8=>lb 1<|an rfl<|cl<|an (vS w8 _ _ _ _ _ _ _ _ _ _ _ _ _ _ _ _ _ iA (tS (rs:=[]) (M8.only (.cons _ (.cons _ (.refl _))) (List.nil_sublist _))) tU xS.md) fun w9 M9=>lb 1<|an rfl<|ia<|an ⟨rfl,rfl,by decide⟩<|lb 11<|an ⟨rfl,rfl⟩ fun pT j3=>lb 1<|an rfl<|cl<|an (vS pT _ _ _ _ _ _ _ _ _ _ _ _ _ _ _ _ _ tT (zP (rs:=[]) (j3.only (.cons _ (.cons _ (.refl _))) (List.nil_sublist _))) KQ KO.md) fun yY M11=>lb 1<|an rfl<|cl<|an (Cr (zP (rs:=[]) (M11.only (.cons _ (.cons _ (.refl _))) (List.nil_sublist _))) KQ KO (by unfold gA;omega) OT) fun Dh y9=>cg<|an (Ox Dh) ?_⟩;rintro _ RW ⟨gv,rfl,Mv⟩;have FD:=y9.GQ Mv;refine⟨_,_,FD,cg<|an (Oz (l:=[]) (k:=5) (aq.nil _) (by unfold aT;simp) (by kernel_rfl)) ?_⟩;rintro _ RV ⟨⟨x14,rfl⟩,G1⟩;have H7:=FD.keep G1;refine⟨_,_,H7,?_⟩;have g7:decide ((jq.length:Int)<7)=false:=by simp;omega
 have hhd:∀ w,aq w (.slice (some ⟨gu,0,none⟩) jq.length uc) jq→aq w (.slice (some ⟨gu,0,none⟩) 6 uc) [65,67,80,66,1,3]:=fun w h=>by
  have h2:=Dt h (n:=6) (by omega)
  rwa [Mp] at h2
 refine gt (.step 0 (.step 1 (.step 2 (.step 3 (.step 4 (.step 5 (.step 6 (.step 7 (.step 8 (.step 9 (.step 10 (.step 11 (.step 12 (.step 13 (.step 14 (.step 15 (.step 16 (.step 17 (.step 18 (.step 19 (.step 20 (.step 21 (.alt (.step 22 (.step 23 (.step 24 (.step 25 (.step 26 .done))))) (.step 23 (.step 22 (.step 24 (.step 25 (.step 26 .done)))))))))))))))))))))))))))) (by kernel_rfl)<|fun RU JE CQ=>?_
 refine an rfl<|an rfl<|an rfl<|an rfl<|an rfl<|an rfl<|an rfl<|an rfl<|an (by simp[g7])<|an (by simp[g7])<|chi (k:=6) (c:=uc) CQ (by omega) (by omega)<|an (by simp[g7])<|zD CQ (hhd _ (dV (CQ.r 0 rfl) wR))<|an (by simp[g7])<|ei (x:=.bool false)<|an (fun a w o ho hv=>(QZ ho (aY hv) (cC hv)).trans (by rw[kZ,show strOf [65,67,80,66,1,3]=(⟨#[65,67,80,66,1,3]⟩:ByteArray) from rfl];simp))<|an rfl<|an rfl<|an (by simp[g7])<|an (by simp[g7])<|an rfl<|an rfl<|an (by simp[g7])<|an (by simp[g7])<|an rfl<|an rfl<|⟨?_,?_⟩
 ·refine an (by simp[g7])<|lb 1<|an rfl<|an (by simp[g7])<|cg<|an (wQ _) ?_;rintro _ Rx ⟨t2,t3,t4,t5,t6,t9,t12,t15,t16,t17,t18,t37,t42,t46,rfl,CK⟩;have Ca:=tS CK;unfold SB at CK;have Ft:=CQ.GQ CK;refine⟨_,_,Ft,an (by simp[g7])<|cl<|an (zi (oF _ _ Ft.pU.right) Ca tU (xT 3)) fun TU Ob=>an (by simp[g7])<|an rfl<|an (fun h=>absurd h (by simp[g7])) fun h=>?_⟩;exact ia<|an (fun _=>⟨rfl,rfl,by decide⟩)<|lb 14<|an (fun _=>rfl)<|ia<|an (fun _=>⟨rfl,rfl,by decide⟩)<|lb 14<|an (fun _=>rfl)<|ia<|an (fun _=>⟨rfl,rfl,by decide⟩)<|lb 14<|an (fun _=>rfl)<|fun M=>⟨by simp[oA,tV,wT,wS];rfl,M.below⟩
 ·refine an (by simp[g7])<|cg<|an (wQ _) ?_;rintro _ Rx ⟨t2,t3,t4,t5,t6,t9,t12,t15,t16,t17,t18,t37,t42,t46,rfl,CK⟩;have Ca:=tS CK;unfold SB at CK;have Ft:=CQ.GQ CK;refine⟨_,_,Ft,an (by simp[g7])<|lb 15<|an rfl<|an (by simp[g7])<|cl<|an (zi (oF _ _ Ft.pU.right) Ca tU (xT 3)) fun TU Ob=>an (by simp[g7])<|an rfl<|an (fun h=>absurd h (by simp[g7])) fun h=>?_⟩;exact ia<|an (fun _=>⟨rfl,rfl,by decide⟩)<|lb 14<|an (fun _=>rfl)<|ia<|an (fun _=>⟨rfl,rfl,by decide⟩)<|lb 14<|an (fun _=>rfl)<|ia<|an (fun _=>⟨rfl,rfl,by decide⟩)<|lb 14<|an (fun _=>rfl)<|fun M=>⟨by simp[oA,tV,wT,wS];rfl,M.below⟩
end Go.Proofs.YtkkmjdceiocnbaaGreatDoor
namespace Go.Proofs.YtkkmjdceiocnbaaGreatDoor
open Go Go.ChangeAt Go.ChangeShapes Go.RowKit Go.WideShapes
theorem MB:ownKnob Tryz.prog.godebug=none:=by kernel_rfl
theorem uG:laidOutB Tryz.prog=true:=by kernel_rfl
def nO:List (String×DataW Unit):=[("bytes.ErrTooLarge",Rows.laid_bytes_ErrTooLarge)]
theorem tg(os:Os)(args:Array Value):laidMetH Tryz.prog nO ((World.doorLaid Tryz.prog 400 os).forCall (fun _ _=>0) ⟨#[],args,[]⟩).memory:=
 laidMetH_of_parts3 (fuel:=8) (laidMet_of_run' 8 (by kernel_rfl) (by kernel_rfl)) (by kernel_rfl) (by kernel_rfl)
section
variable {H:Type} {enc:TypeId×Value→H}
theorem iq{C:Checked}{os:Os}{f:FuncId}{fn:Func}{s:ChangeSpec}{X:World→Prop}(hX:∀ (w w':World),w.heap=w'.heap→X w→X w')(own:ownKnob C.prog.godebug=none)(laid:laidOutB C.prog=true)(started:os.Started)
 (noInit:C.prog.inits.idxOf? f=none) (hfn:C.prog.funcs[f]?=some fn) (hv:s.vars=[]) (tb:TypeId) (hres:fn.resultTypes=#[tb]) (hb:C.prog.underlying tb=some .bool)
 (hpar:fn.params.toList.all (fun t=>isVar C.prog t&&C.prog.readableRec t)=true)
 (hspec:∀ ds:List (DataW H),ds.length=fn.params.toList.length→s.fn H ds={ results:=[.lit (.bool true)],args:=ds })
 (witness:∃ (w:World) (tape:Tape) (i:Input),w.os=os∧(w.forCall tape i).Shaped C.prog∧i.vars=[]∧Input.okWide C.prog (w.forCall tape i) .any w.heap.size f i ∧
  ((s.pre enc C.prog fn [] false (w.forCall tape i).memory i.args∧X (w.forCall tape i).memory)∧sizedMet enc C.prog fn (OpenSpec.ofChange s) false (w.forCall tape i).memory i.args)∧({}:Assume).holds C.prog (lone (Frame.enter C.prog f i.args .normal) [] (w.forCall tape i)))
 (contract:∀ (W:World) (args:Array Value),Args C.prog W fn.params.toList args.toList→X W→Calls C.prog f args W fun e W'=>e=.returned (.bool true)∧Below W.heap.size W W') :
 ReturnsInHanded {} C os f .any (fun w args=>(s.pre enc C.prog fn [] false w args∧X w)∧sizedMet enc C.prog fn (OpenSpec.ofChange s) false w args) (s.post enc C.prog fn false true false false):=by
 refine returnsInHanded_of_change_and (C:=C) (X:=fun w _=>X w) (fun w w' _ hh h=>hX w w' hh h) own started noInit hfn witness ?_;intro W base args ds gs before hval hW _ hsz hL _;have hW':=hW;obtain⟨p,q,hA,hV,rfl,_,_⟩:=hW;rw[hv] at hV;obtain⟨rfl,rfl⟩:=trodVars_none hV
 have hp:∀ t∈fn.params.toList,isVar C.prog t=true∧C.prog.readableRec t=true:=fun t ht=>by
  have:=List.all_eq_true.1 hpar t ht;simpa using this
 have hw:∀ n∈DataW.weightsEach C.prog fn.params.toList ds,n≤reachBytes:=fun n hn=>by
  have:=List.all_eq_true.1 hsz n (by
   have:s.plain.varTypes C.prog=[]:=by simp[ChangeSpec.plain,DataSpec.varTypes,hv]
   rw[this,List.append_nil,List.append_nil];exact hn)
  simpa using this
 refine(contract W args (LY laid (fun t ht=>(hp t ht).1) (fun j t v h1 h2=>hval j t v (by simpa using h1) (by simpa using h2)) hA hw) hL).mono fun e W' ⟨he,hB⟩=>?_
 subst he;exact⟨_,rfl,PU laid hv tb hres hb hpar hspec hW' hB⟩
end
end Go.Proofs.YtkkmjdceiocnbaaGreatDoor
namespace Go.Proofs.YtkkmjdceiocnbaaGreatDoor
open Go
theorem aH{a b:Bool}(ha:a=true)(hb:b=true):(a&&b)=true:=by rw[ha,hb];rfl
theorem Xq:(mapsRowed Tryz.prog)=true:=by kernel_rfl
theorem Xp:((Tryz.prog.stops == []))=true:=by kernel_rfl
theorem Xo:((Tryz.prog.stopKnobs == []))=true:=by kernel_rfl
theorem Nd:(Tryz.prog.stopsHeard)=true:=by kernel_rfl
theorem Nc:(Tryz.prog.mayEnter)=true:=by kernel_rfl
theorem DE:Tryz.prog.mainIs=some (true,"21cd7d88085a88a46529f49a80f1c1ae8c50f5ac4152a0b85a4be9318cf10102".toList):=by kernel_rfl
theorem DF:true=Tryz.prog.looks []:=by kernel_rfl
end Go.Proofs.YtkkmjdceiocnbaaGreatDoor
namespace Go.Proofs.YtkkmjdceiocnbaaGreatDoor
open Go Go.RowKit
def RK(w:World)(g:Nat)(row:Array Value):Prop:=w.heap[g]?=some (.cells row 5 (row.size,row.size+1))
theorem RK.bytes{w:World}{g c:Nat}{row:Array Value}{l:List Nat}(h:RK w g row)(hb:Bytes l)(hl:l.length≤9223372036854775807)(hc:l.length≤c)(hr:∀ j,j<l.length→row[j]?=(byteCells l)[j]?):aq w (.slice (some ⟨g,0,none⟩) l.length c) l:=by
 refine⟨⟨by simp[byteCells],by unfold maxLen;omega,kQ _,.inr ⟨_,_,rfl,hc,fun j u hu=>?_⟩⟩,hb⟩;rw[Addr.add_lit,Nat.zero_add,cell_of_row _ _ j _ _ _ h]
 have hj:j<l.length:=by
  have:=(List.getElem?_eq_some_iff.1 hu).1;simpa[byteCells] using this
 rw[hr j hj];exact hu
def yX(w:World)(v:Value)(s:List Bool):Prop:=SliceAt w v 1 s.length (s.map Value.bool)
theorem yX.keep{w w':World}{v:Value}{s:List Bool}(h:yX w v s)(hb:RowKit.Below w.heap.size w w'):yX w' v s:=SliceAt.keep h hb
inductive Ah:aS→Prop
 | node {op a rel b:Int} {names:List ByteArray} {set:aE} {kids:List aS}:(op=8→(0≤a∧a<15)∧0≤b∧b<15)→(op=9→0≤a∧a<15)→set.Ok→(∀ k∈kids,Ah k)→Ah (.node op a rel b names set kids)
theorem Ah.parts{e:aS}(h:Ah e):(e.op=8→(0≤e.a∧e.a<15)∧0≤e.b∧e.b<15)∧(e.op=9→0≤e.a∧e.a<15)∧e.set.Ok∧∀ k∈e.kids,Ah k:=by
 cases h with|node h1 h2 h3 h4=>exact⟨h1,h2,h3,h4⟩
end Go.Proofs.YtkkmjdceiocnbaaGreatDoor

import Derived.JoinedOf
import Derived.LaidMore
import Derived.OpenShut
import Derived.ProofKit
import Derived.Shelf.SlicesE.Clone
import Derived.SizedLaws
import Derived.Stop.Joined
import Derived.Test.YtkkmjdceiocnbaaGreatDoorCards
import Derived.Test.YtkkmjdceiocnbaaGreatDoorChecked
import Derived.Test.YtkkmjdceiocnbaaGreatDoorProg
import Derived.Test.YtkkmjdceiocnbaaGreatDoorRows
import Derived.Test.YtkkmjdceiocnbaaGreatDoorTie
import Derived.Test.YtkkmjdceiocnbaaGreatDoorSXTD
open Go.RowKit renaming Below→akj
open List renaming length_map→akk,getElem?_map→akl,mem_of_getElem?→akn,mem_map→akp,getElem?_eq_getElem→akr,take_length→aks,length_append→akt,length_take→aku,flatMap_append→akv,all_eq_true→akw,getElem?_eq_some_iff→akx,mem_cons_self→aky
open Nat renaming le_trans→akm,zero_le→ako,mul_le_mul_right→akq
set_option maxRecDepth 100000
set_option maxHeartbeats 8000000
set_option linter.unusedSectionVars false
set_option linter.unusedSimpArgs false
set_option linter.unusedVariables false
namespace Go.Proofs.YtkkmjdceiocnbaaGreatDoor
open Go Go.RowKit
theorem uJ(w0:World):Calls Tryz.prog 12 #[] w0 (fun r w'=>r=.returned (.bool true)∧akj w0.heap.size w0 w'):=by
 refine bU [] (vs:=[]) (fn:=Tryz.f12) Tryz.func12 rfl Tryz.ntmps12 rfl<|cg<|an (rN w0) ?_;rintro _ w1 ⟨s2,s3,s4,s5,s6,s9,s12,LB,VQ,s17,s18,s37,s42,s46,rfl,M1⟩;unfold SB at M1;refine⟨_,_,M1,ei<|an rM fun g1 w2 M2=>lb 0<|an ⟨rfl,rfl⟩ fun w3 M3=>lb 0<|an rfl<|cg<|an (yF (oA (rs:=[]) (M3.only (.cons _ (.refl _)) (.refl _))) oC sE (by unfold eF;omega) Lz) ?_⟩;rintro _ w4 ⟨⟨ua,uc,rfl,ho4⟩,pI⟩;have acp:=I6
 obtain⟨gu,rfl,huc⟩:∃ gu,ua=some ⟨gu,0,none⟩∧fI.length≤uc:=by
  rcases ho4.2 with⟨-,h⟩|⟨g,cap,cur,h1,-,-,h2,-⟩
  ·omega
  ·injection h1 with h1 h3 h4;exact⟨g,h1,by omega⟩
 have M4:=M3.qo (r:=aH _ fI) pI ho4;refine⟨_,_,M4,cg<|an (BU (dX (M4.r 0 rfl) rO) uX (DL (by decide) (by decide) G6 oC sE.md (by have:=sF 1;omega)) LA) ?_⟩;rintro _ w5 ⟨⟨c0,c1,c2,c3,c4,c5,c6,c7,c8,c9,c10,c11,c12,c13,c14,c15,c16,T,rfl,hT,lA⟩,ze⟩;have M5:=M4.mQ ze hT;have hpc:=lA _ _ hT;obtain⟨_,_,_,_,_,_,_,_,_,_,_,_,_,_,_,_,_,_,_,_,_,_,_,_,_,_,_,_,_,_,_,_,_,_,rfl,rfl,rfl,rfl,rfl,rfl,rfl,rfl,rfl,rfl,rfl,rfl,rfl,rfl,rfl,rfl,rfl⟩:=hpc.open;refine⟨_,_,M5,ei<|an rM fun g2 w6 M6=>lb 0<|an ⟨rfl,rfl⟩ fun w7 M7=>cl<|an (RL (dX (M7.r 0 rfl) rO) uX Ly) fun w8 M8=>lb 1<|an rfl<|cl<|an (um w8 _ _ _ _ _ _ _ _ _ _ _ _ _ _ _ _ _ dZ (oA (rs:=[]) (M8.only (.cons _ (.cons _ (.refl _))) (List.nil_sublist _))) oC sE.md) fun w9 M9=>lb 1<|an rfl<|ia<|an ⟨rfl,rfl,by decide⟩<|lb 11<|an ⟨rfl,rfl⟩ fun pE jH=>lb 1<|an rfl<|cl<|an (um pE _ _ _ _ _ _ _ _ _ _ _ _ _ _ _ _ _ oB (uW (rs:=[]) (jH.only (.cons _ (.cons _ (.refl _))) (List.nil_sublist _))) G5 G4.md) fun uO M11=>lb 1<|an rfl<|cl<|an (TV (uW (rs:=[]) (M11.only (.cons _ (.cons _ (.refl _))) (List.nil_sublist _))) G5 G4 (by unfold eF;omega) Lx) fun zi q5=>cg<|an (Lc zi) ?_⟩;rintro _ KD ⟨gv,rfl,Mv⟩;have zf:=q5.Dr Mv;refine⟨_,_,zf,cg<|an (RM (l:=[]) (k:=5) (aj.nil _) (by unfold aF;simp) (by kernel_rfl)) ?_⟩;rintro _ KC ⟨⟨x14,rfl⟩,BD⟩;have Cb:=zf.keep BD;refine⟨_,_,Cb,?_⟩;have g7:decide ((fI.length:Int)<7)=false:=by simp;omega
 have hhd:∀ w,aj w (.slice (some ⟨gu,0,none⟩) fI.length uc) fI→aj w (.slice (some ⟨gu,0,none⟩) 6 uc) [65,67,80,66,1,3]:=fun w h=>by
  have h2:=zY h (n:=6) (by omega)
  rwa [I7] at h2
 refine gt (.step 0 (.step 1 (.step 2 (.step 3 (.step 4 (.step 5 (.step 6 (.step 7 (.step 8 (.step 9 (.step 10 (.step 11 (.step 12 (.step 13 (.step 14 (.step 15 (.step 16 (.step 17 (.step 18 (.step 19 (.step 20 (.step 21 (.alt (.step 22 (.step 23 (.step 24 (.step 25 (.step 26 .done))))) (.step 23 (.step 22 (.step 24 (.step 25 (.step 26 .done)))))))))))))))))))))))))))) (by kernel_rfl)<|fun Ec FJ rL=>?_
 refine an rfl<|an rfl<|an rfl<|an rfl<|an rfl<|an rfl<|an rfl<|an rfl<|an (by simp[g7])<|an (by simp[g7])<|chi (k:=6) (c:=uc) rL (by omega) (by omega)<|an (by simp[g7])<|J6 rL (hhd _ (dX (rL.r 0 rfl) rO))<|an (by simp[g7])<|ei (x:=.bool false)<|an (fun a w o ho hv=>(Rh ho (aQ hv) (cO hv)).trans (by rw[kA,show strOf [65,67,80,66,1,3]=(⟨#[65,67,80,66,1,3]⟩:ByteArray) from rfl];simp))<|an rfl<|an rfl<|an (by simp[g7])<|an (by simp[g7])<|an rfl<|an rfl<|an (by simp[g7])<|an (by simp[g7])<|an rfl<|an rfl<|⟨?_,?_⟩
 ·refine an (by simp[g7])<|lb 1<|an rfl<|an (by simp[g7])<|cg<|an (rN _) ?_;rintro _ KA ⟨t2,t3,t4,t5,t6,t9,t12,t15,t16,t17,t18,t37,t42,t46,rfl,vG⟩;have yj:=oA vG;unfold SB at vG;have Av:=rL.Dr vG;refine⟨_,_,Av,an (by simp[g7])<|cl<|an (qG (lA _ _ Av.gH.right) yj oC (sF 3)) fun OM Gs=>an (by simp[g7])<|an rfl<|an (fun h=>absurd h (by simp[g7])) fun h=>?_⟩;exact ia<|an (fun _=>⟨rfl,rfl,by decide⟩)<|lb 14<|an (fun _=>rfl)<|ia<|an (fun _=>⟨rfl,rfl,by decide⟩)<|lb 14<|an (fun _=>rfl)<|ia<|an (fun _=>⟨rfl,rfl,by decide⟩)<|lb 14<|an (fun _=>rfl)<|fun M=>⟨by simp[j4,oD,rQ,rP];rfl,M.below⟩
 ·refine an (by simp[g7])<|cg<|an (rN _) ?_;rintro _ KA ⟨t2,t3,t4,t5,t6,t9,t12,t15,t16,t17,t18,t37,t42,t46,rfl,vG⟩;have yj:=oA vG;unfold SB at vG;have Av:=rL.Dr vG;refine⟨_,_,Av,an (by simp[g7])<|lb 15<|an rfl<|an (by simp[g7])<|cl<|an (qG (lA _ _ Av.gH.right) yj oC (sF 3)) fun OM Gs=>an (by simp[g7])<|an rfl<|an (fun h=>absurd h (by simp[g7])) fun h=>?_⟩;exact ia<|an (fun _=>⟨rfl,rfl,by decide⟩)<|lb 14<|an (fun _=>rfl)<|ia<|an (fun _=>⟨rfl,rfl,by decide⟩)<|lb 14<|an (fun _=>rfl)<|ia<|an (fun _=>⟨rfl,rfl,by decide⟩)<|lb 14<|an (fun _=>rfl)<|fun M=>⟨by simp[j4,oD,rQ,rP];rfl,M.below⟩
theorem R5{p:aA}{v:Nat}(h1:1≤v)(h3:v≤3)(hR:pL v p)(hc:bg p=0):pK bg (iD (dB v p))=.ok (p,v)∧wQ (iD (dB v p))=.ok v:=by
 have h:=EF hR [];rw[List.append_nil] at h;have hf:=uy v h1 h3 p;constructor
 ·unfold pK;rw[hf];simp only[h,hc];rfl
 ·unfold wQ;rw[hf]
theorem Ft(s:ByteArray):(s.toList == (⟨#[]⟩:ByteArray).toList)=decide (s.size=0):=by
 rw[kA,decide_eq_decide];exact⟨fun e=>by rw[e];rfl,fun e=>ByteArray.ext (Array.eq_empty_of_size_eq_zero e)⟩
theorem qO{p:aA}:bg p=0↔bF p=0∧fG p=0∧dG p=0∧fF p=0∧fJ p=0∧eI p=0∧fH p=0∧bP p=0∧jO p=0∧cF p=0∧cT p=0:=by
 constructor
 ·intro h;unfold bg at h;split at h
  case isFalse hne=>exact absurd h hne
  rename_i h0;rw[kI] at h0 h;exact⟨h0 _ (by simp),h0 _ (by simp),h0 _ (by simp),h _ (by simp),h _ (by simp),h _ (by simp),h _ (by simp),h _ (by simp),h _ (by simp),h _ (by simp),h _ (by simp)⟩
 ·rintro⟨h1,h2,h3,h4,h5,h6,h7,h8,h9,h10,h11⟩;unfold bg;rw[if_pos (kI.2 (by simp[h1,h2,h3])),kI];simp[h4,h5,h6,h7,h8,h9,h10,h11]
def qR(p:aA):aA:={ p with files:=[],asserts:=[] }
def uD(t:gE):gE:=⟨t.name,t.jy,false⟩
def bp(t:bG):Bool:=decide (t.name.size=0)
def eJ(p:aA):aA:={ p with files:=[],asserts:=[],ranges:=[],trans:=p.trans.filter bp,types:=p.types.map uD }
def cJ(p:aA)(v:Int):aA:=if 3≤v then p else if 2≤v then qR p else eJ p
theorem Fu{p:aA}(h:bg p=0):bg (qR p)=0:=by
 obtain⟨h1,h2,h3,h4,h5,h6,h7,h8,h9,h10,h11⟩:=qO.1 h;refine qO.2 ⟨h1,h2,h3,h4,h5,h6,h7,h8,h9,?_,rfl⟩;unfold cF at h10 ⊢;split at h10
 ·cases h10
 rename_i hs;split at h10
 case isFalse hne=>exact absurd h10 hne
 rename_i hf;rw[if_neg (show ¬ 1024<(qR p).aN.length from hs),if_pos (show ah (lM (qR p)) (qR p).aN.length 0=0 from hf)];rfl
theorem Li(l:List gE):bf (l.map uD)=bf l:=by
 unfold bf;rw[List.flatMap_map];rfl
theorem ql(l:List bG)(f:bG→Bool)(k:Int):bq (l.filter f) k≤bq l k:=by
 unfold bq;rw[List.filter_filter,List.filter_congr (q:=fun x=>f x&&decide (x.kind=k)) (fun x _=>Bool.and_comm _ _),← List.filter_filter];exact List.length_filter_le _ _
theorem Fv{p:aA}(h:bg p=0):bg (eJ p)=0:=by
 obtain⟨h1,h2,h3,h4,h5,h6,h7,h8,h9,h10,h11⟩:=qO.1 h;have hl:(eJ p).types.length=p.types.length:=akk ..;refine qO.2 ⟨h1,?_,?_,h4,h5,?_,?_,?_,?_,?_,rfl⟩
 ·have e1:ju (eJ p)=ju p:=by
   funext i
   unfold ju
   show(match (p.types.map uD)[i]? with
    | some y=>GZ (bf ((p.types.map uD).take i)) y
    | none=>0)=_
   rw[akl,← List.map_take,Li];cases p.types[i]?<;>rfl
  have e2:jQ (eJ p)=jQ p:=by
   funext i
   unfold jQ;rw[hl,show bf (eJ p).types=bf p.types from Li _];rfl
  unfold fG at h2 ⊢;rw[hl,e1,e2];exact h2
 ·have e1:kF (eJ p)=kF p:=by
   funext i
   unfold kF;rw[hl];rfl
  unfold dG at h3 ⊢;rw[e1];exact h3
 ·have e1:jJ (eJ p)=jJ p:=by
   funext i
   unfold jJ;rw[hl];rfl
  unfold eI at h6 ⊢;rw[e1];exact h6
 ·unfold fH at h7;split at h7
  case isFalse=>cases h7
  rename_i hk;have hk1:=ql p.trans bp 1;have hk2:=ql p.trans bp 2;have Yd:=ql p.trans bp 3;unfold fH;rw[if_pos ⟨akm hk1 hk.1,akm hk2 hk.2.1,akm Yd hk.2.2⟩,jx];have k7:=dO (l:=p.trans) (g:=fun _ y=>rB p.types.length p.classes.length p.conds.length y) (fun i x hi=>by unfold lK;rw[hi]) (k:=0) h7;intro i _ hi;unfold lK;rw[hl]
  cases hx:(eJ p).trans[i]? with
  | none=>rfl
  | some y=>
   have hm:y∈p.trans:=(List.mem_filter.1 (akn hx)).1;obtain⟨j,hj⟩:=List.getElem?_of_mem hm;exact k7 j y (ako _) hj
 ·have e1:xE (eJ p)=xE p:=by
   funext i
   unfold xE;rw[hl];rfl
  unfold bP at h8 ⊢;rw[e1];split at h8
  ·cases h8
  rename_i hs;split at h8
  case isFalse hne=>exact absurd h8 hne
  rename_i hf;rw[if_neg (show ¬ 1024<(eJ p).ak.length from hs),if_pos (show ah (xE p) (eJ p).ak.length 0=0 from hf)];rfl
 ·have e1:qW (eJ p)=qW p:=by
   funext i
   unfold qW;rw[hl];rfl
  unfold jO at h9 ⊢;rw[e1];exact h9
 ·have e0:∀ c,iL (eJ p) c=iL p c:=fun c=>by
   unfold iL;rw[hl];rfl
  have e1:lM (eJ p)=lM p:=by
   funext i
   unfold lM zl
   show(match p.aN[i]? with
    | some y=>if aP [y.name] ((p.aN.take i).map fun z:iY=>z.name)=0 then iL (eJ p) y.ctx else aP [y.name] ((p.aN.take i).map fun z:iY=>z.name)
    | none=>0)=_
   cases p.aN[i]? with
   | none=>rfl
   | some y=>simp only[e0]
  unfold cF at h10 ⊢;split at h10
  ·cases h10
  rename_i hs;split at h10
  case isFalse hne=>exact absurd h10 hne
  rename_i hf;rw[e1,if_neg (show ¬ 1024<(eJ p).aN.length from hs),if_pos (show ah (lM p) (eJ p).aN.length 0=0 from hf)];rfl
theorem mz{p:aA}(v:Int)(h:bg p=0):bg (cJ p v)=0:=by
 unfold cJ;split
 ·exact h
 ·split
  ·exact Fu h
  ·exact Fv h
theorem oT{p:aA}(v:Int)(h:p.Ok):(cJ p v).Ok:=by
 unfold cJ;split
 ·exact h
 ·split
  ·exact { h with files:=by simp[qR],FU:=by simp[qR,kO],asserts:=by simp[qR],yR:=by simp[qR,kO] }
  ·exact { h with
    files:=by simp[eJ],FU:=by simp[eJ,kO],asserts:=by simp[eJ],yR:=by simp[eJ,kO],ranges:=by simp[eJ],He:=by simp[eJ,kO],
    trans:=fun x hx=>h.trans x (List.mem_filter.1 hx).1,Ek:=akm (List.length_filter_le _ _) h.Ek,
    types:=fun x hx=>(by
     obtain⟨y,hy,rfl⟩:=akp.1 hx;exact { h.types y hy with }),oy:=(by show kO (p.types.map uD).length;rw[akk];exact h.oy) }
theorem jl{p:aA}(v:Int)(h:p.dW):(cJ p v).dW:=by
 unfold cJ;split
 ·exact h
 ·split
  ·exact { h with sizes:={ h.sizes with files:=by simp[qR],asserts:=by simp[qR] } }
  ·exact { h with
    sizes:={ h.sizes with files:=by simp[eJ],asserts:=by simp[eJ],ranges:=by simp[eJ],trans:=akm (List.length_filter_le _ _) h.sizes.trans,types:=(by show(p.types.map uD).length≤12;rw[akk];exact h.sizes.types) },
    jy:=fun x hx=>(by
     obtain⟨y,hy,rfl⟩:=akp.1 hx;exact h.jy y hy) }
theorem yL(p:aA)(v:Int)(h1:1≤v):(cC (cJ p v):Int)≤v:=by
 unfold cJ;split
 ·rename_i h3;have:cC p≤3:=by unfold cC;split<;>(try split)<;>omega
  omega
 ·split
  ·have:cC (qR p)≤2:=by
    unfold cC;rw[if_neg (by simp[qR])];split<;>omega
   omega
  ·have:cC (eJ p)=1:=by
    unfold cC;rw[if_neg (by simp[eJ]),if_neg];simp[eJ,uD,bp,List.any_filter]
   omega
theorem J5{p:aA}{v:Int}(h1:1≤v)(h:(cC p:Int)≤v):cJ p v=p:=by
 have hfa:cC p≤2→p.files=[]∧p.asserts=[]:=fun h=>by
  unfold cC at h;split at h
  ·omega
  ·rename_i hn;exact⟨List.eq_nil_of_length_eq_zero (by omega),List.eq_nil_of_length_eq_zero (by omega)⟩
 unfold cJ;split
 ·rfl
 ·split
  ·obtain⟨e1,e2⟩:=hfa (by omega);unfold qR;rw[← e1]
   conv=>lhs;rw[show([]:List jt)=p.asserts from e2.symm]
  ·obtain⟨e1,e2⟩:=hfa (by omega)
   have hno:¬ (0<p.ranges.length∨p.types.any (·.perm)=true∨p.trans.any (fun t=>decide (t.name.size≠0))=true):=fun hn=>by
    have:cC p=2:=by
     unfold cC;rw[if_neg (by rw[e1,e2];simp),if_pos hn]
    omega
   have e3:p.ranges=[]:=List.eq_nil_of_length_eq_zero (by omega)
   have e4:p.types.map uD=p.types:=by
    conv=>rhs;rw[← List.map_id p.types]
    refine List.map_congr_left fun t ht=>?_
    have:t.perm=false:=by
     cases hp:t.perm with
     | false=>rfl
     | true=>exact absurd (.inr (.inl (List.any_eq_true.2 ⟨t,ht,hp⟩))) hno
    obtain⟨a,b,c⟩:=t;simp only at this;subst this;rfl
   have e5:p.trans.filter bp=p.trans:=List.filter_eq_self.2 fun t ht=>by
    unfold bp;by_cases hz:t.name.size=0
    ·exact decide_eq_true hz
    ·exact absurd (.inr (.inr (List.any_eq_true.2 ⟨t,ht,decide_eq_true hz⟩))) hno
   obtain⟨a1,a2,a3,a4,a5,a6,a7,a8,a9,nr,mH,a12,mF,mE,og,n_,a17⟩:=p;simp only at e1 e2 e3 e4 e5;subst e1 e2 e3;unfold eJ;simp only[e4,e5]
end Go.Proofs.YtkkmjdceiocnbaaGreatDoor
namespace Go.Proofs.YtkkmjdceiocnbaaGreatDoor
open Go Go.Proofs Go.RowKit Go.Shelf
variable {P:Program} {ρ:Go.Shelf.Ren}
theorem Ge(L:SlLaysE0.n41 P ρ)(size:Nat)(z23:∀ w,(Go.sizeOf (ρ.t 23)).run P w=.ok size w)(a:Addr)(c:Nat)(w:World):
 Calls P (ρ.f 41) #[.slice (some a) 0 c] w fun e w'=>∃ v',e=.returned v'∧w'.ownsRow w.heap.size (ρ.t 23) size v' 0 []∧v'≠.slice none 0 0∧akj w.heap.size w w':=by
 have mixed:=L.mixed;have t4:=L.t4;have a4:=L.a4;have z4:=L.z4;have v4:=L.v4;have t22:=L.t22;have a22:=L.a22;have z22:=L.z22;have v22:=L.v22;have q22:∀ (w:World) (a:Option Addr) (n c n' c':Nat),(binOp .eql (ρ.t 22) (.slice a n c) (.slice none n' c')).run P w=.ok (.bool a.isNone) w:=fun w a n c n' c'=>Lib.run_eql_slice_nil w _ _ a n c n' c' L.t22
 have u22:∀ w,Sem.run P (underlying (ρ.t 22)) w=.ok (TypeDesc.slice (ρ.t 23)) w:=run_underlying t22;obtain⟨_,_,FG⟩:=L.f41
 go_enter FG,SlBodyN.n41_ntmps ρ
 go_wp2
 go_ret
 refine⟨_,rfl,?_,?_,((Below.refl _ w).alloc (Nat.le_refl _) _)⟩
 ·exact⟨by simp,.inr ⟨w.heap.size,0,#[],rfl,Nat.le_refl _,Whole.new w _ #[],Nat.le_refl _,by simp[maxLen],by simp,by simp⟩⟩
 ·intro h;cases h
theorem yO(L:SlLaysE0.n41 P ρ)(size bytes:Nat)(hi:vg (P.info? (ρ.t 23)) size bytes=true)(hsz:1≤size)(z23:∀ w,(Go.sizeOf (ρ.t 23)).run P w=.ok size w)(w:World)(v:Value)(n:Nat)(cs:List Value)(h:SliceAt w v size n cs)(hbig:n*bytes≤140737488355328):
 Calls P (ρ.f 41) #[v] w fun e w'=>∃ v',e=.returned v'∧w'.ownsRow w.heap.size (ρ.t 23) size v' n cs∧(v=.slice none 0 0↔v'=.slice none 0 0)∧akj w.heap.size w w':=by
 obtain⟨i0,z,hi0,hz0,hz1,hz2,hzs⟩:=rT hi;rcases h.2.2.2 with⟨rfl,rfl⟩|⟨a,c,rfl,hac,hc⟩
 ·have hl:=h.1;rw[Nat.zero_mul] at hl;have:cs=[]:=List.eq_nil_of_length_eq_zero hl;subst this;refine(AnyE.slices_Clone_nil L 0 0 w).mono ?_;rintro e w' ⟨rfl,rfl⟩;exact⟨_,rfl,World.ownsRow_nil _ _ _ _,Iff.rfl,Below.refl _ _⟩
 ·have hn:¬ Value.slice (some a) n c=.slice none 0 0:=by intro h;cases h
  cases cs with
  | nil=>
   have hl:=h.1
   have:n=0:=by
    rcases Nat.eq_zero_or_pos n with h0|h0
    ·exact h0
    ·have:=Nat.mul_le_mul h0 hsz;simp at hl;omega
   subst this;refine(Ge L size z23 a c w).mono ?_;rintro e w' ⟨v',rfl,ho,hv,hb⟩;exact⟨v',rfl,ho,iff_of_false hn hv,hb⟩
  | cons b0 bs=>
   obtain⟨b,off,rfl⟩:=zP (hc 0 _ (by simp;rfl));refine(AnyE.slices_Clone L i0 z size bytes hi0 hz0 hz1 hz2 hzs hsz z23 b off n c (b0::bs) w h.1 h.2.1 hbig (fun j u hu=>by have:=hc j u hu;rwa [Addr.add_mid] at this) h.2.2.1).mono ?_;rintro e w' ⟨v',rfl,ho,hv,hb⟩;exact⟨v',rfl,ho,iff_of_false hn hv,hb⟩
def DU:Go.Shelf.Ren:=⟨fun|41=>69|n=>n,fun|22=>31|23=>79|4=>4|n=>n,fun|n=>n⟩
theorem DV:Go.Proofs.SlLaysE0.n41 Tryz.prog DU:={
 mixed:=by kernel_rfl
 f41:=⟨Tryz.f69.name,by decide,Tryz.func69.trans (congrArg some (by kernel_rfl))⟩
 t4:=Tryz.underlying4
 a4:=Tryz.isAgg4
 z4:=Tryz.sizeOf4
 v4:=Tryz.zeroValue4
 t22:=Tryz.underlying31
 a22:=Tryz.isAgg31
 z22:=Tryz.sizeOf31
 v22:=Tryz.zeroValue31 }
def DQ:Go.Shelf.Ren:=⟨fun|41=>71|n=>n,fun|22=>23|23=>81|4=>4|n=>n,fun|n=>n⟩
theorem DR:Go.Proofs.SlLaysE0.n41 Tryz.prog DQ:={
 mixed:=by kernel_rfl
 f41:=⟨Tryz.f71.name,by decide,Tryz.func71.trans (congrArg some (by kernel_rfl))⟩
 t4:=Tryz.underlying4
 a4:=Tryz.isAgg4
 z4:=Tryz.sizeOf4
 v4:=Tryz.zeroValue4
 t22:=Tryz.underlying23
 a22:=Tryz.isAgg23
 z22:=Tryz.sizeOf23
 v22:=Tryz.zeroValue23 }
theorem DW(w:World)(v:Value)(n:Nat)(cs:List Value)(h:SliceAt w v 13 n cs)(hbig:n≤100000000):Calls Tryz.prog 69 #[v] w fun r w'=>∃ v',r=.returned v'∧w'.ownsRow w.heap.size 79 13 v' n cs∧(v=.slice none 0 0↔v'=.slice none 0 0)∧akj w.heap.size w w':=
 yO DV 13 112 (by kernel_rfl) (by decide) (fun w=>Tryz.sizeOf79 w) w v n cs h (akm (akq _ hbig) (by decide))
theorem DT(w:World)(v:Value)(n:Nat)(cs:List Value)(h:SliceAt w v 3 n cs)(hbig:n≤100000000):Calls Tryz.prog 71 #[v] w fun r w'=>∃ v',r=.returned v'∧w'.ownsRow w.heap.size 81 3 v' n cs∧(v=.slice none 0 0↔v'=.slice none 0 0)∧akj w.heap.size w w':=
 yO DR 3 48 (by kernel_rfl) (by decide) (fun w=>Tryz.sizeOf81 w) w v n cs h (akm (akq _ hbig) (by decide))
end Go.Proofs.YtkkmjdceiocnbaaGreatDoor
namespace Go.Proofs.YtkkmjdceiocnbaaGreatDoor
open Go Go.RowKit
theorem Ro(w0:World)(x:bG):Calls Tryz.prog 70 #[.agg x.cells.toArray] w0 (fun r w'=>r=.returned (.bool (!bp x))∧akj w0.heap.size w0 w'):=by
 refine bU [] (fn:=Tryz.f70) Tryz.func70 rfl Tryz.ntmps70 rfl<|fun g1 w1 M1=>lb 0<|an rfl<|fun M=>⟨?_,M.below⟩
 show Ending.returned (.bool (!x.name.toList == (⟨#[]⟩:ByteArray).toList))=_;rw[Ft];rfl
theorem PV{w0:World}{l:List bG}{av:Value}(hv:SliceAt w0 av 13 l.length (l.flatMap bG.cells)):Calls Tryz.prog 175 #[av,.func (.func 70) #[] #[]] w0 (fun r w'=>∃ v,r=.returned v∧((v=.int .i64 (-1)∧l.all bp=true)∨∃ k:Nat,v=.int .i64 (k:Int)∧k<l.length∧(l.take k).all bp=true∧∃ y,l[k]?=some y∧bp y=false)∧akj w0.heap.size w0 w'):=by
 have hv':=hv;obtain⟨la,lk,rfl,hm1,hm2,-⟩:=SliceAt.form hv' (by decide);refine bU [] (fn:=Tryz.f175) Tryz.func175 rfl Tryz.ntmps175 rfl<|lr (ι:=Nat) (fun j=>[(8,.int .i64 (j:Int))]) (fun j _=>j≤l.length∧(l.take j).all bp=true) (fun j=>l.length-j) 0<|an ⟨⟨rfl,trivial⟩,fun M=>⟨M,ako _,rfl⟩⟩ ?_;intro j w1 M1 ⟨hj,hno⟩;refine an (fun h'=>?_) fun h'=>?_
 ·have hlt:j<l.length:=Int.ofNat_lt.1 (of_decide_eq_true h');obtain⟨y,hy⟩:∃ y,l[j]?=some y:=⟨_,akr hlt⟩;obtain⟨b,off,e1,hc⟩:=SliceAt.elt hv (f:=bG.cells) (fun _=>rfl) (by decide) hy hlt;refine ia<|an ⟨e1,rfl,hlt⟩<|lc (x:=y.cells)<|an (cL M1.below hc)<|cl<|an (Ro w1 y) fun w2 M2=>an (fun hp=>fun M=>⟨_,rfl,.inr ⟨j,rfl,hlt,hno,y,hy,by simpa using hp⟩,M.below⟩) fun hp=>an (by omega)<|bk (j+1) ⟨rfl,trivial⟩ (fun M=>⟨M,hlt,?_⟩) (show l.length-(j+1)<l.length-j by omega)
  rw[List.take_add_one,hy,List.all_append,hno];simpa using hp
 ·have hge:j=l.length:=Nat.le_antisymm hj (Nat.le_of_not_lt fun h2=>of_decide_eq_false h' (Int.ofNat_lt.2 h2));subst hge;rw[aks] at hno;exact fun M=>⟨_,rfl,.inl ⟨rfl,hno⟩,M.below⟩
theorem O1{l:List bG}{y:bG}{i:Nat}(hi:i<l.length):(l.flatMap bG.cells).take (i*13)++y.cells++(l.flatMap bG.cells).drop (i*13+13)=(l.set i y).flatMap bG.cells:=by
 have hlen:∀ m:List bG,(m.flatMap bG.cells).length=m.length*13:=fun m=>by
  induction m with
  | nil=>rfl
  | cons x r ih=>rw[List.flatMap_cons,akt,ih,List.length_cons];show 13+_=_;omega
 have e:l=l.take i++l[i]::l.drop (i+1):=by simp
 have e2:l.set i y=l.take i++y::l.drop (i+1):=by
  conv=>lhs;rw[e]
  rw[List.set_append_right _ _ (by rw[aku];omega),aku,Nat.min_eq_left (by omega),Nat.sub_self];rfl
 have h1:((l.take i).flatMap bG.cells).length=i*13:=by rw[hlen,aku];congr 1;omega
 rw[e2]
 conv=>lhs;rw[e]
 rw[akv,akv,List.flatMap_cons,List.flatMap_cons,List.take_left' h1];rw[List.drop_append,List.drop_of_length_le (by omega),h1];rw[show i*13+13-i*13=13 by omega,List.drop_left' (show(l[i]).cells.length=13 from rfl)];simp
theorem O7{w:World}{g o n c:Nat}{cur:Array Value}(hW:Whole w g 79 cur)(hn:0<n)(hfit:o+n*13≤cur.size)(ty:TypeId):∃ L:List Value,L.length=n*13∧(Builtin.clear_ #[31] ty #[.slice (some ⟨g,o,none⟩) n c]).run Tryz.prog w=.ok (.tuple #[]) (w.setCells g o L):=by
 obtain⟨m,rfl⟩:∃ m,n=m+1:=⟨n-1,by omega⟩;obtain⟨z,hz⟩:∃ z:Value,z=.agg #[.int .i64 0,.int .u64 0,.int .u64 0,.int .u64 0,.int .u64 0,.int .u64 0,.int .u64 0,.int .u64 0,.int .u64 0,.int .i64 0,.string ByteArray.empty,.int .i64 0,.int .i64 0]:=⟨_,rfl⟩;have hzv:(zeroValue 79).run Tryz.prog w=.ok z w:=by rw[hz];exact Tryz.zeroValue79 w
 have hzs:z.cells.size=13:=by rw[hz];rfl
 have hlen:(Builtin.zeroCells z.cells (m+1)).toList.length=(m+1)*13:=by simp[Builtin.zeroCells,hzs]
 have hone:∀ v∈(Builtin.zeroCells z.cells (m+1)).toList,v.oneCell'=true:=fun v hv=>by
  unfold Builtin.zeroCells at hv;rw[Array.toList_map] at hv;obtain⟨i,-,rfl⟩:=akp.1 hv;have hall:z.cells.toList.all (·.oneCell')=true:=by rw[hz];rfl
  have hi:i%z.cells.size<z.cells.size:=Nat.mod_lt _ (by omega);rw[getElem!_pos z.cells _ hi];exact akw.1 hall _ (by simp)
 have hst:=run_storeCells_cells (P:=Tryz.prog) g o (Builtin.zeroCells z.cells (m+1)).toList 0 w (fun j hj=>by
  rw[Nat.add_zero,hW.cell,Array.getElem?_eq_getElem (by rw[hlen] at hj;omega)];rfl) (fun j hj=>hW.frozen _) hone
 rw[Nat.add_zero] at hst;exact⟨_,hlen,by simp[Builtin.clear_,oF X2,hzv,hst,Sem.run_bind]⟩
theorem clr{B:Nat}{w0 w:World}{bs:List Bx}{rs:List Rw}{X A C:Prop}{ty:TypeId}{x:Operand}{g n cap i o k c:Nat}{xs:List Value}{K:List Bx→List Rw→World→Prop}(M:aC B w0 w bs (⟨.slice (some ⟨g,0,none⟩) n cap,79,13,n,xs⟩::rs))(hi:i<n)(ho:o=i*13)(hk:k=n-i)(hA:A)(hC:C)
 (h:∀ w',aC B w0 w' bs (⟨.slice (some ⟨g,0,none⟩) i cap,79,13,i,xs.take (i*13)⟩::rs)→K bs (⟨.slice (some ⟨g,0,none⟩) i cap,79,13,i,xs.take (i*13)⟩::rs) w') :
 X∨(A∧C∧∃ R:World→Prop,(∀ (a:Act) (o':Oper),o'.op=.call { callee:=.builtin .clear,args:=#[x],argTypes:=#[31] }→o'.type=ty→q6 a (gb (.call { callee:=.builtin .clear,args:=#[x],argTypes:=#[31] })) [.slice (some ⟨g,o,none⟩) k c]→∃ v w',(execOp a.eval o').run Tryz.prog w=.ok (.value v) w'∧R w')∧∀ w',R w'→∃ bs' rs',aC B w0 w' bs' rs'∧K bs' rs' w'):=by
 subst ho hk;have hown:w.ownsRow B 79 13 (.slice (some ⟨g,0,none⟩) n cap) n xs:=M.r 0 rfl;obtain⟨g',cap',cur,hv,hg,hH,hn,hm,hs,ht⟩:=pZ hown (by omega);injection hv with e1 e2 e3;injection e1 with e1;injection e1 with e1;subst e1 e3
 have hfit:i*13+(n-i)*13≤cur.size:=by
  rw[hs,← Nat.add_mul];exact akq _ (by omega)
 have key:∀ ty,∃ L:List Value,L.length=(n-i)*13∧(Builtin.clear_ #[31] ty #[.slice (some ⟨g,i*13,none⟩) (n-i) c]).run Tryz.prog w=.ok (.tuple #[]) (w.setCells g (i*13) L):=fun ty=>O7 hH (by omega) hfit ty
 refine .inr ⟨hA,hC,fun w'=>∃ L:List Value,L.length=(n-i)*13∧w'=w.setCells g (i*13) L,fun a o' hop _ oO=>?_,?_⟩
 ·obtain⟨L,h1,h2⟩:=key o'.type;refine⟨.tuple #[],_,?_,L,h1,rfl⟩;unfold execOp;simp[hop,aQ oO,resolve,invoke,builtin,h2,Sem.run_bind,Result.andThen]
 ·rintro w' ⟨L,h1,rfl⟩;obtain⟨s,hW'⟩:=lu L (i*13) cur w hH;have hsp:=kB cur (i*13) L (by rw[h1];exact hfit)
  have hsz:(splice cur (i*13) L).size=cur.size:=by
   have:=congrArg List.length hsp;simp only[akt,aku,List.length_drop,Array.length_toList,h1] at this;omega
  have hxl:xs.length=n*13:=by rw[← ht,aku,Array.length_toList,hs];have:=akq 13 hn;omega
  have ho:(w.setCells g (i*13) L).ownsRow B 79 13 (.slice (some ⟨g,0,none⟩) i cap) i (xs.take (i*13)):=by
   refine⟨by rw[aku,hxl];omega,.inr ⟨g,cap,splice cur (i*13) L,rfl,hg,hW',by omega,hm,by rw[hsz,hs],?_⟩⟩;rw[hsp,List.append_assoc,List.take_append_of_le_length (by rw[aku,Array.length_toList];omega),List.take_take,Nat.min_self,← ht,List.take_take,Nat.min_eq_left (by omega)]
  have M':=M.grow 0 rfl ho s.grown (.inl rfl);exact⟨_,_,M',h _ M'⟩
theorem DF{l:List bG}{k:Nat}{y:bG}(h:(l.take k).all bp=true)(hy:l[k]?=some y)(hn:bp y=false):l.take k=(l.take (k+1)).filter bp:=by
 rw[List.take_add_one,hy,List.filter_append,List.filter_eq_self.2 (by simpa using h)];simp[hn]
theorem F5{B:Nat}{w0 w:World}{bs:List Bx}{rs:List Rw}{v:Value}{l:List bG}(M:aC B w0 w bs (⟨v,79,13,l.length,l.flatMap bG.cells⟩::rs))(hb:l.length≤100000):Calls Tryz.prog 68 #[v,.func (.func 70) #[] #[]] w (fun r w'=>∃ v',r=.returned v'∧aC B w0 w' bs (⟨v',79,13,(l.filter bp).length,(l.filter bp).flatMap bG.cells⟩::rs)):=by
 have hone:∀ u∈l.flatMap bG.cells,u.oneCell'=true:=fun u hu=>by
  obtain⟨x,-,hx⟩:=List.mem_flatMap.1 hu;have:x.cells.all (·.oneCell')=true:=rfl;exact akw.1 this u hx
 have hsl:SliceAt w v 13 l.length (l.flatMap bG.cells):=SliceAt.iM (M.r 0 rfl) hone;obtain⟨va,vc,rfl,-,-,-⟩:=SliceAt.form hsl (by decide);refine Yz M 11 [] (fn:=Tryz.f68) Tryz.func68 rfl Tryz.ntmps68 rfl<|cg<|an (PV hsl) ?_;rintro _ w1 ⟨hr,hb1⟩;have M1:=M.keep hb1;refine⟨_,_,M1,?_⟩;rcases hr with⟨rfl,hall⟩|⟨k,rfl,hk,hall,y,hy,hyn⟩
 ·have hf:l.filter bp=l:=List.filter_eq_self.2 (by simpa using hall);refine an (fun h=>fun M=>⟨_,rfl,M.cast rfl (by rw[hf];rfl)⟩) fun h=>absurd h (by simp)
 obtain⟨g,cap,cur,hv,-,-,hcap,KI,-,-⟩:=pZ (show w1.ownsRow B 79 13 (.slice va l.length vc) l.length (l.flatMap bG.cells) from M1.r 0 rfl) (by omega);injection hv with e1 e2 e3;subst e1 e3;refine an (fun h=>absurd h (by simp)) fun h=>an (by omega)<|lq (ι:=Nat×Nat×List bG) (fun z=>[(5,.int .i64 (z.1:Int)),(6,.int .i64 (z.2.1:Int))]) (fun z=>⟨.slice (some ⟨g,0,none⟩) l.length vc,79,13,l.length,z.2.2.flatMap bG.cells⟩::rs) (fun z _=>z.1<z.2.1∧z.2.1≤l.length∧z.2.2.length=l.length∧z.2.2.take z.1=(l.take z.2.1).filter bp∧z.2.2.drop z.2.1=l.drop z.2.1) (fun z=>l.length-z.2.1) (k,k+1,l)<|an ⟨⟨rfl,rfl,trivial⟩,fun M=>⟨M,Nat.lt_succ_self _,hk,rfl,DF hall hy hyn,rfl⟩⟩ ?_
 rintro⟨i,j,m⟩ w2 M2 ⟨hij,hj,hml,htk,hdr⟩;dsimp only at hij hj hml htk hdr
 have Wu:∀ u∈m.flatMap bG.cells,u.oneCell'=true:=fun u hu=>by
  obtain⟨x,-,hx⟩:=List.mem_flatMap.1 hu;have:x.cells.all (·.oneCell')=true:=rfl;exact akw.1 this u hx
 refine an (fun h=>?_) fun h=>?_
 ·have hlt:j<l.length:=Int.ofNat_lt.1 (of_decide_eq_true h);obtain⟨x,hx⟩:∃ x,l[j]?=some x:=⟨_,akr hlt⟩
  have hxm:m[j]?=some x:=by
   have:=congrArg (fun q:List bG=>q[0]?) hdr;simpa[hx] using this
  have za:SliceAt w2 (.slice (some ⟨g,0,none⟩) l.length vc) 13 l.length (m.flatMap bG.cells):=SliceAt.iM (M2.r 0 rfl) Wu;obtain⟨b,off,e1,hc⟩:=SliceAt.elt za (f:=bG.cells) (fun _=>rfl) (by decide) hxm hlt;have hi:i<l.length:=by omega
  have hft:(l.take (j+1)).filter bp=(l.take j).filter bp++(if bp x then [x] else []):=by
   rw[List.take_add_one,hx,List.filter_append];cases hq:bp x<;>simp[hq]
  have hd1:m.drop (j+1)=l.drop (j+1):=by
   have:=congrArg (List.drop 1) hdr;simpa[List.drop_drop] using this
  refine ia<|an ⟨e1,rfl,hlt⟩<|lc (x:=x.cells)<|an hc<|ei<|an Ef fun g1 w3 M3=>lb 0<|an ⟨rfl,rfl⟩ fun w4 M4=>lb 0<|an rfl<|cl<|an (Ro w4 x) fun w5 M5=>an (fun hp=>?_) fun hp=>?_
  ·have hq:bp x=true:=by simpa using hp
   refine lb 0<|an rfl<|ia (i:=i)<|an ⟨rfl,rfl,hi⟩<|sr 0 i ⟨rfl,Nat.zero_add _,hi⟩ rfl fun w6 M6=>an (by dsimp only;omega)<|an (by dsimp only;omega)<|bk (i+1,j+1,m.set i x) ⟨rfl,rfl,trivial⟩ (fun M=>⟨(M.only (.cons _ (.refl _)) (.refl _)).cast rfl (by rw[← O1 (by omega)];simp only[Nat.zero_add];rfl),Nat.succ_lt_succ hij,hlt,by rw[List.length_set];exact hml,?_,?_⟩) (by dsimp only;omega)
   ·dsimp only;rw[hft,if_pos hq,← htk,List.take_add_one,List.take_set_of_le (Nat.le_refl _),List.getElem?_set_self (by omega)];rfl
   ·dsimp only;rw[List.drop_set_of_lt (by omega),hd1]
  ·have hq:bp x=false:=by simpa using hp
   exact an (by dsimp only;omega)<|bk (i,j+1,m) ⟨rfl,rfl,trivial⟩ (fun M=>⟨M.only (.cons _ (.refl _)) (.refl _),by dsimp only;omega,hlt,hml,by dsimp only;rw[hft,hq,htk];simp,hd1⟩) (by dsimp only;omega)
 ·have hge:j=l.length:=Nat.le_antisymm hj (Nat.le_of_not_lt fun h2=>of_decide_eq_false h (Int.ofNat_lt.2 h2));subst hge;rw[aks] at htk;have hi:i<l.length:=hij;have hlen:(l.filter bp).length=i:=by rw[← htk,aku];omega
  have hcells:∀ q:List bG,(q.flatMap bG.cells).length=q.length*13:=fun q=>by
   induction q with
   | nil=>rfl
   | cons x r ih=>rw[List.flatMap_cons,akt,ih,List.length_cons];show 13+_=_;omega
  refine .inl<|.inl<|.inl<|fb (v:=.slice (some ⟨g,i*13,none⟩) (l.length-i) (vc-i)) M2 (fun a o ho _ hv=>(qN (k:=13) ho (aQ hv) (cO hv) (by omega) X2 VF).trans (by rw[if_neg (by omega),Nat.zero_add]))<|clr M2 hi rfl rfl rfl rfl fun w3 M3=>fb (v:=.slice (some ⟨g,0,none⟩) i vc) M3 (fun a o ho _ hv=>nO (k:=13) ho (aQ hv) (cO hv) (by omega) (by omega) X2 VF)<|fun M=>⟨_,rfl,M.cast rfl ?_⟩
  rw[hlen,← htk];congr 2
  conv=>lhs;rw[← List.take_append_drop i m,akv]
  exact List.take_left' (by rw[hcells,aku];congr 1;omega)
theorem J9{w:World}{v:Value}{n:Nat}{cs:List Value}(h:SliceAt w v 13 n cs)(hb:n≤100000):Calls Tryz.prog 69 #[v] w fun r w'=>∃ u,r=.returned u∧(w'.ownsRow w.heap.size 79 13 u n cs∧akj w.heap.size w w'):=
 (DW w v n cs h (by omega)).mono fun r w' ⟨u,h1,h2,_,h3⟩=>⟨u,h1,h2,h3⟩
theorem NI{B:Nat}{w0 w:World}{bs:List Bx}{rs:List Rw}{v:Value}{l:List bG}(M:aC B w0 w bs (⟨v,79,13,l.length,l.flatMap bG.cells⟩::rs))(hb:l.length≤100000):Calls Tryz.prog 68 #[v,.func (.func 70) #[] #[]] w (fun r w'=>∃ u,r=.returned u∧∃ a c,u=.slice a (l.filter bp).length c∧aC B w0 w' bs (⟨.slice a (l.filter bp).length c,79,13,(l.filter bp).length,(l.filter bp).flatMap bG.cells⟩::rs)):=
 (F5 M hb).mono fun e w' ⟨u,h1,h2⟩=>by
  obtain⟨a,c,hu,-,-⟩:=p7 (h2.r 0 rfl);have hu:u=.slice a (l.filter bp).length c:=hu;subst hu;exact⟨_,h1,a,c,rfl,h2⟩
theorem J8{w:World}{v:Value}{n:Nat}{cs:List Value}(h:SliceAt w v 3 n cs)(hb:n≤100000):Calls Tryz.prog 71 #[v] w fun r w'=>∃ u,r=.returned u∧(w'.ownsRow w.heap.size 81 3 u n cs∧akj w.heap.size w w'):=
 (DT w v n cs h (by omega)).mono fun r w' ⟨u,h1,h2,_,h3⟩=>⟨u,h1,h2,h3⟩
theorem stc{B:Nat}{w0 w:World}{bs:List Bx}{rs:List Rw}{ty:TypeId}{x y:Operand}{g n cap i off:Nat}{xs:List Value}{b:Bool}{K:List Bx→List Rw→World→Prop}{X Y:Prop}(M:aC B w0 w bs (⟨.slice (some ⟨g,0,none⟩) n cap,81,3,n,xs⟩::rs))(hoff:off=i*3+2)(hi:i<n)
 (h:∀ w',aC B w0 w' bs (⟨.slice (some ⟨g,0,none⟩) n cap,81,3,n,xs.set (i*3+2) (.bool b)⟩::rs)→K bs (⟨.slice (some ⟨g,0,none⟩) n cap,81,3,n,xs.set (i*3+2) (.bool b)⟩::rs) w') :
 X∨Y∨∃ R:World→Prop,(∀ (a:Act) (o':Oper),o'.op=.store 4 x y→o'.type=ty→q6 a (gb (.store 4 x y)) [.pointer (some ⟨g,off,none⟩),.bool b]→∃ w',(execOp a.eval o').run Tryz.prog w=.ok .skip w'∧R w')∧∀ w',R w'→∃ bs' rs',aC B w0 w' bs' rs'∧K bs' rs' w':=by
 subst hoff;have hown:w.ownsRow B 81 3 (.slice (some ⟨g,0,none⟩) n cap) n xs:=M.r 0 rfl;obtain⟨g',cap',cur,hv,hg,hH,hn,hm,hs,ht⟩:=pZ hown (by omega);injection hv with e1 e2 e3;injection e1 with e1;injection e1 with e1;subst e1 e3;have hfit:i*3+2+1≤cur.size:=by have:=akq 3 hn;omega
 have h4:(Tryz.prog.info? 4).map (·.size)=some 1:=by kernel_rfl
 obtain⟨s,hW'⟩:=lu [.bool b] (i*3+2) cur w hH;have hsp:splice cur (i*3+2) [Value.bool b]=cur.setIfInBounds (i*3+2) (.bool b):=rfl;rw[hsp] at hW'
 have ho:(w.setCells g (i*3+2) [.bool b]).ownsRow B 81 3 (.slice (some ⟨g,0,none⟩) n cap) n (xs.set (i*3+2) (.bool b)):=by
  have hxl:=hown.1;refine⟨by rw[List.length_set];exact hxl,.inr ⟨g,cap,_,rfl,hg,hW',hn,hm,by rw[Array.size_setIfInBounds,hs],?_⟩⟩;rw[Array.toList_setIfInBounds,List.take_set,ht]
 have M':=M.grow 0 rfl ho s.grown (.inl rfl);refine .inr (.inr ⟨fun w2=>w2=w.setCells g (i*3+2) [.bool b],fun a o' hop _ oO=>⟨_,?_,rfl⟩,?_⟩)
 ·unfold execOp;simp only[hop,aQ oO,cO oO,Instr.storeAt,Instr.sureAddr,Sem.run_bind,Sem.run_pure,Result.andThen_ok,nE (P:=Tryz.prog) w g (i*3+2) 4 (.bool b) (hH.there _ _ hfit) h4 (by rfl)];rfl
 ·rintro w2 rfl;exact⟨_,_,M',h _ M'⟩
def oZ(c:List Value):List Value:=match c with
 | [a,b,_]=>[a,b,.bool false]
 | c=>c
theorem yN{c:List Value}(h:c.length=3):(oZ c).length=3:=by
 match c,h with
 | [a,b,d],_=>rfl
theorem I3{es:List (List Value)}{i:Nat}(h3:∀ x∈es,x.length=3)(hi:i<es.length):(((es.take i).map oZ++es.drop i).flatten).set (i*3+2) (.bool false)=(((es.take (i+1)).map oZ++es.drop (i+1)).flatten):=by
 obtain⟨y,hy⟩:∃ y,es[i]?=some y:=⟨_,akr hi⟩;have hy3:=h3 y (akn hy)
 have hd:es.drop i=y::es.drop (i+1):=by
  rw[List.drop_eq_getElem_cons hi,(akx.1 hy).2]
 have hl:((es.take i).map oZ).flatten.length=i*3:=by
  have:∀ m:List (List Value),(∀ x∈m,x.length=3)→(m.map oZ).flatten.length=m.length*3:=fun m hm=>by
   induction m with
   | nil=>rfl
   | cons x r ih=>
    rw[List.map_cons,List.flatten_cons,akt,ih fun z hz=>hm z (List.mem_cons_of_mem _ hz),yN (hm x (aky ..)),List.length_cons];omega
  rw[this _ fun x hx=>h3 x (List.mem_of_mem_take hx),aku];congr 1;omega
 rw[hd,List.take_add_one,hy,List.flatten_append,List.flatten_cons,List.map_append,List.flatten_append,List.flatten_append,List.set_append_right _ _ (by omega),hl,List.append_assoc];congr 1;rw[show i*3+2-i*3=2 by omega]
 match y,hy3 with
 | [a,b,c],_=>rfl
def kY(p:aA)(v:Int):Int:=if 1≤v∧v≤3 then bg p else 8
def mV(p:aA)(v:Int):aA:=if kY p v=0 then cJ p v else jM
def DnC(w0:World)(p:aA)(v:Int)(e:Ending)(w':World):Prop:=∃ (c0 c1 c2 c3 c4 c5 c6 c7 c8 c9 c10 c11 c12 c13 c14 c15 c16:Value),e=.returned (.tuple #[.agg #[c0,c1,c2,c3,c4,c5,c6,c7,c8,c9,c10,c11,c12,c13,c14,c15,c16],.int .i64 (kY p v)])∧(∃ T,RowsIn w0.heap.size w' T∧∀ B w,RowsIn B w T→aD w c0 c1 c2 c3 c4 c5 c6 c7 c8 c9 c10 c11 c12 c13 c14 c15 c16 (mV p v))∧akj w0.heap.size w0 w'
theorem tK{p:aA}{v:Int}(h:kY p v≠0):mV p v=jM:=if_neg h
theorem Il{w:World}{x:List Value}{y:gE}(h:jY w x y):jY w (oZ x) (uD y):=by
 obtain⟨pv,rfl,h2⟩:=h;exact⟨pv,rfl,h2⟩
theorem NC{w0:World}{c0 c1 c2 c3 c4 c5 c6 c7 c8 c9 c10 c11 c12 c13 c14 c15 c16:Value}{p:aA}(hp:aD w0 c0 c1 c2 c3 c4 c5 c6 c7 c8 c9 c10 c11 c12 c13 c14 c15 c16 p)(hok:p.Ok)(hs:p.dW)(ver:Int)(hv:eF ver):Calls Tryz.prog 25 #[.agg #[c0,c1,c2,c3,c4,c5,c6,c7,c8,c9,c10,c11,c12,c13,c14,c15,c16],.int .i64 ver] w0 (DnC w0 p ver):=by
 have hp':=hp;obtain⟨a0,a1,a2,a3,a4,a5,a6,a7,a8,a9,nr,mH,a12,mF,mE,og,n_,k0,k1,k2,k3,k4,k5,k6,k7,k8,k9,k10,k11,k12,k13,k14,k15,k16,rfl,rfl,rfl,rfl,rfl,rfl,rfl,rfl,rfl,rfl,rfl,rfl,rfl,rfl,rfl,rfl,rfl⟩:=hp.open;refine bU [] (fn:=Tryz.f25) Tryz.func25 rfl Tryz.ntmps25 rfl<|fun g1 w1 M1=>ei<|an rM fun g2 w2 M2=>cl<|an (vo w2 ver hv) fun w3 M3=>an (fun h=>?_) fun h=>?_
 ·have hno:¬ (1≤ver∧ver≤3):=by have h2:=h;simp at h2;omega
  have hk:kY p ver=8:=if_neg hno;exact ei (x:=.agg #[.slice none 0 0,.slice none 0 0,.slice none 0 0,.slice none 0 0,.slice none 0 0,.slice none 0 0,.slice none 0 0,.slice none 0 0,.slice none 0 0,.slice none 0 0,.slice none 0 0,.slice none 0 0,.slice none 0 0,.slice none 0 0,.slice none 0 0,.slice none 0 0,.slice none 0 0])<|an (bd (by kernel_rfl))<|lb 0<|an ⟨rfl,rfl⟩ fun w4 M4=>ei (x:=0)<|an rfl fun M=>⟨_,_,_,_,_,_,_,_,_,_,_,_,_,_,_,_,_,by rw[hk],⟨[],RowsIn.nil _ _,fun _ w _=>by rw[tK (by rw[hk];decide)];exact oI w⟩,M.below⟩
 have hyes:1≤ver∧ver≤3:=by simpa using h
 have hk1:kY p ver=bg p:=if_pos hyes;refine lb 1<|an rfl<|cl<|an (wv w3 _ _ _ _ _ _ _ _ _ _ _ _ _ _ _ _ _ p (hp'.keep M3.below) hok hs.md) fun w4 M4=>an (fun h=>?_) fun h=>?_
 ·have hne:bg p≠0:=by simpa using h
  exact ei (x:=.agg #[.slice none 0 0,.slice none 0 0,.slice none 0 0,.slice none 0 0,.slice none 0 0,.slice none 0 0,.slice none 0 0,.slice none 0 0,.slice none 0 0,.slice none 0 0,.slice none 0 0,.slice none 0 0,.slice none 0 0,.slice none 0 0,.slice none 0 0,.slice none 0 0,.slice none 0 0])<|an (bd (by kernel_rfl))<|lb 0<|an ⟨rfl,rfl⟩ fun w5 M5=>ei (x:=0)<|an rfl fun M=>⟨_,_,_,_,_,_,_,_,_,_,_,_,_,_,_,_,_,by rw[hk1],⟨[],RowsIn.nil _ _,fun _ w _=>by rw[tK (by rw[hk1];exact hne)];exact oI w⟩,M.below⟩
 have Ad:bg p=0:=by simpa using h
 have hk0:kY p ver=0:=hk1.trans Ad;have hQ:mV p ver=cJ p ver:=if_pos hk0;obtain⟨v,rfl⟩:=Int.eq_ofNat_of_zero_le (a:=ver) (by omega);have hle:=yL p (v:Int) (by omega)
 have he:qU bg (cJ p v) (v:Int)=.ok (iD (dB v (cJ p v))):=by
  unfold qU;rw[if_pos hyes,if_pos (mz _ Ad),if_neg (by omega)];simp
 obtain⟨hR3,hlen⟩:=sA (jl (v:Int) hs) (oT _ hok) (mz _ Ad);have hR:=hR3.at (v:=v) (by omega);have hlB:=CK (qx v (cJ p v));have hlL:=xB (v:=v) (by omega) (hlen v);obtain⟨BA,-⟩:=R5 (v:=v) (by omega) (by omega) hR (mz _ Ad);have hpre:=DL (v:=v) (by omega) (by omega) hR (oT _ hok) (jl (v:Int) hs).md (by have:=hlen v;omega);refine lb 1<|an rfl<|ei<|an rM fun g3 w5 M5=>lb 0<|an ⟨rfl,rfl⟩ fun w6 M6=>?_
 rcases(show v=3∨v=2∨v=1 by omega) with KH|hv2|hv1
 ·have hD:cJ p v=p:=if_pos (by omega);refine an (fun h=>absurd h (by simp;omega)) fun h=>an (fun h=>absurd h (by simp;omega)) fun h=>?_
  have hq:aD w6 (.slice a0 p.classes.length k0) (.slice a1 p.types.length k1) (.slice a2 p.attrs.length k2) (.slice a3 p.roles.length k3) (.slice a4 p.users.length k4) (.slice a5 p.bools.length k5) (.slice a6 p.ay.length k6) (.slice a7 p.cats.length k7) (.slice a8 p.conds.length k8) (.slice a9 p.rules.length k9) (.slice nr p.trans.length k10) (.slice mH p.ak.length k11) (.slice a12 p.ranges.length k12) (.slice mF p.cons.length k13) (.slice mE p.aN.length k14) (.slice og p.files.length k15) (.slice n_ p.asserts.length k16) (cJ p v):=by
   rw[hD];exact hp'.keep M6.below
  refine lb 0<|an rfl<|cg<|an (yF hq (oT _ hok) (jl _ hs) (by unfold eF;omega) he) ?_;rintro _ w60 ⟨⟨ua,uc,rfl,ho⟩,MW⟩;have Oe:=M6.qo (r:=aH _ (iD (dB v (cJ p v)))) MW ho;refine⟨_,_,Oe,an (fun h=>absurd h (by simp)) fun h=>cg<|an (BU (dX (Oe.r 0 rfl) hlB) hlL hpre BA) ?_⟩;rintro _ w61 ⟨⟨c0,c1,c2,c3,c4,c5,c6,c7,c8,c9,c10,c11,c12,c13,c14,c15,c16,T,rfl,hT,lA⟩,MV⟩;have XL:=Oe.mQ MV hT;have hpc:=lA _ _ hT;obtain⟨_,_,_,_,_,_,_,_,_,_,_,_,_,_,_,_,_,_,_,_,_,_,_,_,_,_,_,_,_,_,_,_,_,_,rfl,rfl,rfl,rfl,rfl,rfl,rfl,rfl,rfl,rfl,rfl,rfl,rfl,rfl,rfl,rfl,rfl⟩:=hpc.open;refine⟨_,_,XL,ei<|an rM fun g4 w62 M62=>lb 0<|an ⟨rfl,rfl⟩ fun w63 M63=>lb 0<|an rfl<|lb 2<|an ⟨rfl,rfl⟩ fun w64 XK=>ei (x:=2)<|an rfl fun M=>⟨_,_,_,_,_,_,_,_,_,_,_,_,_,_,_,_,_,by rw[hk0],⟨T,XK.gH.right,by rw[hQ];exact lA⟩,M.below⟩⟩
 ·have hD:cJ p v=qR p:=by unfold cJ;rw[if_neg (by omega),if_pos (by omega)]
  refine an (fun h=>?_) fun h=>absurd h (by simp;omega)
  refine lb 0<|an ⟨rfl,rfl⟩ fun w7 M7=>lb 0<|an ⟨rfl,rfl⟩ fun w8 M8=>an (fun h=>absurd h (by simp;omega)) fun h=>?_
  have h0:=hp'.keep M8.below
  have hq:aD w8 (.slice a0 p.classes.length k0) (.slice a1 p.types.length k1) (.slice a2 p.attrs.length k2) (.slice a3 p.roles.length k3) (.slice a4 p.users.length k4) (.slice a5 p.bools.length k5) (.slice a6 p.ay.length k6) (.slice a7 p.cats.length k7) (.slice a8 p.conds.length k8) (.slice a9 p.rules.length k9) (.slice nr p.trans.length k10) (.slice mH p.ak.length k11) (.slice a12 p.ranges.length k12) (.slice mF p.cons.length k13) (.slice mE p.aN.length k14) (.slice none 0 0) (.slice none 0 0) (cJ p v):=by
   rw[hD];exact⟨h0.classes,h0.types,h0.attrs,h0.roles,h0.users,h0.bools,h0.ay,h0.cats,h0.conds,h0.rules,h0.trans,h0.ak,h0.ranges,h0.cons,h0.aN,SliceAt.nil _ 9,SliceAt.nil _ 10⟩
  refine lb 0<|an rfl<|cg<|an (yF hq (oT _ hok) (jl _ hs) (by unfold eF;omega) he) ?_;rintro _ w60 ⟨⟨ua,uc,rfl,ho⟩,MW⟩;have Oe:=M8.qo (r:=aH _ (iD (dB v (cJ p v)))) MW ho;refine⟨_,_,Oe,an (fun h=>absurd h (by simp)) fun h=>cg<|an (BU (dX (Oe.r 0 rfl) hlB) hlL hpre BA) ?_⟩;rintro _ w61 ⟨⟨c0,c1,c2,c3,c4,c5,c6,c7,c8,c9,c10,c11,c12,c13,c14,c15,c16,T,rfl,hT,lA⟩,MV⟩;have XL:=Oe.mQ MV hT;have hpc:=lA _ _ hT;obtain⟨_,_,_,_,_,_,_,_,_,_,_,_,_,_,_,_,_,_,_,_,_,_,_,_,_,_,_,_,_,_,_,_,_,_,rfl,rfl,rfl,rfl,rfl,rfl,rfl,rfl,rfl,rfl,rfl,rfl,rfl,rfl,rfl,rfl,rfl⟩:=hpc.open;refine⟨_,_,XL,ei<|an rM fun g4 w62 M62=>lb 0<|an ⟨rfl,rfl⟩ fun w63 M63=>lb 0<|an rfl<|lb 2<|an ⟨rfl,rfl⟩ fun w64 XK=>ei (x:=2)<|an rfl fun M=>⟨_,_,_,_,_,_,_,_,_,_,_,_,_,_,_,_,_,by rw[hk0],⟨T,XK.gH.right,by rw[hQ];exact lA⟩,M.below⟩⟩
 ·have hD:cJ p v=eJ p:=by unfold cJ;rw[if_neg (by omega),if_neg (by omega)]
  refine an (fun h=>?_) fun h=>absurd h (by simp;omega)
  refine lb 0<|an ⟨rfl,rfl⟩ fun w7 M7=>lb 0<|an ⟨rfl,rfl⟩ fun w8 M8=>an (fun h=>?_) fun h=>absurd h (by simp;omega)
  have htl:=hs.sizes.trans;have Yc:=hs.sizes.types;refine lb 0<|an ⟨rfl,rfl⟩ fun w9 M9=>lb 2<|an rfl<|NJ M9 (J9 (hp'.keep M9.below).trans (by omega)) fun ta tc pE jH=>cg<|an (NI jH (by omega)) ?_
  rintro _ uO ⟨da,dc,rfl,M11⟩;refine⟨_,_,M11,lb 0<|an ⟨rfl,rfl⟩ fun zi q5=>?_⟩;obtain⟨es,Tv,he2,he3,U2⟩:=hp'.types;refine lb 2<|an rfl<|NJ q5 (J8 (he3.keep q5.below) (by omega)) fun ya yc KD zf=>lb 0<|an ⟨rfl,rfl⟩ fun KC Cb=>lb 0<|an rfl<|lq (ι:=Nat) (fun j=>[(43,.int .i64 (j:Int))]) (fun j=>[⟨.slice ya p.types.length yc,81,3,p.types.length,((es.take j).map oZ++es.drop j).flatten⟩,⟨.slice da (p.trans.filter bp).length dc,79,13,(p.trans.filter bp).length,(p.trans.filter bp).flatMap bG.cells⟩]) (fun j _=>j≤p.types.length) (fun j=>p.types.length-j) 0<|an ⟨⟨rfl,trivial⟩,fun M=>⟨M,ako _⟩⟩ ?_
  intro j Ec rL hj;refine an (fun h=>?_) fun h=>?_
  ·have hlt:j<p.types.length:=Int.ofNat_lt.1 (of_decide_eq_true h);obtain⟨g5,afL,afC,hv5,-,-,-,-,-,-⟩:=pZ (show Ec.ownsRow w0.heap.size 81 3 (.slice ya p.types.length yc) p.types.length _ from rL.r 0 rfl) (by omega);injection hv5 with e5 e6 e7;subst e5 e7;refine lb 0<|an rfl<|ia (i:=j)<|an ⟨rfl,rfl,hlt⟩<|stc (i:=j) (b:=false) rL (by omega) hlt fun KA vG=>an (by omega)<|bk (j+1) ⟨rfl,trivial⟩ (fun M=>⟨M.cast rfl (by rw[I3 he2 (by omega)]),hlt⟩) (show p.types.length-(j+1)<p.types.length-j by omega)
  have hge:j=p.types.length:=Nat.le_antisymm hj (Nat.le_of_not_lt fun h'=>of_decide_eq_false h (Int.ofNat_lt.2 h'));subst hge
  have hrow:((es.take p.types.length).map oZ++es.drop p.types.length).flatten=(es.map oZ).flatten:=by
   rw[← Tv,aks,List.drop_length,List.append_nil]
  have h0:=hp'.keep rL.below
  have hty:au 3 (jY Ec) Ec (.slice ya p.types.length yc) (eJ p).types:=by
   refine⟨es.map oZ,by show _=(p.types.map uD).length;rw[akk,akk,Tv],fun x hx=>?_,?_,fun i x y hx hy=>?_⟩
   ·obtain⟨z,hz,rfl⟩:=akp.1 hx;exact yN (he2 z hz)
   ·have hr:=rL.r 0 rfl;dsimp only at hr;rw[hrow] at hr;have:=SliceAt.iM hr ?_
    ·rw[show(eJ p).types.length=p.types.length from akk ..];exact this
    ·intro u hu;obtain⟨z,hz,hu⟩:=List.mem_flatten.1 hu;obtain⟨c,hc,rfl⟩:=akp.1 hz;obtain⟨i,hi⟩:=List.getElem?_of_mem hc;obtain⟨q,hq⟩:∃ q,p.types[i]?=some q:=⟨_,akr (by rw[← Tv];exact(akx.1 hi).1)⟩;obtain⟨pv,rfl,h2⟩:=U2 i c q hi hq;obtain⟨_,_,rfl,-⟩:=aJ.get h2;simp[oZ] at hu;rcases hu with rfl|rfl|rfl<;>rfl
   ·rw[show(eJ p).types=p.types.map uD from rfl,akl] at hy;rw[akl] at hx;obtain⟨c,hc,rfl⟩:=Option.map_eq_some_iff.1 hx;obtain⟨q,hq,rfl⟩:=Option.map_eq_some_iff.1 hy;exact Il ((U2 i c q hc hq).keep rL.below)
  have htr:SliceAt Ec (.slice da (p.trans.filter bp).length dc) 13 (eJ p).trans.length ((eJ p).trans.flatMap bG.cells):=SliceAt.iM (rL.r 1 rfl) fun u hu=>by
   obtain⟨x,_,hx⟩:=List.mem_flatMap.1 hu;have h1:x.cells.all (·.oneCell')=true:=rfl;exact akw.1 h1 u hx
  have hq:aD Ec (.slice a0 p.classes.length k0) (.slice ya p.types.length yc) (.slice a2 p.attrs.length k2) (.slice a3 p.roles.length k3) (.slice a4 p.users.length k4) (.slice a5 p.bools.length k5) (.slice a6 p.ay.length k6) (.slice a7 p.cats.length k7) (.slice a8 p.conds.length k8) (.slice a9 p.rules.length k9) (.slice da (p.trans.filter bp).length dc) (.slice mH p.ak.length k11) (.slice none 0 0) (.slice mF p.cons.length k13) (.slice mE p.aN.length k14) (.slice none 0 0) (.slice none 0 0) (cJ p v):=by
   rw[hD];exact⟨h0.classes,hty,h0.attrs,h0.roles,h0.users,h0.bools,h0.ay,h0.cats,h0.conds,h0.rules,htr,h0.ak,SliceAt.nil _ _,h0.cons,h0.aN,SliceAt.nil _ 9,SliceAt.nil _ 10⟩
  refine lb 0<|an rfl<|cg<|an (yF hq (oT _ hok) (jl _ hs) (by unfold eF;omega) he) ?_;rintro _ w60 ⟨⟨ua,uc,rfl,ho⟩,MW⟩;have Oe:=rL.qo (r:=aH _ (iD (dB v (cJ p v)))) MW ho;refine⟨_,_,Oe,an (fun h=>absurd h (by simp)) fun h=>cg<|an (BU (dX (Oe.r 0 rfl) hlB) hlL hpre BA) ?_⟩;rintro _ w61 ⟨⟨c0,c1,c2,c3,c4,c5,c6,c7,c8,c9,c10,c11,c12,c13,c14,c15,c16,T,rfl,hT,lA⟩,MV⟩;have XL:=Oe.mQ MV hT;have hpc:=lA _ _ hT;obtain⟨_,_,_,_,_,_,_,_,_,_,_,_,_,_,_,_,_,_,_,_,_,_,_,_,_,_,_,_,_,_,_,_,_,_,rfl,rfl,rfl,rfl,rfl,rfl,rfl,rfl,rfl,rfl,rfl,rfl,rfl,rfl,rfl,rfl,rfl⟩:=hpc.open;refine⟨_,_,XL,ei<|an rM fun g4 w62 M62=>lb 0<|an ⟨rfl,rfl⟩ fun w63 M63=>lb 0<|an rfl<|lb 2<|an ⟨rfl,rfl⟩ fun w64 XK=>ei (x:=2)<|an rfl fun M=>⟨_,_,_,_,_,_,_,_,_,_,_,_,_,_,_,_,_,by rw[hk0],⟨T,XK.gH.right,by rw[hQ];exact lA⟩,M.below⟩⟩
def abL(Ct w0:World)(p:aA)(v:Int)(e:Ending)(w':World):Prop:=∃ (c0 c1 c2 c3 c4 c5 c6 c7 c8 c9 c10 c11 c12 c13 c14 c15 c16:Value) (T:List Rw),e=.returned (.tuple #[.agg #[c0,c1,c2,c3,c4,c5,c6,c7,c8,c9,c10,c11,c12,c13,c14,c15,c16],.int .i64 (kY p v)])∧RowsIn w0.heap.size w' T∧(∀ B w,akj Ct.heap.size Ct w→RowsIn B w T→aD w c0 c1 c2 c3 c4 c5 c6 c7 c8 c9 c10 c11 c12 c13 c14 c15 c16 (mV p v))∧akj w0.heap.size w0 w'
theorem LI{w:World}{a:Option Addr}{n c k:Nat}{es:List (List Value)}(h3:SliceAt w (.slice a n c) k n es.flatten)(h2:∀ x∈es,x.length=k)(hk:0<k){i:Nat}{x:List Value}(hx:es[i]?=some x)(hi:i<n):∃ b off,a=some ⟨b,off,none⟩∧∀ j u,x[j]?=some u→w.cell? ⟨b,off+i*k+j,none⟩=some u:=by
 obtain⟨a',c',hv,hc,hm,hcell⟩:=h3.form hk;injection hv with e1 e2 e3;subst e1;obtain⟨b,off,ha,hcl⟩:=hcell i hi;exact⟨b,off,ha,fun j u hu=>hcl j u (by rw[vm h2 hx j (by rw[← h2 x (akn hx)];exact(akx.1 hu).1)];exact hu)⟩
theorem CQ{Ct w0:World}{c0 c1 c2 c3 c4 c5 c6 c7 c8 c9 c10 c11 c12 c13 c14 c15 c16:Value}{p:aA}(MK:aD Ct c0 c1 c2 c3 c4 c5 c6 c7 c8 c9 c10 c11 c12 c13 c14 c15 c16 p)(hb0:akj Ct.heap.size Ct w0)(hok:p.Ok)(hs:p.dW)(ver:Int)(hv:eF ver):Calls Tryz.prog 26 #[.agg #[c0,c1,c2,c3,c4,c5,c6,c7,c8,c9,c10,c11,c12,c13,c14,c15,c16],.int .i64 ver] w0 (abL Ct w0 p ver):=by
 have hp:=MK.keep hb0;have hp':=hp;obtain⟨a0,a1,a2,a3,a4,a5,a6,a7,a8,a9,nr,mH,a12,mF,mE,og,n_,k0,k1,k2,k3,k4,k5,k6,k7,k8,k9,k10,k11,k12,k13,k14,k15,k16,rfl,rfl,rfl,rfl,rfl,rfl,rfl,rfl,rfl,rfl,rfl,rfl,rfl,rfl,rfl,rfl,rfl⟩:=hp.open;refine bU [] (fn:=Tryz.f26) Tryz.func26 rfl Tryz.ntmps26 rfl<|fun g1 w1 M1=>ei<|an rM fun g2 w2 M2=>an (fun h=>?_) fun h=>?_
 ·have hno:¬ (1≤ver∧ver≤3):=by
   intro hy;have h2:=h;simp at h2;omega
  have hk:kY p ver=8:=if_neg hno;exact ei (x:=.agg #[.slice none 0 0,.slice none 0 0,.slice none 0 0,.slice none 0 0,.slice none 0 0,.slice none 0 0,.slice none 0 0,.slice none 0 0,.slice none 0 0,.slice none 0 0,.slice none 0 0,.slice none 0 0,.slice none 0 0,.slice none 0 0,.slice none 0 0,.slice none 0 0,.slice none 0 0])<|an (bd (by kernel_rfl))<|lb 0<|an ⟨rfl,rfl⟩ fun w4 M4=>ei (x:=0)<|an rfl fun M=>⟨_,_,_,_,_,_,_,_,_,_,_,_,_,_,_,_,_,_,by rw[hk],RowsIn.nil _ _,fun _ w _ _=>by rw[tK (by rw[hk];decide)];exact oI _,M.below⟩
 have hyes:1≤ver∧ver≤3:=by
  have h2:=h;simp at h2;omega
 have hk1:kY p ver=bg p:=if_pos hyes;refine lb 1<|an rfl<|cl<|an (Ka w2 _ _ _ _ _ _ _ _ _ _ _ _ _ _ _ _ _ p (hp'.keep M2.below) hok hs.few) fun w4 M4=>an (fun h=>?_) fun h=>?_
 ·have hne:bg p≠0:=by simpa using h
  exact ei (x:=.agg #[.slice none 0 0,.slice none 0 0,.slice none 0 0,.slice none 0 0,.slice none 0 0,.slice none 0 0,.slice none 0 0,.slice none 0 0,.slice none 0 0,.slice none 0 0,.slice none 0 0,.slice none 0 0,.slice none 0 0,.slice none 0 0,.slice none 0 0,.slice none 0 0,.slice none 0 0])<|an (bd (by kernel_rfl))<|lb 0<|an ⟨rfl,rfl⟩ fun w5 M5=>ei (x:=0)<|an rfl fun M=>⟨_,_,_,_,_,_,_,_,_,_,_,_,_,_,_,_,_,_,by rw[hk1],RowsIn.nil _ _,fun _ w _ _=>by rw[tK (by rw[hk1];exact hne)];exact oI _,M.below⟩
 have Ad:bg p=0:=by simpa using h
 have hk0:kY p ver=0:=hk1.trans Ad;have hQ:mV p ver=cJ p ver:=if_pos hk0;rcases(show ver=3∨ver=2∨ver=1 by omega) with KH|hv2|hv1
 ·have hD:cJ p ver=p:=if_pos (by omega);exact an (fun h=>absurd h (by simp;omega)) fun h=>an (fun h=>lb 1<|an rfl<|lb 0<|an ⟨rfl,rfl⟩ fun w8 M8=>ei (x:=0)<|an rfl fun M=>⟨_,_,_,_,_,_,_,_,_,_,_,_,_,_,_,_,_,_,by rw[hk0],RowsIn.nil _ _,fun _ w hw _=>by rw[hQ,hD];exact MK.keep hw,M.below⟩) fun h=>absurd h (by simp;omega)
 ·have hD:cJ p ver=qR p:=by unfold cJ;rw[if_neg (by omega),if_pos (by omega)]
  refine an (fun h=>?_) fun h=>absurd h (by simp;omega)
  refine lb 1<|an ⟨rfl,rfl⟩ fun w7 M7=>lb 1<|an ⟨rfl,rfl⟩ fun w8 M8=>an (fun h=>?_) fun h=>absurd h (by simp;omega)
  refine lb 1<|an rfl<|lb 0<|an ⟨rfl,rfl⟩ fun w9 M9=>?_
  have hq:∀ w,akj Ct.heap.size Ct w→aD w (.slice a0 p.classes.length k0) (.slice a1 p.types.length k1) (.slice a2 p.attrs.length k2) (.slice a3 p.roles.length k3) (.slice a4 p.users.length k4) (.slice a5 p.bools.length k5) (.slice a6 p.ay.length k6) (.slice a7 p.cats.length k7) (.slice a8 p.conds.length k8) (.slice a9 p.rules.length k9) (.slice nr p.trans.length k10) (.slice mH p.ak.length k11) (.slice a12 p.ranges.length k12) (.slice mF p.cons.length k13) (.slice mE p.aN.length k14) (.slice none 0 0) (.slice none 0 0) (cJ p ver):=fun w hw=>by
   have h0:=MK.keep hw;rw[hD];exact⟨h0.classes,h0.types,h0.attrs,h0.roles,h0.users,h0.bools,h0.ay,h0.cats,h0.conds,h0.rules,h0.trans,h0.ak,h0.ranges,h0.cons,h0.aN,SliceAt.nil _ 9,SliceAt.nil _ 10⟩
  exact ei (x:=0)<|an rfl fun M=>⟨_,_,_,_,_,_,_,_,_,_,_,_,_,_,_,_,_,_,by rw[hk0],RowsIn.nil _ _,fun _ w hw _=>by rw[hQ];exact hq w hw,M.below⟩
 have hD:cJ p ver=eJ p:=by unfold cJ;rw[if_neg (by omega),if_neg (by omega)]
 have htl:=hs.sizes.trans;have Yc:=hs.sizes.types;obtain⟨es,Tv,he2,aar,U2⟩:=MK.types;have he3:=aar.keep hb0;refine an (fun h=>?_) fun h=>absurd h (by simp;omega)
 refine lb 1<|an ⟨rfl,rfl⟩ fun w7 M7=>lb 1<|an ⟨rfl,rfl⟩ fun w8 M8=>an (fun h=>absurd h (by simp;omega)) fun h=>dr (by kernel_rfl)<|lb 1<|an rfl<|lb 1<|an rfl<|fun w9 Yf M9=>lb 1<|an ⟨rfl,rfl⟩ fun pE jH=>lb 1<|an ⟨rfl,rfl⟩ fun uO M11=>lb 1<|an ⟨rfl,rfl⟩ fun zi q5=>?_
 refine lp (ι:=Nat×Value) (fun z=>[(9,.int .i64 (z.1:Int))]) (fun z=>[(g2,39,#[.slice none 0 0,.slice none 0 0,.slice none 0 0,.slice none 0 0,.slice none 0 0,.slice none 0 0,.slice none 0 0,.slice none 0 0,.slice none 0 0,.slice none 0 0,.slice none 0 0,.slice none 0 0,.slice none 0 0,.slice none 0 0,.slice none 0 0,.slice none 0 0,.slice none 0 0]),(g1,39,#[.slice a0 p.classes.length k0,z.2,.slice a2 p.attrs.length k2,.slice a3 p.roles.length k3,.slice a4 p.users.length k4,.slice a5 p.bools.length k5,.slice a6 p.ay.length k6,.slice a7 p.cats.length k7,.slice a8 p.conds.length k8,.slice a9 p.rules.length k9,.slice none 0 0,.slice mH p.ak.length k11,.slice none 0 0,.slice mF p.cons.length k13,.slice mE p.aN.length k14,.slice none 0 0,.slice none 0 0])]) (fun z=>[⟨z.2,81,3,z.1,((es.take z.1).map oZ).flatten⟩]) (fun z _=>z.1≤p.types.length) (fun z=>p.types.length-z.1) (0,.slice none 0 0)<|an ⟨⟨rfl,trivial⟩,fun M=>⟨M.bE 81 3,ako _⟩⟩ ?_;rintro⟨j,v⟩ KD zf hj;refine an (fun h=>?_) fun h=>?_
 ·have hlt:j<p.types.length:=by simp at h;omega
  obtain⟨y,hy⟩:∃ y,p.types[j]?=some y:=⟨_,akr hlt⟩;obtain⟨x,hx⟩:∃ x,es[j]?=some x:=⟨_,akr (by omega)⟩;obtain⟨b,off,e,hc⟩:=LI he3 he2 (by decide) hx hlt;obtain⟨pv,rfl,ZW⟩:=U2 j x y hx hy;obtain⟨pa,pc,rfl,-⟩:=aJ.get ZW;refine sp [0,1,2,3,4,5,6,7,8,9,10,11,12,15] (.step 13 (.step 14 (.last 16))) [0] (by kernel_rfl)<|lb 0<|an rfl<|ia (i:=j)<|an ⟨e,rfl,hlt⟩<|lc (x:=.string y.name)<|an (fun u hb=>cL hb hc 0 _ rfl)<|ia (i:=j)<|an ⟨e,rfl,hlt⟩<|lc (x:=.slice pa y.jy.length pc)<|an (fun u hb=>cL hb hc 1 _ rfl)<|ei (x:=.agg #[.string y.name,.slice pa y.jy.length pc,.bool false])<|an (bd (by kernel_rfl))<|fun KC BD Cb=>fun g3 Ec rL=>an rfl<|zB 0 id rfl (rL.slice 0 rfl rfl rfl (by simp[maxLen])) ⟨by unfold maxLen;omega,by omega⟩ fun va vc KA vG=>an rfl<|lb 2<|an ⟨rfl,rfl⟩ fun OO Av=>an (by omega)<|bk (j+1,.slice va (j+1) vc) ⟨rfl,trivial⟩ (fun M=>⟨(M.only (.cons _ (.refl _)) (.refl _)).cast rfl (by dsimp only;rw[List.take_add_one,hx];simp[oZ]),hlt⟩) (show p.types.length-(j+1)<p.types.length-j by omega)
 obtain rfl:j=p.types.length:=by simp at h;omega
 obtain⟨ya,yc,QY⟩:=zf.form 0 rfl;have QY:v=.slice ya p.types.length yc:=QY;subst QY;have hrow:(es.take p.types.length).map oZ=es.map oZ:=by rw[← Tv,aks]
 refine lp (ι:=Nat×Value) (fun z=>[(10,.int .i64 (z.1:Int))]) (fun z=>[(g2,39,#[.slice none 0 0,.slice none 0 0,.slice none 0 0,.slice none 0 0,.slice none 0 0,.slice none 0 0,.slice none 0 0,.slice none 0 0,.slice none 0 0,.slice none 0 0,.slice none 0 0,.slice none 0 0,.slice none 0 0,.slice none 0 0,.slice none 0 0,.slice none 0 0,.slice none 0 0]),(g1,39,#[.slice a0 p.classes.length k0,.slice ya p.types.length yc,.slice a2 p.attrs.length k2,.slice a3 p.roles.length k3,.slice a4 p.users.length k4,.slice a5 p.bools.length k5,.slice a6 p.ay.length k6,.slice a7 p.cats.length k7,.slice a8 p.conds.length k8,.slice a9 p.rules.length k9,z.2,.slice mH p.ak.length k11,.slice none 0 0,.slice mF p.cons.length k13,.slice mE p.aN.length k14,.slice none 0 0,.slice none 0 0])]) (fun z=>[⟨z.2,79,13,((p.trans.take z.1).filter bp).length,((p.trans.take z.1).filter bp).flatMap bG.cells⟩,⟨.slice ya p.types.length yc,81,3,p.types.length,(es.map oZ).flatten⟩]) (fun z _=>z.1≤p.trans.length) (fun z=>p.trans.length-z.1) (0,.slice none 0 0)<|an ⟨⟨rfl,trivial⟩,fun M=>⟨(M.cast rfl (by dsimp only;rw[hrow])).bE 79 13,ako _⟩⟩ ?_;rintro⟨i,v⟩ OM Gs hi;refine an (fun h=>?_) fun h=>?_
 ·have hlt:i<p.trans.length:=by simp at h;omega
  obtain⟨y,hy⟩:∃ y,p.trans[i]?=some y:=⟨_,akr hlt⟩;obtain⟨b,off,e,hc⟩:=SliceAt.elt hp'.trans (fun _=>rfl) (by decide) hy hlt
  have hft:(p.trans.take (i+1)).filter bp=(p.trans.take i).filter bp++(if bp y then [y] else []):=by
   rw[List.take_add_one,hy];cases hq:bp y<;>simp[hq]
  have hfl:((p.trans.take i).filter bp).length≤100000:=by
   have h1:=List.length_filter_le bp (p.trans.take i);rw[aku] at h1;omega
  refine ia (i:=i)<|an ⟨e,rfl,hlt⟩<|lc (x:=.string y.name)<|an (cL Gs.below hc 10 _ rfl)<|an (fun h2=>?_) fun h2=>?_
  ·have hq:bp y=true:=by
    rw[Ft] at h2;exact h2
   rw[hq,if_pos rfl] at hft;exact sp [0,1,2,3,4,5,8] (.step 6 (.step 7 (.last 9))) [0] (by kernel_rfl)<|lb 0<|an rfl<|ia (i:=i)<|an ⟨e,rfl,hlt⟩<|lc (x:=y.cells)<|an (fun u hb=>cL hb hc)<|fun RJ aeM OC=>fun g5 Vp Og=>an rfl<|zB 0 id rfl (Og.slice 0 rfl rfl rfl (by simp[maxLen])) ⟨by unfold maxLen;dsimp only;omega,by dsimp only;omega⟩ fun va vc Vo OB=>an rfl<|lb 2<|an ⟨rfl,rfl⟩ fun Vn UG=>an (by omega)<|bk (i+1,.slice va (((p.trans.take i).filter bp).length+1) vc) ⟨rfl,trivial⟩ (fun M=>⟨(M.only (.cons _ (.refl _)) (.refl _)).cast rfl (by dsimp only;rw[hft];simp;rfl),hlt⟩) (show p.trans.length-(i+1)<p.trans.length-i by omega)
  ·have hq:bp y=false:=by
    rw[Ft] at h2;exact h2
   rw[hq] at hft;exact an (by omega)<|bk (i+1,v) ⟨rfl,trivial⟩ (fun M=>⟨M.cast rfl (by dsimp only;rw[hft];simp),hlt⟩) (show p.trans.length-(i+1)<p.trans.length-i by omega)
 obtain rfl:i=p.trans.length:=by simp at h;omega
 obtain⟨da,dc,QY⟩:=Gs.form 0 rfl;have QY:v=.slice da ((p.trans.take p.trans.length).filter bp).length dc:=QY;rw[aks] at QY;subst QY;refine lb 1<|an rfl<|lb 0<|an ⟨rfl,rfl⟩ fun Vm OA=>?_
 have hq:∀ B w,akj Ct.heap.size Ct w→RowsIn B w [⟨.slice da (p.trans.filter bp).length dc,79,13,((p.trans.take p.trans.length).filter bp).length,((p.trans.take p.trans.length).filter bp).flatMap bG.cells⟩,⟨.slice ya p.types.length yc,81,3,p.types.length,(es.map oZ).flatten⟩]→aD w (.slice a0 p.classes.length k0) (.slice ya p.types.length yc) (.slice a2 p.attrs.length k2) (.slice a3 p.roles.length k3) (.slice a4 p.users.length k4) (.slice a5 p.bools.length k5) (.slice a6 p.ay.length k6) (.slice a7 p.cats.length k7) (.slice a8 p.conds.length k8) (.slice a9 p.rules.length k9) (.slice da (p.trans.filter bp).length dc) (.slice mH p.ak.length k11) (.slice none 0 0) (.slice mF p.cons.length k13) (.slice mE p.aN.length k14) (.slice none 0 0) (.slice none 0 0) (cJ p ver):=fun B w hw hT=>by
  have h0:=MK.keep hw
  have hty:au 3 (jY w) w (.slice ya p.types.length yc) (eJ p).types:=by
   refine⟨es.map oZ,by show _=(p.types.map uD).length;rw[akk,akk,Tv],fun x hx=>?_,?_,fun i x y hx hy=>?_⟩
   ·obtain⟨z,hz,rfl⟩:=akp.1 hx;exact yN (he2 z hz)
   ·have hr:=hT.1 _ (List.mem_cons_of_mem _ (aky ..));dsimp only at hr;have:=SliceAt.iM hr ?_
    ·rw[show(eJ p).types.length=p.types.length from akk ..];exact this
    ·intro u hu;obtain⟨z,hz,hu⟩:=List.mem_flatten.1 hu;obtain⟨c,hc,rfl⟩:=akp.1 hz;obtain⟨i,hi⟩:=List.getElem?_of_mem hc;obtain⟨q,hq⟩:∃ q,p.types[i]?=some q:=⟨_,akr (by rw[← Tv];exact(akx.1 hi).1)⟩;obtain⟨pv,rfl,h2⟩:=U2 i c q hi hq;obtain⟨_,_,rfl,-⟩:=aJ.get h2;simp[oZ] at hu;rcases hu with rfl|rfl|rfl<;>rfl
   ·rw[show(eJ p).types=p.types.map uD from rfl,akl] at hy;rw[akl] at hx;obtain⟨c,hc,rfl⟩:=Option.map_eq_some_iff.1 hx;obtain⟨q,hq,rfl⟩:=Option.map_eq_some_iff.1 hy;exact Il ((U2 i c q hc hq).keep hw)
  have htr:SliceAt w (.slice da (p.trans.filter bp).length dc) 13 (eJ p).trans.length ((eJ p).trans.flatMap bG.cells):=SliceAt.iM (by have hr0:=hT.1 _ (aky ..);dsimp only at hr0;rw[aks] at hr0;exact hr0) fun u hu=>by
   obtain⟨x,_,hx⟩:=List.mem_flatMap.1 hu;have h1:x.cells.all (·.oneCell')=true:=rfl;exact akw.1 h1 u hx
  rw[hD];exact⟨h0.classes,hty,h0.attrs,h0.roles,h0.users,h0.bools,h0.ay,h0.cats,h0.conds,h0.rules,htr,h0.ak,SliceAt.nil _ _,h0.cons,h0.aN,SliceAt.nil _ 9,SliceAt.nil _ 10⟩
 exact ei (x:=0)<|an rfl fun M=>⟨_,_,_,_,_,_,_,_,_,_,_,_,_,_,_,_,_,_,by rw[hk0],OA.gH,fun B w hw hT=>by rw[hQ];exact hq B w hw hT,M.below⟩
def Ol(w:World)(v:Value)(s:List Bool):Prop:=SliceAt w v 1 s.length (s.map Value.bool)
theorem Ol.keep{w w':World}{v:Value}{s:List Bool}(h:Ol w v s)(hb:akj w.heap.size w w'):Ol w' v s:=SliceAt.keep h hb
theorem Ug{w0:World}{c0 c1 c2 c3 c4 c5 c6 c7 c8 c9 c10 c11 c12 c13 c14 c15 c16:Value}{p:aA}(hp:aD w0 c0 c1 c2 c3 c4 c5 c6 c7 c8 c9 c10 c11 c12 c13 c14 c15 c16 p)(hok:p.Ok)(hs:p.dW)(ver:Int)(hv:eF ver):Calls Tryz.prog 25 #[.agg #[c0,c1,c2,c3,c4,c5,c6,c7,c8,c9,c10,c11,c12,c13,c14,c15,c16],.int .i64 ver] w0 (fun e w'=>∃ u,e=.returned u∧((∃ (c0 c1 c2 c3 c4 c5 c6 c7 c8 c9 c10 c11 c12 c13 c14 c15 c16:Value) (T:List Rw),u=.tuple #[.agg #[c0,c1,c2,c3,c4,c5,c6,c7,c8,c9,c10,c11,c12,c13,c14,c15,c16],.int .i64 (kY p ver)]∧RowsIn w0.heap.size w' T∧∀ B w,RowsIn B w T→aD w c0 c1 c2 c3 c4 c5 c6 c7 c8 c9 c10 c11 c12 c13 c14 c15 c16 (mV p ver))∧akj w0.heap.size w0 w')):=
 (NC hp hok hs ver hv).mono fun _ _ ⟨_,_,_,_,_,_,_,_,_,_,_,_,_,_,_,_,_,h,⟨T,h1,h2⟩,hb⟩=>⟨_,h,⟨_,_,_,_,_,_,_,_,_,_,_,_,_,_,_,_,_,T,rfl,h1,h2⟩,hb⟩
theorem Jc{Ct w0:World}{c0 c1 c2 c3 c4 c5 c6 c7 c8 c9 c10 c11 c12 c13 c14 c15 c16:Value}{p:aA}(hp:aD Ct c0 c1 c2 c3 c4 c5 c6 c7 c8 c9 c10 c11 c12 c13 c14 c15 c16 p)(hb:akj Ct.heap.size Ct w0)(hok:p.Ok)(hs:p.dW)(ver:Int)(hv:eF ver):Calls Tryz.prog 26 #[.agg #[c0,c1,c2,c3,c4,c5,c6,c7,c8,c9,c10,c11,c12,c13,c14,c15,c16],.int .i64 ver] w0 (fun e w'=>∃ u,e=.returned u∧((∃ (c0 c1 c2 c3 c4 c5 c6 c7 c8 c9 c10 c11 c12 c13 c14 c15 c16:Value) (T:List Rw),u=.tuple #[.agg #[c0,c1,c2,c3,c4,c5,c6,c7,c8,c9,c10,c11,c12,c13,c14,c15,c16],.int .i64 (kY p ver)]∧RowsIn w0.heap.size w' T∧∀ B w,akj Ct.heap.size Ct w→RowsIn B w T→aD w c0 c1 c2 c3 c4 c5 c6 c7 c8 c9 c10 c11 c12 c13 c14 c15 c16 (mV p ver))∧akj w0.heap.size w0 w')):=
 (CQ hp hb hok hs ver hv).mono fun _ _ ⟨_,_,_,_,_,_,_,_,_,_,_,_,_,_,_,_,_,T,h,h1,h2,hb⟩=>⟨_,h,⟨_,_,_,_,_,_,_,_,_,_,_,_,_,_,_,_,_,T,rfl,h1,h2⟩,hb⟩
theorem Nk:jM.Ok:=by
 constructor<;>simp[jM,kO]
theorem ND{p:aA}{v:Int}(hok:p.Ok)(hs:p.dW):(mV p v).Ok∧(gD 3 (mV p v)).length+2000≤aF:=by
 unfold mV;split
 ·rename_i h
  have Ad:bg p=0:=by
   unfold kY at h;split at h
   ·exact h
   ·cases h
  exact⟨oT v hok,(sA (jl v hs) (oT v hok) (mz v Ad)).2 3⟩
 ·exact⟨Nk,Nat.le_of_ble_eq_true (by kernel_rfl)⟩
theorem yK(w0:World)(c0 c1 c2 c3 c4 c5 c6 c7 c8 c9 c10 c11 c12 c13 c14 c15 c16:Value)(p:aA)(hp:aD w0 c0 c1 c2 c3 c4 c5 c6 c7 c8 c9 c10 c11 c12 c13 c14 c15 c16 p)(hok:p.Ok)(ver:Int)(hv:eF ver):Calls Tryz.prog 10 #[.agg #[c0,c1,c2,c3,c4,c5,c6,c7,c8,c9,c10,c11,c12,c13,c14,c15,c16],.int .i64 ver] w0 (fun r w'=>r=.returned (.bool true)∧akj w0.heap.size w0 w'):=by
 have hp':=hp;obtain⟨a0,a1,a2,a3,a4,a5,a6,a7,a8,a9,nr,mH,a12,mF,mE,og,n_,k0,k1,k2,k3,k4,k5,k6,k7,k8,k9,k10,k11,k12,k13,k14,k15,k16,rfl,rfl,rfl,rfl,rfl,rfl,rfl,rfl,rfl,rfl,rfl,rfl,rfl,rfl,rfl,rfl,rfl⟩:=hp.open;refine bU [] (fn:=Tryz.f10) Tryz.func10 rfl Tryz.ntmps10 rfl<|fun g1 w1 M1=>lb 0<|an rfl<|cg<|an (IY w1 _ _ _ _ _ _ _ _ _ _ _ _ _ _ _ _ _ p (hp'.keep M1.below) hok) ?_
 rintro _ w2 ⟨b,rfl,za,hb2⟩;have M2:=M1.keep hb2;refine⟨_,_,M2,?_⟩
 cases b with
 | false=>exact an (fun h=>cl<|an (uJ _) fun w3 M3=>fun M=>⟨rfl,M.below⟩) fun h=>absurd h (by simp)
 | true=>
  have hS:=za rfl;obtain⟨ZV,hql⟩:=ND (v:=ver) hok hS;refine an (fun h=>absurd h (by simp)) fun h=>lb 0<|an rfl<|cg<|an (Ug (hp'.keep M2.below) hok hS ver hv) ?_
  rintro _ w3 ⟨⟨c0,c1,c2,c3,c4,c5,c6,c7,c8,c9,c10,c11,c12,c13,c14,c15,c16,T,rfl,hT,lA⟩,eu⟩;have M3:=M2.mQ eu hT;have hpc:=lA _ _ hT;obtain⟨_,_,_,_,_,_,_,_,_,_,_,_,_,_,_,_,_,_,_,_,_,_,_,_,_,_,_,_,_,_,_,_,_,_,rfl,rfl,rfl,rfl,rfl,rfl,rfl,rfl,rfl,rfl,rfl,rfl,rfl,rfl,rfl,rfl,rfl⟩:=hpc.open;refine⟨_,_,M3,ei<|an rM fun g2 w5 M5=>lb 0<|an ⟨rfl,rfl⟩ fun w6 M6=>lb 1<|an rfl<|cg<|an (Jc hp' M6.below hok hS ver hv) ?_⟩;rintro _ w7 ⟨⟨d0,d1,d2,d3,d4,d5,d6,d7,d8,d9,Va,U_,U9,U8,U7,U6,U5,T2,rfl,WJ,hpd⟩,Qc⟩;have M7:=M6.mQ Qc WJ;have ZY:=hpd _ _ M7.below WJ;obtain⟨_,_,_,_,_,_,_,_,_,_,_,_,_,_,_,_,_,_,_,_,_,_,_,_,_,_,_,_,_,_,_,_,_,_,rfl,rfl,rfl,rfl,rfl,rfl,rfl,rfl,rfl,rfl,rfl,rfl,rfl,rfl,rfl,rfl,rfl⟩:=ZY.open;refine⟨_,_,M7,ei<|an rM fun g3 w8 M8=>lb 0<|an ⟨rfl,rfl⟩ fun w9 M9=>lb 1<|an (fun _=>rfl)<|lb 0<|an (fun _=>rfl)<|cl (v:=.bool true)<|an (fun _=>qG (lA _ _ M9.gH.left.right) (hpd _ _ M9.below M9.gH.right) ZV hql) fun pE jH=>an (fun h=>absurd h (by simp)) fun h=>an (fun h=>cl<|an (uJ _) fun uO M11=>fun M=>⟨rfl,M.below⟩) fun h=>?_⟩;have hk0:kY p ver=0:=by simpa using h
  have hyes:1≤ver∧ver≤3:=by
   unfold kY at hk0;split at hk0
   ·assumption
   ·cases hk0
  have Ad:bg p=0:=by
   unfold kY at hk0;rw[if_pos hyes] at hk0;exact hk0
  have hQ:mV p ver=cJ p ver:=if_pos hk0;obtain⟨v,rfl⟩:=Int.eq_ofNat_of_zero_le (a:=ver) (by omega);have hle:=yL p (v:Int) (by omega)
  have hsq:(mV p (v:Int)).dW:=by
   rw[hQ];exact jl _ hS
  have he:qU bg (mV p v) (v:Int)=.ok (iD (dB v (cJ p v))):=by
   rw[hQ];unfold qU;rw[if_pos hyes,if_pos (mz _ Ad),if_neg (by omega)];simp
  refine lb 1<|an rfl<|cg<|an (yF (lA _ _ jH.gH.left.right) ZV hsq hv he) ?_;rintro _ uO ⟨⟨ua,uc,rfl,ho⟩,MZ⟩;have M11:=jH.qo (r:=aH _ (iD (dB v (cJ p v)))) MZ ho;have MQ:=um uO _ _ _ _ _ _ _ _ _ _ _ _ _ _ _ _ _ p (hp'.keep M11.below) hok hS.md;rw[if_pos Ad,Ad] at MQ;refine⟨_,_,M11,lb 2<|an rfl<|cl<|an MQ fun zi q5=>lb 1<|an (fun _=>rfl)<|lb 2<|an (fun _=>rfl)<|cl (v:=.bool true)<|an (fun hg=>?_) fun KD zf=>cl<|an (fun _=>uJ _) fun KC Cb=>fun M=>⟨?_,M.below⟩⟩
  ·have hlv:(cC p:Int)≤v:=by
    simp at hg;omega
   have hqp:mV p (v:Int)=p:=hQ.trans (J5 (by omega) hlv);exact qG (lA _ _ (q5.gH.sub (.cons _ (.refl _))).left.right) (by rw[hqp];exact hp'.keep q5.below) ZV hql
  ·simp;rfl
end Go.Proofs.YtkkmjdceiocnbaaGreatDoor
namespace Go.Proofs.YtkkmjdceiocnbaaGreatDoor
open Go Go.ChangeAt Go.ChangeShapes Go.RowKit Go.WideShapes
theorem Y1:ownKnob Tryz.prog.godebug=none:=by kernel_rfl
theorem QV:laidOutB Tryz.prog=true:=by kernel_rfl
def Hr:List (String×DataW Unit):=[("bytes.ErrTooLarge",Rows.laid_bytes_ErrTooLarge)]
theorem NG(os:Os)(args:Array Value):laidMetH Tryz.prog Hr ((World.doorLaid Tryz.prog 400 os).forCall (fun _ _=>0) ⟨#[],args,[]⟩).memory:=
 laidMetH_of_parts3 (fuel:=8) (laidMet_of_run' 8 (by kernel_rfl) (by kernel_rfl)) (by kernel_rfl) (by kernel_rfl)
section
variable {H:Type} {enc:TypeId×Value→H}
theorem vD{C:Checked}{os:Os}{f:FuncId}{fn:Func}{s:ChangeSpec}{X:World→Prop}(hX:∀ (w w':World),w.heap=w'.heap→X w→X w')(own:ownKnob C.prog.godebug=none)(laid:laidOutB C.prog=true)(started:os.Started)
 (noInit:C.prog.inits.idxOf? f=none) (hfn:C.prog.funcs[f]?=some fn) (hv:s.vars=[]) (tb:TypeId) (hres:fn.resultTypes=#[tb]) (hb:C.prog.underlying tb=some .bool)
 (hpar:fn.params.toList.all (fun t=>isVar C.prog t&&C.prog.readableRec t)=true)
 (hspec:∀ ds:List (DataW H),ds.length=fn.params.toList.length→s.fn H ds={ results:=[.lit (.bool true)],args:=ds })
 (witness:∃ (w:World) (tape:Tape) (i:Input),w.os=os∧(w.forCall tape i).Shaped C.prog∧i.vars=[]∧Input.okWide C.prog (w.forCall tape i) .any w.heap.size f i ∧
  ((s.pre enc C.prog fn [] false (w.forCall tape i).memory i.args∧X (w.forCall tape i).memory)∧sizedMet enc C.prog fn (OpenSpec.ofChange s) false (w.forCall tape i).memory i.args)∧({}:Assume).holds C.prog (lone (Frame.enter C.prog f i.args .normal) [] (w.forCall tape i)))
 (contract:∀ (W:World) (args:Array Value),Args C.prog W fn.params.toList args.toList→X W→Calls C.prog f args W fun e W'=>e=.returned (.bool true)∧Below W.heap.size W W') :
 ReturnsInHanded {} C os f .any (fun w args=>(s.pre enc C.prog fn [] false w args∧X w)∧sizedMet enc C.prog fn (OpenSpec.ofChange s) false w args) (s.post enc C.prog fn false true false false):=by
 refine returnsInHanded_of_change_and (C:=C) (X:=fun w _=>X w) (fun w w' _ hh h=>hX w w' hh h) own started noInit hfn witness ?_;intro W base args ds gs before hval hW _ hsz hL _;have hW':=hW;obtain⟨p,q,hA,hV,rfl,_,_⟩:=hW;rw[hv] at hV;obtain⟨rfl,rfl⟩:=trodVars_none hV
 have hp:∀ t∈fn.params.toList,isVar C.prog t=true∧C.prog.readableRec t=true:=fun t ht=>by
  have:=akw.1 hpar t ht;simpa using this
 have hw:∀ n∈DataW.weightsEach C.prog fn.params.toList ds,n≤reachBytes:=fun n hn=>by
  have:=akw.1 hsz n (by
   have:s.plain.varTypes C.prog=[]:=by simp[ChangeSpec.plain,DataSpec.varTypes,hv]
   rw[this,List.append_nil,List.append_nil];exact hn)
  simpa using this
 refine(contract W args (Ir laid (fun t ht=>(hp t ht).1) (fun j t v h1 h2=>hval j t v (by simpa using h1) (by simpa using h2)) hA hw) hL).mono fun e W' ⟨he,hB⟩=>?_
 subst he;exact⟨_,rfl,Mi laid hv tb hres hb hpar hspec hW' hB⟩
end
theorem Ut{P:Program}{w:World}{t u:TypeId}{vs:List Value}(h:Args P w [t,u] vs):∃ a b,vs=[a,b]∧Arg P w t a∧Arg P w u b:=by
 match vs,h with
 | [a,b],⟨h1,h2,_⟩=>exact⟨a,b,rfl,h1,h2⟩
theorem wf_i64'{n:Int}(h:(Lit.int .i64 n).wf=true):eF n:=by
 have a1:IntKind.i64.min=-9223372036854775808:=by decide
 have a2:IntKind.i64.max=9223372036854775807:=by decide
 simp only[Lit.wf,a1,a2] at h;simp at h;unfold eF;omega
theorem MF{w:World}{v:Value}(h:Arg Tryz.prog w 3 v):∃ n:Int,v=.int .i64 n∧eF n:=by
 obtain⟨f,cs,h,rfl⟩:=h;rw[Tryz.underlying3];obtain⟨n,rfl,hn⟩:=h.int Tryz.underlying3;exact⟨n,rfl,wf_i64' hn⟩
end Go.Proofs.YtkkmjdceiocnbaaGreatDoor
namespace Go.Proofs.YtkkmjdceiocnbaaGreatDoor
open Go
theorem dP{a b:Bool}(ha:a=true)(hb:b=true):(a&&b)=true:=by rw[ha,hb];rfl
theorem jp2:(mapsRowed Tryz.prog)=true:=by kernel_rfl
theorem jp6:((Tryz.prog.stops == []))=true:=by kernel_rfl
theorem jp8:((Tryz.prog.stopKnobs == []))=true:=by kernel_rfl
theorem ZF:(Tryz.prog.stopsHeard)=true:=by kernel_rfl
theorem ZE:(Tryz.prog.mayEnter)=true:=by kernel_rfl
theorem Wh:Tryz.prog.mainIs=some (true,"21cd7d88085a88a46529f49a80f1c1ae8c50f5ac4152a0b85a4be9318cf10102".toList):=by kernel_rfl
theorem Wi:true=Tryz.prog.looks []:=by kernel_rfl
theorem jw3:Tryz.prog.wantsStandIn 3=false:=by kernel_rfl
theorem ZC:Tryz.prog.wantsStandIn 39=false:=by kernel_rfl
end Go.Proofs.YtkkmjdceiocnbaaGreatDoor

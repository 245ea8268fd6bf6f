import Derived.Recover
import Derived.Test.YtkkmjdceiocnbaaGreatDoorS8
open Bool renaming eq_iff_iff→ak0,and_eq_true→ak2
open Go.RowKit renaming Below→akX
open Go.Sem renaming run_bind→ak1
open List renaming mem_singleton→akT,getElem?_eq_getElem→akU,getElem?_eq_some_iff→akV,all_eq_true→akW
open Nat renaming zero_le→akY
open Option.some renaming inj→akZ
set_option maxRecDepth 100000
set_option maxHeartbeats 8000000
set_option linter.unusedSectionVars false
set_option linter.unusedSimpArgs false
set_option linter.unusedVariables false
namespace Go.Proofs.YtkkmjdceiocnbaaGreatDoor
open Go Go.RowKit
theorem bA{α:Type}{ty k:Nat}{cells:α→List Value}{T:List Rw}{v:Value}{x:List α}(h:sU ty k cells T v x)(h1:∀ y,∀ u∈cells y,u.oneCell'=true){B:Nat}{w:World}(hT:RowsIn B w T):SliceAt w v k x.length (x.flatMap cells):=by
 obtain⟨a,c,rfl,rfl⟩:=h;exact SliceAt.r_ (hT.1 _ (akT.2 rfl)) fun u hu=>by obtain⟨y,-,hy⟩:=List.mem_flatMap.1 hu;exact h1 y u hy
theorem iO{α:Type}{ty k:Nat}{Rel:List Rw→List Value→α→Prop}{R:List Value→α→Prop}{T:List Rw}{v:Value}{x:List α}{B:Nat}{w:World}(h:O2 ty k Rel T v x)(hR:∀ {T':List Rw} {cs:List Value} {y:α},RowsIn B w T'→Rel T' cs y→R cs y)(hone:∀ {T':List Rw} {cs:List Value} {y:α},Rel T' cs y→∀ u∈cs,u.oneCell'=true)(hT:RowsIn B w T):aj k R w v x:=by
 obtain⟨a,c,es,T',rfl,rfl,h1,h2,h3⟩:=h;refine⟨es,h1,h2,SliceAt.r_ (hT.1 _ (List.mem_cons_self ..)) fun u hu=>?_,fun i x y hx hy=>hR (hT.sub (List.sublist_cons_self ..)) (h3 i x y hx hy)⟩;obtain⟨z,hz,huz⟩:=List.mem_flatten.1 hu;obtain⟨i,hi⟩:=List.getElem?_of_mem hz;obtain⟨y,hy⟩:∃ y,x[i]?=some y:=⟨_,akU (by have:=(akV.1 hi).1;rw[h1] at this;exact this)⟩;exact hone (h3 i z y hi hy) u huz
theorem CO.at{B:Nat}{w:World}{T:List Rw}{cs:List Value}{y:gi}(hT:RowsIn B w T)(h:CO T cs y):kW w cs y:=by
 obtain⟨a,c,rfl,hm⟩:=h;exact⟨_,rfl,SliceAt.r_ (hT.1 _ hm) (Ih _)⟩
theorem CH.at{B:Nat}{w:World}{T:List Rw}{cs:List Value}{y:gh}(hT:RowsIn B w T)(h:CH T cs y):jk w cs y:=by
 obtain⟨a,c,rfl,hm⟩:=h;exact⟨_,rfl,SliceAt.r_ (hT.1 _ hm) (Ih _)⟩
theorem CN.at{B:Nat}{w:World}{T:List Rw}{cs:List Value}{y:ij}(hT:RowsIn B w T)(h:CN T cs y):kV w cs y:=by
 obtain⟨es,rfl,hm⟩:=h;exact⟨_,rfl,hm.at_ hT⟩
theorem CO.one{T:List Rw}{cs:List Value}{y:gi}(h:CO T cs y):∀ u∈cs,u.oneCell'=true:=by
 obtain⟨a,c,rfl,hm⟩:=h;exact akW.1 rfl
theorem CH.one{T:List Rw}{cs:List Value}{y:gh}(h:CH T cs y):∀ u∈cs,u.oneCell'=true:=by
 obtain⟨a,c,rfl,hm⟩:=h;exact akW.1 rfl
theorem CN.one{T:List Rw}{cs:List Value}{y:ij}(h:CN T cs y):∀ u∈cs,u.oneCell'=true:=by
 obtain⟨es,rfl,hm⟩:=h;intro u hu;rcases List.mem_append.1 hu with hu|hu
 ·exact akW.1 rfl u hu
 ·exact hm.one u hu
def Yd(T:List Rw)(v:Value)(x:aD):Prop:=∃ c0 c1 c2 c3 c4 c5 c6 c7 c8 c9 c10 c11 c12 c13 c14 c15 c16,v=.agg #[c0,c1,c2,c3,c4,c5,c6,c7,c8,c9,c10,c11,c12,c13,c14,c15,c16]∧∀ B w,RowsIn B w T→aA w c0 c1 c2 c3 c4 c5 c6 c7 c8 c9 c10 c11 c12 c13 c14 c15 c16 x
section
variable {w0 w:World} {bs:List Bx} {rs:List Rw} {R:Nat} {v:Nat} {u:Value} {l:List Nat}
theorem O7(M:aQ w0.heap.size w0 w (cQ R u (v:Int)::bs) rs)(hs:jP u l)(hb:aq w0 u l)(hL:l.length≤aT):Calls Tryz.prog 133 #[.pointer (some ⟨R,0,none⟩)] w (eJ w0 R (v:Int) bs rs Yd (wY v l)):=by
 refine iy M [] (fn:=Tryz.f133) Tryz.func133 rfl Tryz.ntmps133 rfl<|fun g1 w1 M1=>ei<|an Ac fun g2 w2 M2=>lb 1<|an rfl<|ei<|an (fun a w o ho hv=>dz ho (aY hv))<|wI 2 rfl M2 rfl (fun M=>ad2 (gc:=g1) M hs hb (by omega) (by simp)) ?_
 intro v0 T0 x0 l1 u1 w3 hp1 hr1 P0 hs1 hb1 M3;obtain⟨a0,c0,_,_,rfl,-⟩:=id P0;have hl1:=bp (dB J9) hb.2 hp1;refine lb 0<|an ⟨rfl,rfl⟩ fun w4 M4=>lb 1<|an rfl<|ei<|an (fun a w o ho hv=>dz ho (aY hv))<|wI 2 hr1 M4 rfl (fun M=>ad1 (gc:=g1) M hs1 hb1 (by omega) (by simp)) ?_
 intro v1 T1 x1 l2 u2 w5 hp2 cZ P1 eH hb2 M5;obtain⟨a1,c1,_,_,rfl,-⟩:=id P1;have hl2:=bp (dB (J3 v)) hb1.2 hp2;refine lb 0<|an ⟨rfl,rfl⟩ fun w6 M6=>lb 1<|an rfl<|ei<|an (fun a w o ho hv=>dz ho (aY hv))<|wI 2 cZ M6 rfl (fun M=>a218 (gc:=g1) M eH hb2 (by omega) (by simp)) ?_
 intro v2 T2 x2 l3 u3 w7 oG mq P2 lU fL M7;obtain⟨a2,c2,rfl,-⟩:=id P2;have iZ:=bp (dB Ka) hb2.2 oG;refine lb 0<|an ⟨rfl,rfl⟩ fun w8 M8=>lb 1<|an rfl<|ei<|an (fun a w o ho hv=>dz ho (aY hv))<|wI 2 mq M8 rfl (fun M=>ad0 (gc:=g1) M lU fL (by omega) (by simp)) ?_
 intro v3 T3 x3 l4 u4 w9 ES zu P3 yC uq M9;obtain⟨a3,c3,rfl,-⟩:=id P3;have QC:=bp (dB J7) fL.2 ES;refine lb 0<|an ⟨rfl,rfl⟩ fun pT j3=>lb 1<|an rfl<|ei<|an (fun a w o ho hv=>dz ho (aY hv))<|wI 2 zu j3 rfl (fun M=>adZ (gc:=g1) M yC uq (by omega) (by simp)) ?_
 intro v4 T4 x4 l5 u5 yY V6 V2 P4 Nk uL M11;obtain⟨a4,c4,rfl,-⟩:=id P4;have hl5:=bp (dB J2) uq.2 V6;refine lb 0<|an ⟨rfl,rfl⟩ fun Dh y9=>lb 1<|an rfl<|ei<|an (fun a w o ho hv=>dz ho (aY hv))<|wI 2 V2 y9 rfl (fun M=>a227 (gc:=g1) M Nk uL (by omega) (by simp)) ?_
 intro v5 T5 x5 l6 u6 RW V5 V1 P5 Nj zx FD;obtain⟨a5,c5,rfl,-⟩:=id P5;have hl6:=bp (dB J_) uL.2 V5;refine lb 0<|an ⟨rfl,rfl⟩ fun RV H7=>Dl [0,1,2,4,5,6,8,10] (.step 3 (.step 7 (.step 9 (.step 11 .done)))) [(g1,117,#[.pointer (some ⟨R,0,none⟩)])] (by kernel_rfl) (fun b h=>by rw[akT.1 h];simp)<|lb 0<|an rfl<|lb 0<|an rfl<|ei<|an (fun a w o ho hv=>Ct ho (aY hv))<|lb 0<|an rfl<|lb 0<|an rfl<|ei<|an (fun a w o ho hv=>Ct ho (aY hv))<|fun RU aeL CQ=>wI 2 V1 CQ rfl (fun M=>TL M Nj zx (by omega)) ?_
 intro v6 T6 x6 l7 u7 Rx YK YJ P6 S6 RE CK;obtain⟨a6,c6,rfl,-⟩:=id P6;have hl7:=bp (dB eF) zx.2 YK;refine an (fun b h=>by rw[akT.1 h];simp)<|wI 2 YJ CK rfl (fun M=>TL M S6 RE (by omega)) ?_;intro v7 T7 x7 l8 u8 TV hp8 hr8 P7 YH XB Ft;obtain⟨a7,c7,rfl,-⟩:=id P7;have hl8:=bp (dB eF) RE.2 hp8;refine an (fun b h=>by rw[akT.1 h];simp)<|lb 0<|an ⟨rfl,rfl⟩ fun TU Ob=>an (fun b h=>by rw[akT.1 h];simp)<|lb 0<|an ⟨rfl,rfl⟩ fun Xg TR=>an (fun b h=>by rw[akT.1 h];simp)<|lb 1<|an rfl<|ei<|an (fun a w o ho hv=>dz ho (aY hv))<|wI 2 hr8 TR rfl (fun M=>a229 (gc:=g1) M YH XB (by omega) (by simp)) ?_
 intro v8 T8 x8 l9 u9 w20 hp9 hr9 P8 Xv Y8 TQ;obtain⟨a8,c8,_,_,rfl,-⟩:=id P8;have hl9:=bp (dB (uD 12)) XB.2 hp9;refine lb 0<|an ⟨rfl,rfl⟩ fun w21 TP=>lb 1<|an rfl<|ei<|an (fun a w o ho hv=>dz ho (aY hv))<|wI 2 hr9 TP rfl (fun M=>a232 (gc:=g1) M Xv Y8 (by omega) (by simp)) ?_
 intro v9 T9 x9 RA u10 w22 acD acy P9 Np QF XI;obtain⟨a9,c9,rfl,-⟩:=id P9;have CZ:=bp (dB J5) Y8.2 acD;refine lb 0<|an ⟨rfl,rfl⟩ fun w23 UM=>lb 1<|an rfl<|ei<|an (fun a w o ho hv=>dz ho (aY hv))<|wI 2 acy UM rfl (fun M=>adY (gc:=g1) M Np QF (by omega) (by simp)) ?_
 intro v10 T10 x10 Rz u11 w24 acC acw P10 Nn Nu M24;obtain⟨rF,c10,rfl,-⟩:=id P10;have agj:=bp (dB (J4 v)) QF.2 acC;refine lb 0<|an ⟨rfl,rfl⟩ fun w25 XH=>lb 1<|an rfl<|ei<|an (fun a w o ho hv=>dz ho (aY hv))<|wI 2 acw XH rfl (fun M=>adX (gc:=g1) M Nn Nu (by omega) (by simp)) ?_
 intro v11 T11 x11 Ry u12 w26 acB S7 Z_ Nl Ta Xd;obtain⟨rE,c11,rfl,-⟩:=id Z_;have agi:=bp (dB J6) Nu.2 acB;refine lb 0<|an ⟨rfl,rfl⟩ fun w27 TN=>lb 1<|an rfl<|lb 2<|an rfl<|an (fun h=>?_) fun h=>?_
 ·have hv2:2≤v:=by have:=of_decide_eq_true h;omega
  rw[if_pos hv2] at S7;refine lb 1<|an rfl<|ei<|an (fun a w o ho hv=>dz ho (aY hv))<|wI 2 S7 TN rfl (fun M=>adW (gc:=g1) M Nl Ta (by omega) (by simp)) ?_;intro v12 T12 x12 Ql u13 w28 V_ V4 P12 GX QE M28;obtain⟨a12,c12,rfl,-⟩:=id P12;have acL:=bp (dB J8) Ta.2 V_;refine lb 0<|an ⟨rfl,rfl⟩ fun w29 UL=>lb 1<|an rfl<|ei<|an (fun a w o ho hv=>dz ho (aY hv))<|wI 2 V4 UL rfl (fun M=>Z0 (gc:=g1) M GX QE (by omega) (by simp)) ?_
  intro KF Z5 x13 Qk u14 w30 V9 Nr W_ ER G1 M30;obtain⟨rD,c13,_,_,rfl,-⟩:=id W_;have acK:=bp (dB Fg) QE.2 V9;refine lb 0<|an ⟨rfl,rfl⟩ fun w31 UK=>lb 1<|an rfl<|ei<|an (fun a w o ho hv=>dz ho (aY hv))<|wI 2 Nr UK rfl (fun M=>ZY (gc:=g1) M ER G1 (by omega) (by simp)) ?_
  intro HY Z4 x14 Qj u15 w32 V8 Nq W9 GW JE Xc;obtain⟨rC,c14,rfl,-⟩:=id W9;have acJ:=bp (dB E9) G1.2 V8;refine lb 0<|an ⟨rfl,rfl⟩ fun w33 UJ=>lb 1<|an rfl<|lb 2<|an rfl<|an (fun h=>?_) fun h=>?_
  ·have RB:3≤v:=by have:=of_decide_eq_true h;omega
   simp only[if_pos RB] at Nq;refine lb 1<|an rfl<|ei<|an (fun a w o ho hv=>dz ho (aY hv))<|wI 2 Nq UJ rfl (fun M=>ZX (gc:=g1) M GW JE (by omega) (by simp)) ?_;intro KE T15 x15 Qi u16 w34 V7 V3 Z9 Ca S_ M34;obtain⟨rB,c15,rfl,-⟩:=id Z9;have acI:=bp (dB Fc) JE.2 V7;refine lb 0<|an ⟨rfl,rfl⟩ fun w35 M35=>lb 1<|an rfl<|ei<|an (fun a w o ho hv=>dz ho (aY hv))<|wI 2 V3 M35 rfl (fun M=>ZW (gc:=g1) M Ca S_ (by omega) (by simp)) ?_
   intro HV T16 x16 l17 u17 w36 acA acv Z8 acu ac0 M36;obtain⟨rA,c16,rfl,-⟩:=id Z8;have agh:=bp (dB Fh) S_.2 acA;exact lb 0<|an ⟨rfl,rfl⟩ fun w37 M37=>lb 0<|an rfl<|lb 0<|an ⟨rfl,rfl⟩ fun w M=>ei (x:=0)<|an rfl fun M=>eJ.fin acv (T:=T0++(T1++(T2++(T3++(T4++(T5++(T6++(T7++(T8++(T9++(T10++(T11++(T12++(Z5++(Z4++(T15++(T16))))))))))))))))) ⟨_,_,_,_,_,_,_,_,_,_,_,_,_,_,_,_,_,rfl,fun B w hT=>⟨iO P0 (fun hT h=>h.at hT) (fun h=>h.one) hT.left,iO P1 (fun hT h=>h.at hT) (fun h=>h.one) hT.right.left,bA P2 (fun _=>akW.1 rfl) hT.right.right.left,bA P3 (fun _=>akW.1 rfl) hT.right.right.right.left,bA P4 (fun _=>akW.1 rfl) hT.right.right.right.right.left,bA P5 (fun _=>akW.1 rfl) hT.right.right.right.right.right.left,bA P6 (fun _=>akW.1 rfl) hT.right.right.right.right.right.right.left,bA P7 (fun _=>akW.1 rfl) hT.right.right.right.right.right.right.right.left,iO P8 (fun hT h=>h.at_ hT) (fun h=>h.one) hT.right.right.right.right.right.right.right.right.left,bA P9 (fun _=>akW.1 rfl) hT.right.right.right.right.right.right.right.right.right.left,bA P10 (fun _=>akW.1 rfl) hT.right.right.right.right.right.right.right.right.right.right.left,bA Z_ (fun _=>akW.1 rfl) hT.right.right.right.right.right.right.right.right.right.right.right.left,bA P12 (fun _=>akW.1 rfl) hT.right.right.right.right.right.right.right.right.right.right.right.right.left,iO W_ (fun hT h=>h.at hT) (fun h=>h.one) hT.right.right.right.right.right.right.right.right.right.right.right.right.right.left,bA W9 (fun _=>akW.1 rfl) hT.right.right.right.right.right.right.right.right.right.right.right.right.right.right.left,bA Z9 (fun _=>akW.1 rfl) hT.right.right.right.right.right.right.right.right.right.right.right.right.right.right.right.left,bA Z8 (fun _=>akW.1 rfl) hT.right.right.right.right.right.right.right.right.right.right.right.right.right.right.right.right⟩⟩ acu ac0 ((M.only (.cons _ (.cons _ (.refl _))) (.refl _)).cast rfl (by simp only[List.append_assoc]))
  ·have RB:¬ 3≤v:=by have:=of_decide_eq_false h;omega
   simp only[if_neg RB,yd] at Nq;exact lb 0<|an rfl<|lb 0<|an ⟨rfl,rfl⟩ fun w M=>ei (x:=0)<|an rfl fun M=>eJ.fin Nq (T:=T0++(T1++(T2++(T3++(T4++(T5++(T6++(T7++(T8++(T9++(T10++(T11++(T12++(Z5++(Z4))))))))))))))) ⟨_,_,_,_,_,_,_,_,_,_,_,_,_,_,_,_,_,rfl,fun B w hT=>⟨iO P0 (fun hT h=>h.at hT) (fun h=>h.one) hT.left,iO P1 (fun hT h=>h.at hT) (fun h=>h.one) hT.right.left,bA P2 (fun _=>akW.1 rfl) hT.right.right.left,bA P3 (fun _=>akW.1 rfl) hT.right.right.right.left,bA P4 (fun _=>akW.1 rfl) hT.right.right.right.right.left,bA P5 (fun _=>akW.1 rfl) hT.right.right.right.right.right.left,bA P6 (fun _=>akW.1 rfl) hT.right.right.right.right.right.right.left,bA P7 (fun _=>akW.1 rfl) hT.right.right.right.right.right.right.right.left,iO P8 (fun hT h=>h.at_ hT) (fun h=>h.one) hT.right.right.right.right.right.right.right.right.left,bA P9 (fun _=>akW.1 rfl) hT.right.right.right.right.right.right.right.right.right.left,bA P10 (fun _=>akW.1 rfl) hT.right.right.right.right.right.right.right.right.right.right.left,bA Z_ (fun _=>akW.1 rfl) hT.right.right.right.right.right.right.right.right.right.right.right.left,bA P12 (fun _=>akW.1 rfl) hT.right.right.right.right.right.right.right.right.right.right.right.right.left,iO W_ (fun hT h=>h.at hT) (fun h=>h.one) hT.right.right.right.right.right.right.right.right.right.right.right.right.right.left,bA W9 (fun _=>akW.1 rfl) hT.right.right.right.right.right.right.right.right.right.right.right.right.right.right,SliceAt.nil _ _,SliceAt.nil _ _⟩⟩ GW JE ((M.only (.cons _ (.cons _ (.refl _))) (.refl _)).cast rfl (by simp only[List.append_assoc]))
 ·have hv2:¬ 2≤v:=by have:=of_decide_eq_false h;omega
  rw[if_neg hv2,yd] at S7;refine lb 1<|an rfl<|ei<|an (fun a w o ho hv=>dz ho (aY hv))<|wI 2 S7 TN rfl (fun M=>Z0 (gc:=g1) M Nl Ta (by omega) (by simp)) ?_;intro KF Z5 x13 Ql u13 w28 V_ V4 W_ GX QE M28;obtain⟨rD,c13,_,_,rfl,-⟩:=id W_;have acL:=bp (dB Fg) Ta.2 V_;refine lb 0<|an ⟨rfl,rfl⟩ fun w29 UL=>lb 1<|an rfl<|ei<|an (fun a w o ho hv=>dz ho (aY hv))<|wI 2 V4 UL rfl (fun M=>ZY (gc:=g1) M GX QE (by omega) (by simp)) ?_
  intro HY Z4 x14 Qk u14 w30 V9 Nr W9 ER G1 M30;obtain⟨rC,c14,rfl,-⟩:=id W9;have acK:=bp (dB E9) QE.2 V9;refine lb 0<|an ⟨rfl,rfl⟩ fun w31 UK=>lb 1<|an rfl<|lb 2<|an rfl<|an (fun h=>?_) fun h=>?_
  ·have RB:3≤v:=by have:=of_decide_eq_true h;omega
   simp only[if_pos RB] at Nr;refine lb 1<|an rfl<|ei<|an (fun a w o ho hv=>dz ho (aY hv))<|wI 2 Nr UK rfl (fun M=>ZX (gc:=g1) M ER G1 (by omega) (by simp)) ?_;intro KE T15 x15 Qj u15 w32 V8 Nq Z9 GW JE Xc;obtain⟨rB,c15,rfl,-⟩:=id Z9;have acJ:=bp (dB Fc) G1.2 V8;refine lb 0<|an ⟨rfl,rfl⟩ fun w33 UJ=>lb 1<|an rfl<|ei<|an (fun a w o ho hv=>dz ho (aY hv))<|wI 2 Nq UJ rfl (fun M=>ZW (gc:=g1) M GW JE (by omega) (by simp)) ?_
   intro HV T16 x16 Qi u16 w34 V7 V3 Z8 Ca S_ M34;obtain⟨rA,c16,rfl,-⟩:=id Z8;have acI:=bp (dB Fh) JE.2 V7;exact lb 0<|an ⟨rfl,rfl⟩ fun w35 M35=>lb 0<|an rfl<|lb 0<|an ⟨rfl,rfl⟩ fun w M=>ei (x:=0)<|an rfl fun M=>eJ.fin V3 (T:=T0++(T1++(T2++(T3++(T4++(T5++(T6++(T7++(T8++(T9++(T10++(T11++(Z5++(Z4++(T15++(T16)))))))))))))))) ⟨_,_,_,_,_,_,_,_,_,_,_,_,_,_,_,_,_,rfl,fun B w hT=>⟨iO P0 (fun hT h=>h.at hT) (fun h=>h.one) hT.left,iO P1 (fun hT h=>h.at hT) (fun h=>h.one) hT.right.left,bA P2 (fun _=>akW.1 rfl) hT.right.right.left,bA P3 (fun _=>akW.1 rfl) hT.right.right.right.left,bA P4 (fun _=>akW.1 rfl) hT.right.right.right.right.left,bA P5 (fun _=>akW.1 rfl) hT.right.right.right.right.right.left,bA P6 (fun _=>akW.1 rfl) hT.right.right.right.right.right.right.left,bA P7 (fun _=>akW.1 rfl) hT.right.right.right.right.right.right.right.left,iO P8 (fun hT h=>h.at_ hT) (fun h=>h.one) hT.right.right.right.right.right.right.right.right.left,bA P9 (fun _=>akW.1 rfl) hT.right.right.right.right.right.right.right.right.right.left,bA P10 (fun _=>akW.1 rfl) hT.right.right.right.right.right.right.right.right.right.right.left,bA Z_ (fun _=>akW.1 rfl) hT.right.right.right.right.right.right.right.right.right.right.right.left,SliceAt.nil _ _,iO W_ (fun hT h=>h.at hT) (fun h=>h.one) hT.right.right.right.right.right.right.right.right.right.right.right.right.left,bA W9 (fun _=>akW.1 rfl) hT.right.right.right.right.right.right.right.right.right.right.right.right.right.left,bA Z9 (fun _=>akW.1 rfl) hT.right.right.right.right.right.right.right.right.right.right.right.right.right.right.left,bA Z8 (fun _=>akW.1 rfl) hT.right.right.right.right.right.right.right.right.right.right.right.right.right.right.right⟩⟩ Ca S_ ((M.only (.cons _ (.cons _ (.refl _))) (.refl _)).cast rfl (by simp only[List.append_assoc]))
  ·have RB:¬ 3≤v:=by have:=of_decide_eq_false h;omega
   simp only[if_neg RB,yd] at Nr;exact lb 0<|an rfl<|lb 0<|an ⟨rfl,rfl⟩ fun w M=>ei (x:=0)<|an rfl fun M=>eJ.fin Nr (T:=T0++(T1++(T2++(T3++(T4++(T5++(T6++(T7++(T8++(T9++(T10++(T11++(Z5++(Z4)))))))))))))) ⟨_,_,_,_,_,_,_,_,_,_,_,_,_,_,_,_,_,rfl,fun B w hT=>⟨iO P0 (fun hT h=>h.at hT) (fun h=>h.one) hT.left,iO P1 (fun hT h=>h.at hT) (fun h=>h.one) hT.right.left,bA P2 (fun _=>akW.1 rfl) hT.right.right.left,bA P3 (fun _=>akW.1 rfl) hT.right.right.right.left,bA P4 (fun _=>akW.1 rfl) hT.right.right.right.right.left,bA P5 (fun _=>akW.1 rfl) hT.right.right.right.right.right.left,bA P6 (fun _=>akW.1 rfl) hT.right.right.right.right.right.right.left,bA P7 (fun _=>akW.1 rfl) hT.right.right.right.right.right.right.right.left,iO P8 (fun hT h=>h.at_ hT) (fun h=>h.one) hT.right.right.right.right.right.right.right.right.left,bA P9 (fun _=>akW.1 rfl) hT.right.right.right.right.right.right.right.right.right.left,bA P10 (fun _=>akW.1 rfl) hT.right.right.right.right.right.right.right.right.right.right.left,bA Z_ (fun _=>akW.1 rfl) hT.right.right.right.right.right.right.right.right.right.right.right.left,SliceAt.nil _ _,iO W_ (fun hT h=>h.at hT) (fun h=>h.one) hT.right.right.right.right.right.right.right.right.right.right.right.right.left,bA W9 (fun _=>akW.1 rfl) hT.right.right.right.right.right.right.right.right.right.right.right.right.right,SliceAt.nil _ _,SliceAt.nil _ _⟩⟩ ER G1 ((M.only (.cons _ (.cons _ (.refl _))) (.refl _)).cast rfl (by simp only[List.append_assoc]))
end
theorem OJ{s:Int}(h0:0≤s)(h1:s<4294967296){i:Nat}(hi:i<4):∃ m:Nat,(cM s)[i]?=some m∧IntKind.u8.wrap (s/2^(8*(i:Int)).toNat)=(m:Int):=by
 obtain⟨m,h2,h3⟩:=FU s h0 h1 i hi;refine⟨m,h2,?_⟩;rw[h3];have hw:∀ n:Int,IntKind.u8.wrap n=n%256:=fun n=>by simp[IntKind.wrap,IntKind.bits,IntKind.signed]
 rw[hw]
 match i,hi with
 | 0,_=>rfl
 | 1,_=>rfl
 | 2,_=>rfl
 | 3,_=>rfl
theorem fb{B:Nat}{w0 w:World}{bs:List Bx}{rs:List Rw}{op:Op}{ty:TypeId}{xs:List Operand}{vs:List Value}{v:Value}{K:Value→List Bx→List Rw→World→Prop}(M:aQ B w0 w bs rs)
 (he:∀ (a:Act) (o':Oper),o'.op=op→o'.type=ty→wj a xs vs→(execOp a.eval o').run Tryz.prog w=.ok (.value v) w) (h:K v bs rs w) :
 ∃ R:Value→World→Prop,(∀ (a:Act) (o':Oper),o'.op=op→o'.type=ty→wj a xs vs→∃ v w',(execOp a.eval o').run Tryz.prog w=.ok (.value v) w'∧R v w')∧∀ v w',R v w'→∃ bs' rs',aQ B w0 w' bs' rs'∧K v bs' rs' w':=
 ⟨fun u w2=>u=v∧w2=w,fun a o' h1 h2 h3=>⟨_,_,he a o' h1 h2 h3,rfl,rfl⟩,by rintro _ _ ⟨rfl,rfl⟩;exact⟨_,_,M,h⟩⟩
theorem Vf{w0:World}{v:Value}{l:List Nat}(h:aq w0 v l)(hL:l.length≤aT):Calls Tryz.prog 148 #[v] w0 (fun r w'=>∃ u,r=.returned (.tuple #[u,.int .i64 (gZ l).2])∧((gZ l).2=0→aq w' u (gZ l).1)∧((gZ l).2≠0→u=.slice none 0 0)∧akX w0.heap.size w0 w'):=by
 obtain⟨a,c,rfl,hc0,Cc,ha⟩:=jU h;refine bM [] (fn:=Tryz.f148) Tryz.func148 rfl Tryz.ntmps148 rfl<|an (fun h1=>?_) fun h1=>?_
 ·have h1:(l.length:Int)<4:=of_decide_eq_true h1;have e:gZ l=([],5):=by unfold gZ;rw[if_pos (by omega)]
  exact fun M=>⟨.slice none 0 0,by rw[e];rfl,by rw[e];exact fun h=>absurd h (by decide),fun _=>rfl,M.below⟩
 have h1:¬ (l.length:Int)<4:=of_decide_eq_false h1;obtain⟨k,hk⟩:∃ k,l.length=k+4:=⟨l.length-4,by omega⟩;obtain⟨y0,g,off,rfl,-⟩:=ha 0 (by omega);have NY:(l.length:Int)-4=(k:Int):=by omega
 have hfr:=rR h (show k≤l.length by omega);have htl:(l.take k).length=k:=by rw[List.length_take];omega
 obtain⟨s0,s1⟩:=zf (l.take k)
 have hop:gZ l=if l.drop k=cM (gW (l.take k)) then (l.take k,0) else ([],7):=by
  unfold gZ;rw[if_neg (by omega),show l.length-4=k by omega]
 refine an (by omega)<|fb (v:=.slice (some ⟨g,off,none⟩) k c) (Mm.start w0) (fun a o ho _ hv=>uw ho (aY hv) ((cC hv).trans (by rw[NY])) (by omega) KG X4)<|cl<|an (KJ hfr) fun w1 M1=>?_
 refine lr (ι:=Nat) (fun i=>[(17,.int .i64 (i:Int))]) (fun i _=>i≤4∧∀ j,j<i→l[k+j]?=(cM (gW (l.take k)))[j]?) (fun i=>4-i) 0 (an ⟨⟨rfl,trivial⟩,fun M=>⟨M,akY _,fun j hj=>absurd hj (Nat.not_lt_zero _)⟩⟩ ?_);rintro i w2 M2 ⟨hi,hinv⟩;refine an (fun h2=>?_) fun h2=>?_
 ·have hlt:i<4:=by have:(i:Int)<4:=of_decide_eq_true h2
                   omega
  obtain⟨y,b,off',e1,hy,VZ,hcell⟩:=ha (k+i) (by omega);cases e1;obtain⟨m,hm1,hm2⟩:=OJ s0 s1 hlt;refine dr (by kernel_rfl)<|an (by omega)<|ia<|an ⟨rfl,(by omega:(l.length:Int)-4+(i:Int)=((k+i:Nat):Int)),by omega⟩<|lc (x:=.int .u8 (y:Int))<|an (cell_later M2.below (by simpa using hcell))<|an (by omega)<|ei (x:=.int .u32 (gW (l.take k)/2^(8*(i:Int)).toNat))<|an (fun a w o ho hv=>sZ ho (aY hv) (cC hv) (by omega) (by have:(IntKind.u32.bits:Int)=32:=rfl;omega))<|ei (x:=.int .u8 (m:Int))<|an (fun a w o ho hv=>(eI ho (aY hv) Ib u5).trans (by rw[hm2]))<|fun w3 fL M3=>an (fun h3=>?_) fun h3=>?_
  ·have e:gZ l=([],7):=by
    rw[hop,if_neg];intro he;have h4:(l.drop k)[i]?=(cM (gW (l.take k)))[i]?:=by rw[he]
    rw[List.getElem?_drop,hy,hm1] at h4;have h5:y=m:=akZ h4;subst h5;simp at h3
   exact fun M=>⟨.slice none 0 0,by rw[e];rfl,by rw[e];exact fun h=>absurd h (by decide),fun _=>rfl,M.below⟩
  ·have h5:y=m:=by simp at h3;omega
   subst h5
   exact an (by omega)<|bk (i+1) ⟨rfl,trivial⟩ (fun M=>⟨M,hlt,fun j hj=>by
    rcases Nat.lt_succ_iff_lt_or_eq.1 hj with h6|rfl
    ·exact hinv j h6
    ·rw[hy,hm1]⟩) (by dsimp only;omega)
 ·obtain rfl:i=4:=by have:¬ (i:Int)<4:=of_decide_eq_false h2
                     omega
  have e:gZ l=(l.take k,0):=by
   rw[hop,if_pos];refine List.ext_getElem? fun j=>?_
   rw[List.getElem?_drop];by_cases hj:j<4
   ·exact hinv j hj
   ·rw[List.getElem?_eq_none (by omega),List.getElem?_eq_none (by simp[cM];omega)]
  have hb2:=hfr.keep M2.below;refine fun g1 w3 M3=>fb (v:=.slice (some ⟨g,off,none⟩) k c) M3 (fun a o ho _ hv=>uw ho (aY hv) ((cC hv).trans (by rw[NY])) (by omega) KG X4)<|ap 0 (fun M=>M.su 1 0 (by simp[maxLen]) rfl) rfl (news:=byteCells (l.take k)) (mm:=k) (by have:=(hfr.keep M3.below).1;rw[htl] at this;exact this) ⟨by unfold maxLen;unfold aT at hL;omega,by unfold aT at hL;omega⟩ fun v3 w4 M4=>fun M=>?_
  refine⟨v3,by rw[e];rfl,fun _=>?_,fun h=>absurd (by rw[e]) h,M.below⟩;rw[e];have ho:=M4.r 0 rfl;exact dV (by rw[htl];simpa using ho) hfr.2
section
variable (KP:PK) (N:Nat) (J C:List Nat)
def L8:Code→Nat→World→Slots→List Bx→List Rw→World→(Nat→World→KK)→Prop
 | .seq x y,B,w0,l,bs,rs,w,K=>bif jn (fid y) J then Bn KP B w0 N J (.seq x y) l bs rs w (K B w0) else L8 x B w0 l bs rs w fun B' Ia e l' bs' rs' w'=>match e with
  | .normal=>bif jn (fid y) C then L8 y w'.heap.size w' l' [] [] w' K else L8 y B' Ia l' bs' rs' w' K
  | e=>K B' Ia e l' bs' rs' w'
 | c,B,w0,l,bs,rs,w,K=>Bn KP B w0 N J c l bs rs w (K B w0)
end
theorem RY{KP:PK}{N:Nat}{J C:List Nat}:∀ {c:Code} {B:Nat} {w0:World} {l:Slots} {bs:List Bx} {rs:List Rw} {w:World} {K:Nat→World→KK} {Q:Exit→Act→World→Prop} {a:Act},L8 KP N J C c B w0 l bs rs w K→Fs a N l→aQ B w0 w bs rs →
 (∀ Pn,KP=some Pn→∀ a' ch w',Fr a' N→Pn ch w'→Q (.panic ch) a' w') →
 (∀ B' Ia e a l bs rs w,(∀ w bs rs,aQ B' Ia w bs rs→aQ B w0 w bs rs)→Fs a N l→aQ B' Ia w bs rs→K B' Ia e l bs rs w→Q e a w)→c.wp Tryz.prog Q a w:=by
 intro c
 induction c with
 | seq x y EO ihy=>
  intro B w0 l bs rs w K Q a h F M hP hQ;unfold L8 at h
  cases hj:jn (fid y) J with
  | true=>rw[hj] at h;exact jl h F M hP fun e a l bs rs w F M hk=>hQ B w0 e a l bs rs w (fun _ _ _ h=>h) F M hk
  | false=>
   rw[hj] at h;refine wp_seq (EO h F M (fun Pn Zd a' ch w' hf hp=>hP Pn Zd a' ch w' hf hp) fun B' Ia e a l' bs' rs' w' cv F' M' hk=>?_)
   cases e with
   | normal=>
    cases hc:jn (fid y) C with
    | false=>
     simp only[hc,cond_false] at hk;exact ihy hk F' M' hP fun B2 w2 e a l bs rs w WT F M hk=>hQ B2 w2 e a l bs rs w (fun w bs rs h=>cv w bs rs (WT w bs rs h)) F M hk
    | true=>
     simp only[hc,cond_true] at hk;exact ihy hk F' (Mm.start w') hP fun B2 w2 e a l bs rs w WT F M hk=>hQ B2 w2 e a l bs rs w (fun w bs rs h=>cv w bs rs (M'.Ri (WT w bs rs h))) F M hk
   | _=>exact hQ _ _ _ _ _ _ _ _ cv F' M' hk
 | _=>intro B w0 l bs rs w K Q a h F M hP hQ;exact jl h F M hP fun e a l bs rs w F M hk=>hQ B w0 e a l bs rs w (fun _ _ _ h=>h) F M hk
theorem XW{f:FuncId}{fn:Func}{c:Code}{N:Nat}(J C:List Nat){vs:List Value}{R:Ending→World→Prop}{w0:World}(hf:Tryz.prog.funcs[f]?=some fn)(hb:fn.body=some c)(hn:fn.ntmps=N)(hN:Nat.ble vs.length N=true)
 (h:L8 (some fun ch w=>R (.panicked ch) w) N J C c w0.heap.size w0 (HZ 0 vs) [] [] w0 fun _ _=>F9 fn w0.heap.size w0 R):Calls Tryz.prog f vs.toArray w0 R:=by
 refine en hf hb hn (by simpa using hN) rfl fun a F=>RY h F (Mm.start w0) (fun Pn hP a' ch w' hf h=>?_) fun B w1 e a l bs rs w cv F M hk=>?_
 ·obtain rfl:=akZ hP;exact⟨hf.defers,h⟩
 have M:=cv _ _ _ M
 cases e with
 | normal=>exact tK (iM F M hk)
 | ret=>exact iM F M hk
 | _=>exact hk.elim
theorem crw{α:Type}{w0 w:World}{L:List Bx}{rs:List Rw}{X:Prop}{Pn:List PanicEntry→World→Prop}{K:Value→List Bx→List Rw→World→Prop}{R:Nat}{ver:Int}{P:List Rw→Value→α→Prop}{u:Value}{l:List Nat}{f:FuncId}{args:Array Value}{p:Ps α}(i:Nat)(M:aQ w0.heap.size w0 w L rs)(hi:L[i]?=some (cQ R u ver))
 (hc:aQ w0.heap.size w0 w (cQ R u ver::L.eraseIdx i) rs→Calls Tryz.prog f args w (eJ w0 R ver (L.eraseIdx i) rs P (p l)))
 (hE:∀ k w',p l=.error k→akX w0.heap.size w0 w'→Pn (Gh k) w')
 (h:∀ v T x l' u' w',p l=.ok (x,l')→P T v x→jP u' l'→aq w0 u' l'→wk L i (cQ R u' ver) fun L'=>aQ w0.heap.size w0 w' L' (rs++T)→K v L' (rs++T) w') :
 X∨∃ R:Value→World→Prop,Calls Tryz.prog f args w (u_ (some Pn) R)∧∀ v w',R v w'→∃ bs' rs',aQ w0.heap.size w0 w' bs' rs'∧K v bs' rs' w':=by
 have hc':=hc (M.wE (qM hi))
 cases hp:p l with
 | error k=>
  rw[hp] at hc';exact .inr ⟨fun _ _=>False,hc'.mono fun e w' ⟨h1,h2⟩=>.inr ⟨_,h1,hE k w' hp h2⟩,fun _ _ h=>h.elim⟩
 | ok y=>
  obtain⟨x,l'⟩:=y;rw[hp] at hc';refine .inr ⟨fun v w'=>∃ T,P T v x∧UG w0 w' R ver (L.eraseIdx i) (rs++T) l',hc'.mono fun e w' ⟨v,T,h1,h2,h3⟩=>.inl ⟨v,h1,T,h2,h3⟩,?_⟩;rintro v w' ⟨T,h2,u',hs,hb,M'⟩;have M2:=M'.wE (xZ hi);exact⟨_,_,M2,qm (h v T x l' u' w' hp h2 hs hb) M2⟩
theorem Wz{w:World}{g off c:Nat}{f:List Nat}(h:aq w (.slice (some ⟨g,off,none⟩) f.length c) f)(hf:4≤f.length)(hc:f.length≤c):∃ off',(if c=4 then some (⟨g,off,none⟩:Addr) else some ⟨g,off+4*1,none⟩)=some ⟨g,off',none⟩∧aq w (.slice (some ⟨g,off',none⟩) (f.length-4) (c-4)) (f.drop 4):=by
 by_cases h4:c=4
 ·refine⟨off,by rw[if_pos h4],?_⟩;have hf4:f.length=4:=by omega
  have h0:=aq.part h (i:=0) (j:=0) (c':=0) (Nat.le_refl _) (akY _) (Nat.le_refl _);have ea:(⟨g,off,none⟩:Addr).add 0=⟨g,off,none⟩:=by unfold Addr.add;rfl
  rw[ea] at h0;rw[show f.drop 4=[] from List.drop_eq_nil_of_le (by omega),hf4,h4];exact h0
 ·refine⟨off+4,by rw[if_neg h4],?_⟩;have h0:=aq.part h (i:=4) (j:=f.length) (c':=c-4) hf (Nat.le_refl _) (by omega);have ea:(⟨g,off,none⟩:Addr).add 4=⟨g,off+4,none⟩:=by unfold Addr.add;split<;>simp_all
  rw[ea,List.take_length] at h0;exact h0
theorem adV{x:List Nat}(hb:Bytes x):(strOf x=⟨#[65,67,80,66]⟩)↔x=[65,67,80,66]:=by
 constructor
 ·intro h;have h2:=congrArg cN h;rw[uU hb] at h2;exact h2
 ·rintro rfl;rfl
theorem R5(x y:ByteArray):(x.toList == y.toList)=decide (x=y):=by
 rw[ak0];simp only[beq_iff_eq,decide_eq_true_eq];exact⟨fun h=>by rw[ByteArray.toList_eq,ByteArray.toList_eq] at h;exact ByteArray.ext (Array.toList_inj.1 h),fun h=>by rw[h]⟩
theorem cnb{B:Nat}{w0 w:World}{bs:List Bx}{rs:List Rw}{X:Prop}{KP:PK}{K:Value→List Bx→List Rw→World→Prop}(M:aQ B w0 w bs rs)(h:∀ w',akX w.heap.size w w'→aQ B w0 w' bs rs→K (.tuple #[]) bs rs w'):X∨∃ R:Value→World→Prop,Calls Tryz.prog 135 #[.int .i64 0] w (u_ KP R)∧∀ v w',R v w'→∃ bs' rs',aQ B w0 w' bs' rs'∧K v bs' rs' w':=
 cpo PE fun w' hb=>⟨_,_,M.keep hb,h w' hb (M.keep hb)⟩
theorem ckb{B:Nat}{w0 w:World}{bs:List Bx}{rs:List Rw}{X:Prop}{KP:PK}{K:Value→List Bx→List Rw→World→Prop}{b:Bool}{k:Int}(hb:b=true)(M:aQ B w0 w bs rs)(h:∀ w',akX w.heap.size w w'→aQ B w0 w' bs rs→K (.tuple #[]) bs rs w'):X∨∃ R:Value→World→Prop,Calls Tryz.prog 134 #[.bool b,.int .i64 k] w (u_ KP R)∧∀ v w',R v w'→∃ bs' rs',aQ B w0 w' bs' rs'∧K v bs' rs' w':=by
 subst hb;exact cpo LU fun w' hb=>⟨_,_,M.keep hb,h w' hb (M.keep hb)⟩
def Kt(w0:World)(l:List Nat)(e:Ending)(w':World):Prop:=match cS l with
 | .ok (n,r)=>∃ R wb,e=.returned (.pointer (some ⟨R,0,none⟩))∧n≤3∧akX w0.heap.size w0 wb∧w0.heap.size≤wb.heap.size∧UG wb w' R (n:Int) [] [] r
 | .error k=>e=.panicked (Gh k)∧akX w0.heap.size w0 w'
theorem Kt.err{w0 w':World}{l:List Nat}{k:Int}(h:cS l=.error k)(hb:akX w0.heap.size w0 w'):Kt w0 l (.panicked (Gh k)) w':=by unfold Kt;rw[h];exact⟨rfl,hb⟩
theorem Pv{w0:World}{v:Value}{l:List Nat}(h:aq w0 v l)(hL:l.length≤aT):Calls Tryz.prog 49 #[v] w0 (Kt w0 l):=by
 refine XW [] [5] (fn:=Tryz.f49) Tryz.func49 rfl Tryz.ntmps49 rfl<|Uy (R:=fun x w'=>∃ u,x=.tuple #[u,.int .i64 (gZ l).2]∧((gZ l).2=0→aq w' u (gZ l).1)∧akX w0.heap.size w0 w') ((Vf h hL).mono fun _ _ ⟨u,h1,h2,_,h4⟩=>⟨_,h1,u,rfl,h2,h4⟩) ?_;rintro _ w1 ⟨u,rfl,hby,hb1⟩;have M1:=(Mm.start w0).keep hb1;refine⟨_,_,M1,?_⟩;by_cases he:(gZ l).2=0
 rotate_left
 ·exact XE he fun w' hb=>Kt.err (by unfold cS;rw[if_neg he]) (M1.keep hb).below
 have hfm:cS l=zW (gZ l).1:=by unfold cS;rw[if_pos he]
 have hby:=hby he;rw[he];obtain⟨f,hf⟩:∃ f,f=(gZ l).1:=⟨_,rfl⟩;rw[← hf] at hby hfm
 obtain⟨a,c,rfl,hc0,Cc,ha⟩:=jU hby;refine cnb M1 fun w2 hb2 M2=>?_
 by_cases h4:4≤f.length
 rotate_left
 ·exact RJ (decide_eq_false (by omega)) fun w' hb=>Kt.err (by rw[hfm];unfold zW;rw[if_pos (by omega)]) (M2.keep hb).below
 obtain⟨y0,g,off,rfl,-⟩:=ha 0 (by omega);have JD:=hby.keep hb2;have hft:=rR JD h4;have h4c:4≤c:=by omega
 refine ckb (decide_eq_true (by omega)) M2 fun w3 fL M3=>?_
 have acV:=JD.keep fL;refine fb (v:=.slice (some ⟨g,off,none⟩) 4 c) M3 (fun a o ho _ hv=>uw (h:=4) ho (aY hv) (cC hv) h4c KG X4)<|zD M3 (hft.keep fL)<|ei (x:=.bool (decide (f.take 4=[65,67,80,66])))<|an (fun a w o ho hv=>(Q7 ho (aY hv) (cC hv)).trans (by rw[R5];simp only[adV hft.2])) ?_;by_cases hm:f.take 4=[65,67,80,66]
 rotate_left
 ·exact RJ (decide_eq_false hm) fun w' hb=>Kt.err (by rw[hfm];unfold zW;rw[if_neg (by omega),if_neg hm]) (M3.keep hb).below
 have Y3:cS l=(pb sL fun n=>if 1≤n∧n≤3 then pp n else pe 8) (f.drop 4):=by
  rw[hfm];unfold zW;rw[if_neg (by omega),if_pos hm]
 refine ckb (decide_eq_true hm) M3 fun w4 uq M4=>?_
 have acU:=acV.keep uq;obtain⟨off',e1,acT⟩:=Wz acU h4 hc0;refine fb (v:=.slice (some ⟨g,off',none⟩) (f.length-4) (c-4)) (Mm.start w4) (fun a o ho _ hv=>(zC (l:=4) ho (aY hv) (cC hv) h4 KG X4).trans (by rw[← e1]))<|ei (x:=.agg #[.slice (some ⟨g,off',none⟩) (f.length-4) (c-4),.int .i64 0])<|an (bd (by kernel_rfl))<|fun R w5 M5=>?_
 have Nk:jP (.slice (some ⟨g,off',none⟩) (f.length-4) (c-4)) (f.drop 4):=⟨g,off',c-4,by rw[List.length_drop],by rw[List.length_drop];omega⟩;refine crw 0 M5 rfl (fun M=>IC M Nk acT) (fun k w' hk hb=>Kt.err (by rw[Y3];unfold pb;rw[hk]) (M4.keep hb).below) ?_;rintro _ _ n r u6 w6 hp ⟨rfl,rfl⟩ Nj zx M6;have Y2:cS l=(if 1≤n∧n≤3 then pp n else pe 8) r:=by rw[Y3];unfold pb;rw[hp]
 by_cases hn:1≤n∧n≤3
 rotate_left
 ·exact RJ (by simp;omega) fun w' hb=>Kt.err (by rw[Y2,if_neg hn];rfl) (M4.keep (M6.keep hb).below).below
 refine ckb (by simp;omega) M6 fun w7 RE M7=>ei (x:=.int .i64 (n:Int))<|an (fun a w o ho hv=>(eI ho (aY hv) zL u3).trans (by rw[Dc _ (by omega)]))<|lb 0<|an ⟨rfl,rfl⟩ fun w8 M8=>fun M=>?_
 show Kt w0 l (.returned _) w8;unfold Kt;rw[Y2,if_pos hn];exact⟨R,w4,rfl,hn.2,M4.below,M4.big,u6,Nj,zx,by rw[List.append_nil] at M8;exact M8⟩
theorem Fs.nil{a:Act}{N:Nat}(hf:Fr a N):Fs a N []:=⟨hf,fun _ _ h=>by cases h⟩
section
variable {P:Program} {a:Act} {w:World} {o:Oper} {ty yt:TypeId} {x y:Operand} {ms:Array (String×TypeId)}
theorem adt{t:TypeId}{v:Value}(hu:P.underlying ty=some (.interface ms)):(Op.equal ty (.iface t v) .nilIface).run P w=.ok false w:=by
 show(Op.equalIn (9999+1) ty (.iface t v) .nilIface).run P w=.ok false w;generalize 9999=d;simp only[Op.equalIn,ak1,run_underlying hu w,Result.andThen_ok,Sem.run_pure]
theorem adu(hu:P.underlying ty=some (.interface ms)):(Op.equal ty .nilIface .nilIface).run P w=.ok true w:=by
 show(Op.equalIn (9999+1) ty .nilIface .nilIface).run P w=.ok true w;generalize 9999=d;simp only[Op.equalIn,ak1,run_underlying hu w,Result.andThen_ok,Sem.run_pure]
theorem WJ{t:TypeId}{v:Value}(ho:o.op=.binOp .eql ty x y yt)(hx:a.eval x=.iface t v)(hy:a.eval y=.nilIface)(hu:P.underlying ty=some (.interface ms)):(execOp a.eval o).run P w=.ok (.value (.bool false)) w:=by
 unfold execOp;simp[ho,hx,hy,eqGuard,binOp,adt hu,ak1,Sem.run_pure,Result.andThen]
theorem WK{k:Value}(ho:o.op=.binOp .eql ty x (.const k) yt)(hx:a.eval x=.nilIface)(hy:a.eval (.const k)=.nilIface)(hu:P.underlying ty=some (.interface ms)):(execOp a.eval o).run P w=.ok (.value (.bool true)) w:=by
 unfold execOp;simp[ho,hx,hy,eqGuard,binOp,adu hu,ak1,Sem.run_pure,Result.andThen]
theorem adw{t xt:TypeId}{v:Value}{d:TypeDesc}(ho:o.op=.typeAssert x xt t true)(hx:a.eval x=.iface t v)(hu:P.underlying t=some d)(hd:(match d with|.interface _=>false|_=>true)=true):(execOp a.eval o).run P w=.ok (.value (.tuple #[v,.bool true])) w:=by
 unfold execOp;cases d<;>first|(cases hd;done)|simp[ho,hx,Instr.typeAssert,run_underlying hu w,ak1,Sem.run_pure,Result.andThen]
end
theorem Kg{B:Nat}{w0 w:World}{bs:List Bx}{rs:List Rw}{g:Nat}{k x0:Int}(hB:w0.heap.size≤B)(M:aQ B w0 w ((g,43,#[.int .i64 x0])::bs) rs):
 CallsD Tryz.prog 48 #[.pointer (some ⟨g,0,none⟩)] (.panicking (Gh k)) w fun e u' w'=>e=.returned (.tuple #[])∧u'=.panicking [{ v:=.iface 43 (.int .i64 k),recovered:=true }]∧aQ B w0 w' ((g,43,#[.int .i64 k])::bs) rs:=by
 refine callsD_of_wpS Tryz.func48 rfl fun c₀ cs hu=>?_
 apply wpS_seq;apply wpS_region;simp[wpOpsS,go_sem,recoverD,hu,Gh,Tryz.ntmps48,Exit.thenS];refine wpS_of_wp ?_;generalize hact:(Act.mk _ _:Act)=act
 have F:Fs act 14 [(5,.iface 43 (.int .i64 k)),(0,.pointer (some ⟨g,0,none⟩))]:=by
  refine((Fs.nil ⟨?_,?_⟩).add (q:=0) ?_).add (q:=5) ?_
  ·rw[← hact];rfl
  ·rw[← hact];simp
  ·rw[← hact];simp[At]
  ·rw[← hact];simp[At]
 refine jl (KP:=none) (J:=[]) (K:=fun e l bs' rs' w'=>e=.normal∧bs'=(g,43,#[.int .i64 k])::bs∧rs'=rs) ?_ F M (fun _ h=>by cases h) fun e a l bs' rs' w' F' M' ⟨h1,h2,h3⟩=>?_
 ·exact ei (x:=.bool false)<|an (fun a w o ho hv=>WJ ho (aY hv) (cC hv) u20)<|an (fun h=>absurd h (by decide)) fun _=>fb M (v:=.tuple #[.int .i64 k,.bool true]) (fun a o ho _ hv=>adw ho (aY hv) X2 rfl)<|an (fun _=>lb 0<|an ⟨rfl,rfl⟩ fun w1 M1=>⟨rfl,rfl,rfl⟩) fun h=>absurd h (by decide)
 ·subst h1 h2 h3;simp[bodyPostS,results,F'.fr.defers];exact⟨rfl,M'⟩
theorem Kf{B:Nat}{w0 w:World}{bs:List Bx}{rs:List Rw}{v:Value}(M:aQ B w0 w bs rs):
 CallsD Tryz.prog 48 #[v] .returning w fun e u' w'=>e=.returned (.tuple #[])∧u'=.returning∧aQ B w0 w' bs rs:=by
 refine callsD_of_wpS Tryz.func48 rfl fun c₀ cs hu=>?_
 apply wpS_seq;apply wpS_region;simp[wpOpsS,go_sem,recoverD,hu,Tryz.ntmps48,Exit.thenS];refine wpS_of_wp ?_;generalize hact:(Act.mk _ _:Act)=act
 have F:Fs act 14 [(5,.nilIface)]:=by
  refine(Fs.nil ⟨?_,?_⟩).add (q:=5) ?_
  ·rw[← hact];rfl
  ·rw[← hact];simp
  ·rw[← hact];simp[At]
 refine jl (KP:=none) (J:=[]) (K:=fun e l bs' rs' w'=>e=.normal∧bs'=bs∧rs'=rs) ?_ F M (fun _ h=>by cases h) fun e a l bs' rs' w' F' M' ⟨h1,h2,h3⟩=>?_
 ·exact ei (x:=.bool true)<|an (fun a w o ho hv=>WK ho (aY hv) rfl u20)<|an (fun _=>⟨rfl,rfl,rfl⟩) fun h=>absurd h (by decide)
 ·subst h1 h2 h3;cases c₀
  simp_all [bodyPostS,results,F'.fr.defers]
  rfl
theorem FI{id s t:Nat}{o:Oper}{Q:Exit→Act→World→Prop}{a:Act}{w:World}{p:Value}(ho:o.op=.defer { callee:=.value (.func 48),args:=#[.tmp s],argTypes:=#[t] })(hd:o.dst=none)(hg:o.guard=none)(hs:At a s p)
 (h:Q .normal { a with defers:={ target:=.fn (.func 48) #[],args:=#[p] }::a.defers } w):(Code.region id #[o] false).wp Tryz.prog Q a w:=by
 refine bC (l:=[o]) ?_;unfold wpList;rw[if_pos (gB hg)];refine .inl ?_;have h2:=hs.ev
 have hr:(execOp a.eval o).run Tryz.prog w=.ok (.defer { target:=.fn (.func 48) #[],args:=#[p] }) w:=by
  unfold execOp;have eH:a.tmps[s]?=some p:=hs;simp[ho,h2,eH,resolve,Act.eval,Deferred.ofValue,ak1,Sem.run_pure,Result.andThen]
 unfold Oper.wp;rw[hr,Oper.upon_defer,hd];exact h
def aX(l:List dH)(k:Int):Nat:=(l.filter fun t=>decide (t.kind=k)).length
theorem bO(l:List dH)(t:dH)(k:Int):aX (l++[t]) k=aX l k+(if t.kind=k then 1 else 0):=by
 unfold aX;rw[List.filter_append,List.length_append];by_cases h:t.kind=k<;>simp[h]
theorem EK(l:List dH)(m:Nat)(k:Int):aX (l.take m) k≤aX l k:=by
 have h:=aX (l.drop m) k;unfold aX
 conv=>rhs;rw[← List.take_append_drop m l,List.filter_append,List.length_append]
 omega
def qC(nT nC nK:Nat)(y:dH):Int:=
 if y.kind<1 then 13 else if 3<y.kind then 13
 else if y.src.within (aE.all nT)=false then 3 else if y.tgt.within (aE.all nT)=false then 3
 else if aF y.cls (nC:Int)=false then 3 else if aF y.res (nT:Int)=false then 3 else if lX nK y.cond=false then 3
 else if bD y.src=false then 2 else if bD y.tgt=false then 2
 else if y.kind≠1∧bT y.name=false then 2
 else if bT y.name=false∧cR y.name=false then 10 else 0
def j9(p:aD)(i:Nat):Int:=match p.trans[i]? with
 | some y=>qC p.types.length p.classes.length p.conds.length y
 | none=>0
def h_(p:aD):Int:=if aX p.trans 1≤1024∧aX p.trans 2≤1024∧aX p.trans 3≤1024 then ah (j9 p) p.trans.length 0 else 4
theorem tO{p:aD}(h:∀ q:Int,1≤q→q≤3→aX p.trans q≤1024):h_ p=ah (j9 p) p.trans.length 0:=
 if_pos ⟨h 1 (by omega) (by omega),h 2 (by omega) (by omega),h 3 (by omega) (by omega)⟩
theorem gL{p:aD}{q:Int}{m:Nat}(h1:1≤q)(h2:q≤3)(h:1024<aX (p.trans.take m) q):h_ p=4:=by
 have h3:=EK p.trans m q;refine if_neg fun⟨a,b,c⟩=>?_
 rcases(show q=1∨q=2∨q=3 by omega) with rfl|rfl|rfl<;>omega
theorem dZ{i n:Int}:aF i n=true↔0≤i∧i<n:=by
 unfold aF;simp
def ud(p:aD)(c:eG):Int:=match p.users[c.user.toNat]?,p.roles[c.role.toNat]? with
 | some u,some r=>if jY c.rng.low u.rng.low=false then 19 else if jY u.rng.high c.rng.high=false then 19
  else if u.roles.mem c.role=false then 19 else if r.types.mem c.typ=false then 19 else 0
 | _,_=>0
def iU(p:aD)(c:eG):Int:=
 if aF c.user (p.users.length:Int)=false then 3 else if aF c.role (p.roles.length:Int)=false then 3 else if aF c.typ (p.types.length:Int)=false then 3
 else if gE p.ak.length p.cats.length c.rng=false then 18 else if c.role=0 then 0 else ud p c
theorem t_{p:aD}{c:eG}{u:fq}{r:dI}(hu:p.users[c.user.toNat]?=some u)(hr:p.roles[c.role.toNat]?=some r):ud p c=if jY c.rng.low u.rng.low=false then 19 else if jY u.rng.high c.rng.high=false then 19
 else if u.roles.mem c.role=false then 19 else if r.types.mem c.typ=false then 19 else 0:=by
 unfold ud;rw[hu,hr]
def wP(p:aD)(before:List ByteArray)(y:fC):Int:=if aU [y.name] before=0 then iU p y.ctx else aU [y.name] before
def ng(p:aD)(i:Nat):Int:=match p.bg[i]? with
 | some y=>wP p ((p.bg.take i).map (·.name)) y
 | none=>0
def q5(p:aD)(y:fG):Int:=if bT y.pat=true then 10 else if dg y.pat=false then 10 else if y.kind<0 then 13 else if 4<y.kind then 13 else iU p y.ctx
def iI(p:aD)(i:Nat):Int:=match p.files[i]? with
 | some y=>q5 p y
 | none=>0
def b_(p:aD):Int:=if 1024<p.bg.length then 4 else if ah (ng p) p.bg.length 0=0 then (if 256<p.files.length then 4 else ah (iI p) p.files.length 0) else ah (ng p) p.bg.length 0
def Ip(nT nC nR:Nat)(y:fE):Int:=
 if kf nR y.roles=false then 3 else if y.types.within (aE.all nT)=false then 3 else if aF y.cls (nC:Int)=false then 3 else if aF y.res (nR:Int)=false then 3
 else if y.res=0 then 3 else if y.roles=aE.zero then 2 else if bD y.types=false then 2 else 0
def wm(p:aD)(i:Nat):Int:=match p.ay[i]? with
 | some y=>Ip p.types.length p.classes.length p.roles.length y
 | none=>0
def Ir(nT nC nS nK:Nat)(y:fF):Int:=
 if y.src.within (aE.all nT)=false then 3 else if y.tgt.within (aE.all nT)=false then 3 else if aF y.cls (nC:Int)=false then 3
 else if bD y.src=false then 2 else if bD y.tgt=false then 2 else if gE nS nK y.rng=false then 18 else 0
def wW(p:aD)(i:Nat):Int:=match p.ranges[i]? with
 | some y=>Ir p.types.length p.classes.length p.ak.length p.cats.length y
 | none=>0
def bB(p:aD):Int:=if 1024<p.ay.length then 4 else if ah (wm p) p.ay.length 0=0 then (if 1024<p.ranges.length then 4 else ah (wW p) p.ranges.length 0) else ah (wm p) p.ay.length 0
def mz(before:List ByteArray)(y:gi):Int:=
 if aU [y.name] before=0 then (if 32<y.perms.length then 4 else if y.perms.length=0 then 2 else aU y.perms []) else aU [y.name] before
def fT(p:aD)(i:Nat):Int:=match p.classes[i]? with
 | some y=>mz ((p.classes.take i).map (·.name)) y
 | none=>0
def bV(p:aD):Int:=if 32<p.classes.length then 4 else ah (fT p) p.classes.length 0
def qB(nR nS nC:Nat)(before:List ByteArray)(y:fq):Int:=
 if aU [y.name] before=0 then
  (if kf nR y.roles=false then 3
   else if gE nS nC y.rng=false then 18 else if iH nS nC y.dflt=false then 18
   else if jY y.rng.high y.dflt=false then 18 else if jY y.dflt y.rng.low=false then 18 else 0)
 else aU [y.name] before
def jh(p:aD)(i:Nat):Int:=match p.users[i]? with
 | some y=>qB p.roles.length p.ak.length p.cats.length ((p.users.take i).map (·.name)) y
 | none=>0
def fK(p:aD):Int:=if 32<p.users.length then 4 else ah (jh p) p.users.length 0
def vG(nU nR nT:Nat)(cl:List gi)(y:ij):Int:=
 if eM cl y.cls y.perms=false then 3 else if ¬ y.val=decide (y.perms=0) then 2 else cq nU nR nT y.val y.expr
def pI(p:aD)(i:Nat):Int:=match p.cons[i]? with
 | some y=>vG p.users.length p.roles.length p.types.length p.classes y
 | none=>0
def gP(p:aD):Int:=if 64<p.cons.length then 4 else ah (pI p) p.cons.length 0
def fO(p:aD):Int:=
 if 16<p.bools.length then 4
 else if ¬ aU (p.bools.map (·.name)) []=0 then aU (p.bools.map (·.name)) []
 else if 16<p.ak.length then 4
 else if ¬ aU p.ak []=0 then aU p.ak []
 else if 64<p.cats.length then 4
 else aU p.cats []
def aZ(p:aD):Int:=
 if jv [bV p,eO p,dO p]=0 then jv [fK p,fO p,cP p,h_ p,bB p,gP p,b_ p,dG p] else jv [bV p,eO p,dO p]
theorem S3{s:ByteArray}(h:kC s=true):om s:=by
 unfold kC ow at h;simp only[ak2,decide_eq_true_eq] at h;unfold om;have:=h.1.2.2;omega
theorem MI{l o:List ByteArray}(h:aU l o=0):∀ s∈l,kC s=true:=fun s hs=>by
 unfold aU at h;rw[mW] at h;obtain⟨i,hi⟩:=List.getElem?_of_mem hs;have:=h i (by omega) (by have:=(akV.1 hi).1;omega);rw[qv hi] at this;split at this
 ·assumption
 ·exact absurd this (by decide)
theorem nM{l o:List ByteArray}(h:aU l o=0):∀ s∈l,om s:=fun s hs=>S3 (MI h s hs)
theorem gO{α:Type}{l:List α}{f:Nat→Int}{g:Nat→α→Int}(hf:∀ i x,l[i]?=some x→f i=g i x){k:Nat}(h:ah f (l.length-k) k=0):∀ i x,k≤i→l[i]?=some x→g i x=0:=fun i x hk hi=>by
 rw[mW] at h;have hlt:=(akV.1 hi).1;rw[← hf i x hi];exact h i hk (by omega)
theorem rm{i:Int}{n:Nat}(h:aF i (n:Int)=true)(hn:n≤4096):qz i:=by
 unfold aF at h;rw[ak2,decide_eq_true_eq,decide_eq_true_eq] at h;exact⟨h.1,by omega⟩
inductive Kr:aS→Prop
 | name {a:Int}:qz a→Kr (.node 1 a 0 0 [] uM [])
 | cmp {a r b:Int}:qz a→qz r→qz b→Kr (.node 8 a r b [] uM [])
 | inn {a:Int} {s:aE}:qz a→s.Ok→Kr (.node 9 a 0 0 [] s [])
 | not {x:aS}:Kr x→Kr (.node 2 0 0 0 [] uM [x])
 | two {op:Int} {x y:aS}:3≤op→op≤7→Kr x→Kr y→Kr (.node op 0 0 0 [] uM [x,y])
theorem Dw{f:Nat→Int}:∀ {n i:Nat},i<n→f i≤dY f n
 | n+1,i,h=>by
  unfold dY;by_cases e:i=n
  ·subst e;exact Int.le_max_right _ _
  ·exact Int.le_trans (Dw (by omega)) (Int.le_max_left _ _)
theorem Gy(k:Nat)(e:aS):∃ f:Nat→Int,(∀ i x,e.kids[i]?=some x→f i=aL k x)∧aL (k+1) e=dY f e.kids.length+1:=by
 refine⟨_,?_,by unfold aL;rfl⟩;intro i x hi;simp only[hi]
theorem uj{k:Nat}{e x:aS}(h:aL (k+1) e≤k)(hx:x∈e.kids):∃ k',k=k'+1∧aL (k'+1) x≤k':=by
 obtain⟨f,hf,he⟩:=Gy k e;rw[he] at h;obtain⟨i,hi⟩:=List.getElem?_of_mem hx;have h1:=Dw (f:=f) (akV.1 hi).1;rw[hf i x hi] at h1;have h2:=eK f e.kids.length
 cases k with
 | zero=>omega
 | succ k'=>exact⟨k',rfl,by omega⟩
theorem uh(e:aS)(k:Nat)(h:aL (k+1) e≤k):∃ k',k=k'+1:=by
 obtain⟨f,-,he⟩:=Gy k e;have h2:=eK f e.kids.length;exact⟨k-1,by omega⟩
theorem Kr.levels{e:aS}(h:Kr e):∀ k:Nat,aL (k+1) e≤k→vJ k e:=by
 induction h with
 | name ha=>intro k hk;obtain⟨k',rfl⟩:=uh _ _ hk;exact .name ha
 | cmp ha hr hb=>intro k hk;obtain⟨k',rfl⟩:=uh _ _ hk;exact .cmp ha hr hb
 | inn ha hs=>intro k hk;obtain⟨k',rfl⟩:=uh _ _ hk;exact .inn ha hs
 | @not x _ ih=>
  intro k hk;obtain⟨k',rfl,h1⟩:=uj (x:=x) hk (by simp[aS.kids]);exact .not (ih k' h1)
 | @two op x y h3 h7 _ _ EO ihy=>
  intro k hk;obtain⟨k',rfl,h1⟩:=uj (x:=x) hk (by simp[aS.kids]);obtain⟨k2,e2,h2⟩:=uj (x:=y) hk (by simp[aS.kids]);obtain rfl:k'=k2:=by omega
  exact .two h3 h7 (EO k' h1) (ihy k' h2)
theorem F5{n:Nat}(hn:n≤4096):∀ e:aS,pH n e=0→Kr e
 | .node op a rel b names set kids,h=>by
  have ih:∀ k∈kids,pH n k=0→Kr k:=fun k hk=>F5 hn k
  rw[yO] at h
  cases hb:oQ (.node op a rel b names set kids) with
  | true=>rw[hb] at h;simp at h
  | false=>
   rw[hb,if_neg (by decide)] at h
   cases h1:(decide (op=1)&&!aF a (n:Int)) with
   | true=>rw[show(decide ((aS.node op a rel b names set kids).op=1)&&!aF (aS.node op a rel b names set kids).a (n:Int))=true from h1] at h;simp at h
   | false=>
    rw[show(decide ((aS.node op a rel b names set kids).op=1)&&!aF (aS.node op a rel b names set kids).a (n:Int))=false from h1,if_neg (by decide)] at h;replace h:n_ n kids=0:=h;unfold oQ at hb;simp only[Bool.or_eq_false_iff,Bool.not_eq_false',aS.op,aS.kids,aS.rel,aS.b,aS.names,aS.set,aS.a] at hb;obtain⟨⟨⟨⟨⟨⟨⟨q8,q9⟩,qkl⟩,hrel⟩,kX⟩,qnm⟩,hset⟩,qA⟩:=hb;have n8:¬ op=8:=of_decide_eq_false q8;have n9:¬ op=9:=of_decide_eq_false q9;have hkl:fJ op=(kids.length:Int):=of_decide_eq_true qkl;have hnm:¬ 0<(names.length:Int):=of_decide_eq_false qnm;have hrel':rel=0:=of_decide_eq_true hrel;have acY:b=0:=of_decide_eq_true kX;have YG:set=aE.zero:=of_decide_eq_true hset
    have hA:op=1∨a=0:=by
     rw[Bool.and_eq_false_iff,Bool.not_eq_false',Bool.not_eq_false'] at qA;exact qA.imp (fun h=>of_decide_eq_true h) fun h=>of_decide_eq_true h
    clear q8 q9 qkl hrel kX qnm hset qA;subst hrel' acY YG;obtain rfl:names=[]:=List.eq_nil_of_length_eq_zero (by omega)
    have two:3≤op→op≤7→Kr (.node op a 0 0 [] aE.zero kids):=fun h3 h7=>by
     have ha:a=0:=hA.resolve_left (by omega);subst ha
     have hk2:fJ op=2:=by
      have e:op=3∨op=4∨op=5∨op=6∨op=7:=by omega
      rcases e with rfl|rfl|rfl|rfl|rfl<;>rfl
     rw[hk2] at hkl
     match kids,h,hkl,ih with
     | [k,l],h,_,ih=>
      unfold n_ at h;split at h
      ·rename_i hk;unfold n_ at h;split at h
       ·rename_i hl;exact .two h3 h7 (ih k (by simp) hk) (ih l (by simp) hl)
       ·rename_i hl;exact absurd h hl
      ·rename_i hk;exact absurd h hk
    by_cases e1:op=1
    ·subst e1;have hk0:kids=[]:=List.eq_nil_of_length_eq_zero (by have:fJ 1=0:=rfl;omega);subst hk0;rw[decide_eq_true rfl,Bool.true_and,Bool.not_eq_false'] at h1;exact .name (rm h1 hn)
    by_cases e2:op=2
    ·subst e2;have ha:a=0:=hA.resolve_left (by omega);subst ha;have hk1:fJ 2=1:=rfl;rw[hk1] at hkl
     match kids,h,hkl,ih with
     | [k],h,_,ih=>
      unfold n_ at h;split at h
      ·rename_i hk;exact .not (ih k (by simp) hk)
      ·rename_i hk;exact absurd h hk
    by_cases e3:3≤op∧op≤7
    ·exact two e3.1 e3.2
    exfalso
    have hm:fJ op<0:=by
     unfold fJ;rw[if_neg e1,if_neg n8,if_neg n9,if_neg e2,if_neg (by omega),if_neg (by omega),if_neg (by omega),if_neg (by omega),if_neg (by omega)];decide
    omega
 termination_by e=>SizeOf.sizeOf e
 decreasing_by
  have:=List.sizeOf_lt_of_mem hk;simp only[aS.node.sizeOf_spec];omega
theorem DJ{nU nR nT N:Nat}:∀ l:List aS,lV nU nR nT N l=0→∀ k∈l,iC nU nR nT N k=0
 | [],_,k,hk=>by cases hk
 | x::l,h,k,hk=>by
  rw[lV] at h;split at h
  ·rename_i hx;rcases List.mem_cons.1 hk with rfl|hk
   ·exact hx
   ·exact DJ l h k hk
  ·rename_i hx;exact absurd h hx
theorem BA{nU nR nT N:Nat}(hN:N≤4096):∀ e:aS,e.Ok→iC nU nR nT N e=0→Kr e
 | .node op a rel b names set kids,hok,h=>by
  have ih:∀ k∈kids,iC nU nR nT N k=0→Kr k:=fun k hk=>BA hN k (by cases hok with|node _ _ _ _ _ _ _ h=>exact h k hk)
  have acr:set.Ok:=by cases hok;assumption
  cases hs:dF nU nR nT N (.node op a rel b names set kids) with
  | some r=>
   rw[kE hs] at h;subst h;unfold dF at hs;split at hs
   ·cases hs
   rename_i hf;have hf:cT (.node op a rel b names set kids)=true:=by simpa using hf
   split at hs
   ·rename_i h8;have h8:op=8:=h8;subst h8;have hc:=akZ hs;unfold ez at hc;unfold cT at hf;rw[if_neg (by show ¬ ((8:Int)=2∨(8:Int)=3∨(8:Int)=4);decide),if_pos (by rfl)] at hf;simp only[ak2,aS.kids,aS.names,aS.set] at hf;obtain⟨⟨qk,qn⟩,qs⟩:=hf;have hk:(kids.length:Int)=0:=of_decide_eq_true qk;have hn:(names.length:Int)=0:=of_decide_eq_true qn;have hs0:set=aE.zero:=of_decide_eq_true qs;clear qk qn qs;subst hs0;obtain rfl:kids=[]:=List.eq_nil_of_length_eq_zero (by omega);obtain rfl:names=[]:=List.eq_nil_of_length_eq_zero (by omega);split at hc
    ·cases hc
    rename_i ha;split at hc
    ·cases hc
    rename_i hb;split at hc
    ·cases hc
    rename_i hr;exact .cmp (rm (eq_true_of_ne_false ha) hN) (rm (n:=5) (eq_true_of_ne_false hr) (by omega)) (rm (eq_true_of_ne_false hb) hN)
   ·split at hs
    ·repeat' (split at hs)
     all_goals cases hs
    ·cases hs
  | none=>
   rw[mP hs] at h;have hl:=DJ kids h;unfold dF at hs;split at hs
   ·cases hs
   rename_i hf;have hf:cT (.node op a rel b names set kids)=true:=by simpa using hf
   split at hs
   ·cases hs
   split at hs
   ·rename_i h9;have h9:op=9:=h9;subst h9;unfold cT at hf;rw[if_neg (by show ¬ ((9:Int)=2∨(9:Int)=3∨(9:Int)=4);decide),if_neg (by show ¬ (9:Int)=8;decide),if_pos (by rfl)] at hf;simp only[ak2,aS.kids,aS.names,aS.rel,aS.b] at hf;obtain⟨⟨⟨qk,qr⟩,qb⟩,qn⟩:=hf;have hk:(kids.length:Int)=0:=of_decide_eq_true qk;have hn:(names.length:Int)=0:=of_decide_eq_true qn;have hr0:rel=0:=of_decide_eq_true qr;have hb0:b=0:=of_decide_eq_true qb;clear qk qn qr qb;subst hr0 hb0;obtain rfl:kids=[]:=List.eq_nil_of_length_eq_zero (by omega);obtain rfl:names=[]:=List.eq_nil_of_length_eq_zero (by omega);split at hs
    ·cases hs
    rename_i ha;exact .inn (rm (eq_true_of_ne_false ha) hN) acr
   ·rename_i n8 n9;unfold cT at hf;split at hf
    ·rename_i Ww;have Ww:op=2∨op=3∨op=4:=Ww;simp only[ak2,aS.kids,aS.names,aS.rel,aS.b,aS.a,aS.set,aS.op] at hf;obtain⟨⟨⟨⟨⟨qk,qa⟩,qr⟩,qb⟩,qn⟩,qs⟩:=hf;have hk:(kids.length:Int)=fJ op:=of_decide_eq_true qk;have hn:(names.length:Int)=0:=of_decide_eq_true qn;have ha0:a=0:=of_decide_eq_true qa;have hr0:rel=0:=of_decide_eq_true qr;have hb0:b=0:=of_decide_eq_true qb;have hs0:set=aE.zero:=of_decide_eq_true qs;clear qk qn qa qr qb qs;subst ha0 hr0 hb0 hs0;obtain rfl:names=[]:=List.eq_nil_of_length_eq_zero (by omega);rcases Ww with rfl|rfl|rfl
     ·have hk1:fJ 2=1:=rfl;rw[hk1] at hk
      match kids,hk,ih,hl with
      | [x],_,ih,hl=>exact .not (ih x (by simp) (hl x (by simp)))
     ·have hk1:fJ 3=2:=rfl;rw[hk1] at hk
      match kids,hk,ih,hl with
      | [x,y],_,ih,hl=>exact .two (by decide) (by decide) (ih x (by simp) (hl x (by simp))) (ih y (by simp) (hl y (by simp)))
     ·have hk1:fJ 4=2:=rfl;rw[hk1] at hk
      match kids,hk,ih,hl with
      | [x,y],_,ih,hl=>exact .two (by decide) (by decide) (ih x (by simp) (hl x (by simp))) (ih y (by simp) (hl y (by simp)))
    ·first|(rw[if_neg n8,if_neg n9] at hf;cases hf)|cases hf|(exact absurd hf (by decide))
 termination_by e=>SizeOf.sizeOf e
 decreasing_by
  have:=List.sizeOf_lt_of_mem hk;simp only[aS.node.sizeOf_spec];omega
theorem Tk{s:ByteArray}:bT s=true↔s.size=0:=by
 have e:s.size=s.toList.length:=by rw[ByteArray.toList_eq,Array.length_toList];rfl
 unfold bT;rw[beq_iff_eq,ByteArray.toList_eq ⟨#[]⟩,e];exact⟨fun h=>by rw[h];rfl,fun h=>List.eq_nil_of_length_eq_zero h⟩
theorem Tj{s:ByteArray}(h:bT s=true):s.size≤256:=by
 rw[Tk.1 h];decide
theorem vI{i:Int}{n:Nat}(h:¬ aF i (n:Int)=false)(hn:n≤4096):qz i:=rm (eq_true_of_ne_false h) hn
theorem EC{nS nC:Nat}{l:iL}(h:iH nS nC l=true)(hs:nS≤4096)(hc:fA l.cats):Fu l:=by
 unfold iH at h;rw[ak2] at h;exact⟨rm h.1 hs,hc⟩
theorem Eo{nS nC:Nat}{r:mS}(h:gE nS nC r=true)(hs:nS≤4096)(hok:r.Ok):C6 r:=by
 unfold gE at h;rw[ak2,ak2] at h;exact⟨EC h.1.1 hs hok.low.cats,EC h.1.2 hs hok.high.cats⟩
theorem FL{cl:List gi}{c v:Int}(h:eM cl c v=true)(hl:cl.length≤4096):qz c:=by
 unfold eM at h;split at h
 ·rename_i x hx;split at hx
  ·have:=(akV.1 hx).1;exact⟨by assumption,by omega⟩
  ·cases hx
 ·cases h
theorem KY{p:aD}{c:eG}(h:iU p c=0)(hu:p.users.length≤4096)(hr:p.roles.length≤4096)(ht:p.types.length≤4096)(hs:p.ak.length≤4096)(hok:c.Ok):Fx c:=by
 unfold iU at h;split at h
 ·cases h
 rename_i h1;split at h
 ·cases h
 rename_i h2;split at h
 ·cases h
 rename_i h3;split at h
 ·cases h
 rename_i h4;exact⟨vI h1 hu,vI h2 hr,vI h3 ht,Eo (eq_true_of_ne_false h4) hs hok.rng⟩
theorem TB{p:aD}(h:aZ p=0)(hok:p.Ok)(ac1:∀ t∈p.types,yV t.jg)(acp:yV p.trans):sw 3 p:=by
 unfold aZ at h;split at h
 case isFalse hne=>exact absurd h hne
 rename_i h0;rw[rT] at h0 h;have hcl:=h0 (bV p) (by simp);have hty:=h0 (eO p) (by simp);have hro:=h0 (dO p) (by simp);have Xu:=h (fK p) (by simp);have hot:=h (fO p) (by simp);have CY:=h (cP p) (by simp);have htr:=h (h_ p) (by simp);have hch:=h (bB p) (by simp);have Xz:=h (gP p) (by simp);have hla:=h (b_ p) (by simp);have has:=h (dG p) (by simp);clear h h0;unfold bV at hcl;split at hcl
 ·cases hcl
 rename_i nC;unfold eO at hty;split at hty
 ·cases hty
 rename_i nT;split at hty
 case isFalse hne=>exact absurd hty hne
 rename_i V0;split at hty
 ·cases hty
 rename_i nA;unfold dO at hro;split at hro
 ·cases hro
 rename_i nR;split at hro
 ·cases hro
 rename_i hr0;have hr0:p.roles[0]?=some gU:=Classical.byContradiction hr0;unfold fK at Xu;split at Xu
 ·cases Xu
 rename_i nU;unfold fO at hot;split at hot
 ·cases hot
 rename_i nB;split at hot
 ·rename_i hn;exact absurd hot hn
 rename_i hB;have hB:=Classical.byContradiction hB;split at hot
 ·cases hot
 rename_i nS;split at hot
 ·rename_i hn;exact absurd hot hn
 rename_i hS;have hS:=Classical.byContradiction hS;split at hot
 ·cases hot
 rename_i nK;unfold cP at CY;split at CY
 ·cases CY
 rename_i nD;split at CY
 case isFalse hne=>exact absurd CY hne
 rename_i hD;split at CY
 ·cases CY
 rename_i nL;unfold h_ at htr;split at htr
 case isFalse=>cases htr
 rename_i nX;unfold bB at hch;split at hch
 ·cases hch
 rename_i nY;split at hch
 case isFalse hne=>exact absurd hch hne
 rename_i hY;split at hch
 ·cases hch
 rename_i nZ;unfold gP at Xz;split at Xz
 ·cases Xz
 rename_i nN;unfold b_ at hla;split at hla
 ·cases hla
 rename_i nI;split at hla
 case isFalse hne=>exact absurd hla hne
 rename_i hI;split at hla
 ·cases hla
 rename_i nF;unfold dG at has;split at has
 ·cases has
 rename_i nP;have hcl:=gO (l:=p.classes) (g:=fun i y=>mz ((p.classes.take i).map (·.name)) y) (fun i x hi=>by unfold fT;rw[hi]) (k:=0) hcl;have V0:=gO (l:=p.types) (g:=fun i y=>OE (bh (p.types.take i)) y) (fun i x hi=>by unfold iz;rw[hi]) (k:=0) V0;have hty:=gO (l:=p.attrs) (g:=fun i y=>ru p.types.length (bh p.types++(p.attrs.take i).map (·.name)) y) (fun i x hi=>by unfold iJ;rw[hi]) (k:=0) hty;have hro:=gO (l:=p.roles) (g:=fun i y=>qD p.types.length p.roles.length ((p.roles.take i).map (·.name)) y) (fun i x hi=>by unfold ji;rw[hi]) (k:=1) hro;have Xu:=gO (l:=p.users) (g:=fun i y=>qB p.roles.length p.ak.length p.cats.length ((p.users.take i).map (·.name)) y) (fun i x hi=>by unfold jh;rw[hi]) (k:=0) Xu;have hD:=gO (l:=p.conds) (g:=fun _ e=>cW p.bools.length e) (fun i x hi=>by unfold eu;rw[hi]) (k:=0) hD;have CY:=gO (l:=p.rules) (g:=fun _ r=>o_ p.types.length p.conds.length p.classes r) (fun i x hi=>by unfold iB;rw[hi]) (k:=0) CY;have htr:=gO (l:=p.trans) (g:=fun _ y=>qC p.types.length p.classes.length p.conds.length y) (fun i x hi=>by unfold j9;rw[hi]) (k:=0) htr;have hY:=gO (l:=p.ay) (g:=fun _ y=>Ip p.types.length p.classes.length p.roles.length y) (fun i x hi=>by unfold wm;rw[hi]) (k:=0) hY;have hch:=gO (l:=p.ranges) (g:=fun _ y=>Ir p.types.length p.classes.length p.ak.length p.cats.length y) (fun i x hi=>by unfold wW;rw[hi]) (k:=0) hch;have Xz:=gO (l:=p.cons) (g:=fun _ y=>vG p.users.length p.roles.length p.types.length p.classes y) (fun i x hi=>by unfold pI;rw[hi]) (k:=0) Xz;have hI:=gO (l:=p.bg) (g:=fun i y=>wP p ((p.bg.take i).map (·.name)) y) (fun i x hi=>by unfold ng;rw[hi]) (k:=0) hI;have hla:=gO (l:=p.files) (g:=fun _ y=>q5 p y) (fun i x hi=>by unfold iI;rw[hi]) (k:=0) hla;have has:=gO (l:=p.asserts) (g:=fun i y=>jA p.types.length ((p.asserts.take i).map (·.name)) y) (fun i x hi=>by unfold dX;rw[hi]) (k:=0) has;have mem:∀ {α:Type} {l:List α} {x:α},x∈l→∃ i,l[i]?=some x:=fun hx=>List.getElem?_of_mem hx
 have short:∀ {α:Type} {l:List α} {n:Nat},l.length≤n→n≤4096→yV l:=fun h1 h2=>by unfold yV;omega
 refine⟨⟨short (n:=32) (by omega) (by decide),fun x hx=>?_⟩,⟨short (n:=256) (by omega) (by decide),fun x hx=>?_⟩,⟨short (n:=64) (by omega) (by decide),fun x hx=>?_⟩,⟨short (n:=32) (by omega) (by decide),fun x hx=>?_⟩,⟨short (n:=32) (by omega) (by decide),fun x hx=>?_⟩,⟨short (n:=16) (by omega) (by decide),fun x hx=>?_⟩,
  ⟨short (n:=16) (by omega) (by decide),nM hS⟩,⟨short (n:=64) (by omega) (by decide),nM hot⟩,⟨short (n:=64) (by omega) (by decide),fun x hx=>?_⟩,⟨short (n:=4096) (by omega) (by decide),fun x hx=>?_⟩,⟨?_,fun x hx=>?_⟩,⟨short (n:=1024) (by omega) (by decide),fun x hx=>?_⟩,
  ⟨⟨short (n:=1024) (by omega) (by decide),fun x hx=>?_⟩,fun hv=>absurd hv (by decide)⟩,⟨short (n:=64) (by omega) (by decide),fun x hx=>?_⟩,⟨short (n:=1024) (by omega) (by decide),fun x hx=>?_⟩,⟨⟨short (n:=256) (by omega) (by decide),fun x hx=>?_⟩,fun hv=>absurd hv (by decide)⟩,⟨⟨short (n:=64) (by omega) (by decide),fun x hx=>?_⟩,fun hv=>absurd hv (by decide)⟩⟩
 ·obtain⟨i,hi⟩:=mem hx;have k:=hcl i x (akY _) hi;unfold mz at k;split at k
  case isFalse hne=>exact absurd k hne
  rename_i k1;split at k
  ·cases k
  split at k
  ·cases k
  exact⟨nM k1 _ (by simp),short (n:=32) (by omega) (by decide),nM k⟩
 ·obtain⟨i,hi⟩:=mem hx;have k:=V0 i x (akY _) hi;unfold OE at k;have kT:=nM k;exact⟨kT _ (by simp),⟨ac1 x hx,fun s hs=>kT s (by simp[hs])⟩,fun hv=>absurd hv (by decide)⟩
 ·obtain⟨i,hi⟩:=mem hx;have k:=hty i x (akY _) hi;unfold ru at k;split at k
  case isFalse hne=>exact absurd k hne
  rename_i k1;exact⟨nM k1 _ (by simp),(hok.attrs x hx).types⟩
 ·obtain⟨i,hi⟩:=mem hx;refine⟨?_,(hok.roles x hx).types,(hok.roles x hx).next⟩;by_cases i0:i=0
  ·subst i0;rw[hr0] at hi;obtain rfl:=akZ hi;show(8:Nat)≤256;decide
  ·have k:=hro i x (by omega) hi;unfold qD at k;split at k
   case isFalse hne=>exact absurd k hne
   rename_i k1;exact nM k1 _ (by simp)
 ·obtain⟨i,hi⟩:=mem hx;have k:=Xu i x (akY _) hi;unfold qB at k;split at k
  case isFalse hne=>exact absurd k hne
  rename_i k1;split at k
  ·cases k
  split at k
  ·cases k
  rename_i k2;split at k
  ·cases k
  rename_i k3;exact⟨nM k1 _ (by simp),(hok.users x hx).roles,EC (eq_true_of_ne_false k3) (by omega) (hok.users x hx).dflt.cats,Eo (eq_true_of_ne_false k2) (by omega) (hok.users x hx).rng⟩
 ·exact nM hB _ (List.mem_map.2 ⟨x,hx,rfl⟩)
 ·obtain⟨i,hi⟩:=mem hx;have k:=hD i x (akY _) hi;unfold cW at k;split at k
  ·cases k
  rename_i k1;exact(F5 (by omega) x k).levels 12 (Int.not_lt.1 k1)
 ·obtain⟨i,hi⟩:=mem hx;have k:=CY i x (akY _) hi;unfold o_ at k;split at k
  ·cases k
  split at k
  ·cases k
  split at k
  ·cases k
  rename_i k1 k2 k3;unfold oO at k3;rw[Bool.not_eq_true,Bool.or_eq_false_iff,Bool.or_eq_false_iff,Bool.or_eq_false_iff,Bool.not_eq_false',Bool.not_eq_false',Bool.not_eq_false',Bool.not_eq_false'] at k3;obtain⟨⟨⟨-,-⟩,kv⟩,kc⟩:=k3;have o:=hok.rules x hx;unfold lX at kc;rw[ak2,decide_eq_true_eq,decide_eq_true_eq] at kc;exact⟨⟨by omega,by omega⟩,o.src,o.tgt,FL kv (by omega),o.perms,by omega,by omega⟩
 ·exact acp
 ·obtain⟨i,hi⟩:=mem hx;have k:=htr i x (akY _) hi;unfold qC at k;split at k
  ·cases k
  split at k
  ·cases k
  split at k
  ·cases k
  split at k
  ·cases k
  split at k
  ·cases k
  rename_i _ _ _ _ abR;split at k
  ·cases k
  rename_i abP;split at k
  ·cases k
  rename_i kc;split at k
  ·cases k
  split at k
  ·cases k
  split at k
  ·cases k
  split at k
  ·cases k
  rename_i kn;have o:=hok.trans x hx;have kc:=eq_true_of_ne_false kc;unfold lX at kc;rw[ak2,decide_eq_true_eq,decide_eq_true_eq] at kc;refine⟨⟨⟨by omega,by omega⟩,o.src,o.tgt,vI abR (by omega),?_,vI abP (by omega),by omega,by omega⟩,fun hv=>absurd hv (by decide)⟩;unfold om;by_cases ke:bT x.name=false
  ·have kb:=eq_true_of_ne_false fun h=>kn ⟨ke,h⟩
   unfold cR at kb;simp only[ak2,decide_eq_true_eq] at kb;have:=kb.2.2;omega
  ·exact Tj (eq_true_of_ne_false ke)
 ·obtain⟨i,hi⟩:=mem hx;have k:=hY i x (akY _) hi;unfold Ip at k;split at k
  ·cases k
  split at k
  ·cases k
  split at k
  ·cases k
  rename_i _ _ k1;split at k
  ·cases k
  rename_i k2;exact⟨(hok.ay x hx).roles,(hok.ay x hx).types,vI k1 (by omega),vI k2 (by omega)⟩
 ·obtain⟨i,hi⟩:=mem hx;have k:=hch i x (akY _) hi;unfold Ir at k;split at k
  ·cases k
  split at k
  ·cases k
  split at k
  ·cases k
  rename_i _ _ k1;split at k
  ·cases k
  split at k
  ·cases k
  split at k
  ·cases k
  rename_i k2;exact⟨(hok.ranges x hx).src,(hok.ranges x hx).tgt,vI k1 (by omega),Eo (eq_true_of_ne_false k2) (by omega) (hok.ranges x hx).rng⟩
 ·obtain⟨i,hi⟩:=mem hx;have k:=Xz i x (akY _) hi;unfold vG at k;split at k
  ·cases k
  rename_i k1;split at k
  ·cases k
  unfold cq at k;split at k
  ·cases k
  rename_i k3;have o:=hok.cons x hx;refine⟨FL (eq_true_of_ne_false k1) (by omega),o.perms,?_⟩;split at k
  ·exact(BA (by decide) _ o.expr k).levels 12 (Int.not_lt.1 k3)
  ·exact(BA (by decide) _ o.expr k).levels 12 (Int.not_lt.1 k3)
 ·obtain⟨i,hi⟩:=mem hx;have k:=hI i x (akY _) hi;unfold wP at k;split at k
  case isFalse hne=>exact absurd k hne
  rename_i k1;exact⟨nM k1 _ (by simp),KY k (by omega) (by omega) (by omega) (by omega) (hok.bg x hx).ctx⟩
 ·obtain⟨i,hi⟩:=mem hx;have k:=hla i x (akY _) hi;unfold q5 at k;split at k
  ·cases k
  split at k
  ·cases k
  rename_i k1;split at k
  ·cases k
  split at k
  ·cases k
  rename_i _ k2 k3;refine⟨?_,⟨by omega,by omega⟩,KY k (by omega) (by omega) (by omega) (by omega) (hok.files x hx).ctx⟩;have k1:=eq_true_of_ne_false k1;unfold dg at k1;rw[ak2,decide_eq_true_eq] at k1;show x.pat.size≤256;have:=k1.2;omega
 ·obtain⟨i,hi⟩:=mem hx;have k:=has i x (akY _) hi;unfold jA at k;split at k
  case isFalse hne=>exact absurd k hne
  rename_i k1;split at k
  ·cases k
  split at k
  ·cases k
  exact⟨nM k1 _ (by simp),⟨by omega,by omega⟩,(hok.asserts x hx).src,(hok.asserts x hx).tgt⟩
theorem tB{x y j:Nat}(hy:fA y)(hj:j<64):(pX x y).testBit j=(x.testBit j&&!y.testBit j):=by
 unfold pX;rw[Nat.testBit_and,show 18446744073709551615-y=2^64-(y+1) by unfold fA at hy;omega,Nat.testBit_two_pow_sub_succ hy,decide_eq_true hj,Bool.true_and]
theorem and_self_iff{x y:Nat}(hx:fA x)(hy:fA y):x&&&y=x↔pX x y=0:=by
 constructor
 ·intro h;refine xI (uE hx y) (by unfold fA;decide) fun j hj=>?_
  rw[tB hy hj,Nat.zero_testBit];have:=congrArg (fun z=>z.testBit j) h;simp only[Nat.testBit_and] at this
  revert this
  cases x.testBit j<;>cases y.testBit j<;>simp
 ·intro h;refine xI (Nat.lt_of_le_of_lt Nat.and_le_left hx) hx fun j hj=>?_
  rw[Nat.testBit_and];have:=congrArg (fun z=>z.testBit j) h;simp only[tB hy hj,Nat.zero_testBit] at this
  revert this
  cases x.testBit j<;>cases y.testBit j<;>simp
def aE.and(x y:aE):aE:=⟨x.a&&&y.a,x.b&&&y.b,x.c&&&y.c,x.d&&&y.d⟩
theorem H8{x y:aE}(hx:x.Ok)(hy:y.Ok):decide (x.and y=x)=x.within y:=by
 unfold aE.within;rw[decide_eq_decide];obtain⟨a,b,c,d⟩:=x;obtain⟨a',b',c',d'⟩:=y;simp only[aE.and,aE.minus,aE.zero,aE.mk.injEq,and_self_iff hx.a hy.a,and_self_iff hx.b hy.b,and_self_iff hx.c hy.c,and_self_iff hx.d hy.d]
theorem Tx{a b:iL}(ha:a.Ok)(hb:b.Ok):(decide (b.ak≤a.ak)&&decide (a.cats&&&b.cats=b.cats))=jY a b:=by
 unfold jY;congr 1;rw[decide_eq_decide,Nat.and_comm,and_self_iff hb.cats ha.cats]
theorem Sw(j:Nat):Nat.testBit 1 j=decide (j=0):=by
 rw[show(1:Nat)=2^0 from rfl,Nat.testBit_two_pow,decide_eq_decide];exact⟨fun h=>h.symm,fun h=>h.symm⟩
theorem NQ{x y:Nat}(hx:fA x)(hy:fA y):pX x (pX y 1)=0↔pX x y=0∧x.testBit 0=false:=by
 have h1:fA 1:=by unfold fA;decide
 have hz:fA 0:=by unfold fA;decide
 have key:∀ j,j<64→(pX x (pX y 1)).testBit j=if j=0 then x.testBit 0 else (pX x y).testBit j:=fun j hj=>by
  rw[tB (uE hy 1) hj,tB h1 hj,Sw];by_cases e:j=0
  ·subst e;simp
  ·rw[if_neg e,tB hy hj];simp[e]
 constructor
 ·intro h;have h0:x.testBit 0=false:=by have:=key 0 (by decide);rw[h,if_pos rfl,Nat.zero_testBit] at this;exact this.symm
  refine⟨xI (uE hx y) hz fun j hj=>?_,h0⟩;rw[Nat.zero_testBit];by_cases e:j=0
  ·subst e;rw[tB hy hj,h0];rfl
  ·have:=key j hj;rw[h,if_neg e,Nat.zero_testBit] at this;exact this.symm
 ·rintro⟨h,h0⟩;refine xI (uE hx _) hz fun j hj=>?_
  rw[key j hj,Nat.zero_testBit];split
  ·exact h0
  ·rw[h,Nat.zero_testBit]
theorem Mr{n:Nat}{s:aE}(hs:s.Ok):(s.within (aE.all n)&&!s.mem 0)=kf n s:=by
 have hm:s.mem 0=s.a.testBit 0:=rfl;have ha:=jZ n;unfold kf aE.within;rw[hm];generalize aE.all n=t at ha ⊢;obtain⟨a,b,c,d⟩:=s;obtain⟨a',b',c',d'⟩:=t;have:=NQ hs.a ha.a;simp only[aE.minus,aE.unit,aE.zero,aE.mk.injEq] at this ⊢;rw[ak0];simp only[ak2,decide_eq_true_eq,Bool.not_eq_true',this];constructor
 ·rintro⟨⟨h1,h2⟩,h3⟩;exact⟨⟨h1,h3⟩,h2⟩
 ·rintro⟨⟨h1,h3⟩,h2⟩;exact⟨⟨h1,h2⟩,h3⟩
theorem MO{nS nC:Nat}{r:mS}{d:iL}(hr:gE nS nC r=true)(hd:d.Ok)(hk:r.Ok)(h1:jY r.high d=true)(h2:jY d r.low=true):iH nS nC d=true:=by
 unfold gE iH aF at hr;unfold jY at h1 h2;unfold iH aF;simp only[ak2,Bool.or_eq_true,decide_eq_true_eq] at hr h1 h2 ⊢;obtain⟨⟨⟨⟨a1,a2⟩,a3⟩,⟨b1,b2⟩,b3⟩,-⟩:=hr;refine⟨⟨by omega,by omega⟩,?_⟩;rcases b3 with b3|b3
 ·exact .inl b3
 ·refine .inr ?_
  have hle:d.cats≤r.high.cats:=by
   have:=(and_self_iff hd.cats hk.high.cats).2 h1.2;rw[← this];exact Nat.and_le_right
  have e:∀ x:Nat,(x:Int)/2^nC=((x/2^nC:Nat):Int):=fun x=>by simp
  rw[e] at b3 ⊢;have h3:r.high.cats/2^nC=0:=by exact_mod_cast b3
  have h4:d.cats/2^nC≤r.high.cats/2^nC:=Nat.div_le_div_right hle;rw[h3] at h4;rw[Nat.eq_zero_of_le_zero h4];rfl
theorem Le(s:ByteArray)(o:List ByteArray):aU [s] o=if kC s=true then (if hasB o s=true then 12 else 0) else 10:=by
 have h:aU [s] o=fW [s] o 0:=by
  show(if fW [s] o 0=0 then 0 else fW [s] o 0)=_;split
  ·rename_i e;exact e.symm
  ·rfl
 rw[h,qv rfl];rfl
theorem zM{x y:ByteArray}:x.toList=y.toList↔x=y:=by
 have:=kZ x y;rw[ak0,beq_iff_eq,decide_eq_true_eq] at this;exact this
theorem Ch{l:List ByteArray}{s:ByteArray}:hasB l s=true↔s∈l:=by
 unfold hasB;rw[ox];constructor
 ·rintro⟨j,-,hj,h⟩;have hj:j<l.length:=by omega
  rw[rP (akU hj),decide_eq_true_eq,zM] at h;exact h▸List.getElem_mem hj
 ·intro h;obtain⟨j,hj⟩:=List.getElem?_of_mem h;exact⟨j,akY _,by have:=(akV.1 hj).1;omega,by rw[rP hj];simp⟩
theorem QH{l o:List ByteArray}{s:ByteArray}:hasB (l++o) s=(hasB l s||hasB o s):=by
 rw[ak0,Bool.or_eq_true];simp only[Ch,List.mem_append]
def xH(ws:ByteArray):Nat→Nat→Nat→List ByteArray
 | 0,_,_=>[]
 | k+1,fr,i=>if bX ws i=32 then ws.extract fr i::xH ws k (i+1) (i+1) else xH ws k fr (i+1)
theorem rY{s ws:ByteArray}:∀ (k fr i:Nat),dS s ws k fr i=true→s∈xH ws k fr i
 | 0,_,_,h=>by cases h
 | k+1,fr,i,h=>by
  unfold dS at h;unfold xH;split at h
  ·rename_i hb;rw[if_pos hb];split at h
   ·rename_i h1;exact List.mem_cons.2 (.inl (zM.1 h1.1).symm)
   ·exact List.mem_cons.2 (.inr (rY k _ _ h))
  ·rename_i hb;rw[if_neg hb];exact rY k _ _ h
def kwL:List ByteArray:=xH Jy Jy.size 0 0
theorem VO{s:ByteArray}(h:eV s=true):s∈kwL:=rY _ _ _ h
theorem uW{f:Nat→Bool}{n:Nat}(h:∀ i,i<n→f i=false):cA f n 0=false:=by
 cases e:cA f n 0 with
 | false=>rfl
 | true=>
  obtain⟨j,-,hj,hf⟩:=(ox _ _).1 e;rw[h j (by omega)] at hf;cases hf
theorem SF{s:ByteArray}(h0:1≤s.size)(h1:s.size≤32)(h2:jy (bX s 0)=false)(h3:∀ i,i<s.size→gG (bX s i)=true∨jy (bX s i)=true):ow s=true:=by
 unfold ow;rw[uW fun i hi=>?_]
 ·simp;omega
 ·unfold j7;rcases h3 i hi with h|h
  ·rw[h];rfl
  ·by_cases e:i=0
   ·subst e;rw[h2] at h;cases h
   ·rw[h];simp[e]
theorem SS(w0:World)(s:ByteArray)(hs:bW s):Calls Tryz.prog 321 #[.string s] w0 (fun r w'=>r=.returned (.bool (ow s))∧akX w0.heap.size w0 w'):=by
 have hs':s.size≤140737488355328:=hs
 have h0:(s.toList == (⟨#[]⟩:ByteArray).toList)=decide (s.size=0):=by
  rw[kZ,decide_eq_decide];exact⟨fun e=>by rw[e];rfl,fun e=>ByteArray.ext (Array.eq_empty_of_size_eq_zero e)⟩
 have hpos:(!(s.toList == (⟨#[]⟩:ByteArray).toList||decide ((32:Int)<(s.size:Int))))=true→∃ h:0<s.size,(s[0]'h).toNat=bX s 0:=fun h=>by
  rw[h0] at h;simp only[ak2,Bool.or_eq_true,Bool.not_eq_true',Bool.or_eq_false_iff,Bool.and_eq_false_iff,decide_eq_true_eq,decide_eq_false_iff_not] at h;have h1:0<s.size:=by omega
  exact⟨h1,eZ h1⟩
 refine bM [] (fn:=Tryz.f321) Tryz.func321 rfl Tryz.ntmps321 rfl<|ei (x:=0)<|ei (x:=bX s 0)<|an (fun h=>⟨rfl,hpos h⟩)<|ei (x:=.int .i32 (bX s 0:Int))<|an (fun h=>fun a w o ho hv=>EY ho (aY hv) u5 u21 (gS s 0))<|cl<|an (fun _=>Bp _ _) fun w1 M1=>an (fun h=>fun M=>⟨rb ?_,M.below⟩) fun h=>?_
 ·cases e:ow s with
  | false=>rfl
  | true=>
   obtain⟨a1,a2,a3,-⟩:=BO e;rw[h0,a3] at h;simp only[ak2,Bool.or_eq_true,Bool.not_eq_true',Bool.or_eq_false_iff,Bool.and_eq_false_iff,decide_eq_true_eq,decide_eq_false_iff_not] at h;rcases h with(h|h)|h
   ·omega
   ·omega
   ·cases h
 have hp:0<s.size∧s.size≤32∧jy (bX s 0)=false:=by
  rw[h0] at h;simp only[ak2,Bool.or_eq_true,Bool.not_eq_true',Bool.or_eq_false_iff,Bool.and_eq_false_iff,decide_eq_true_eq,decide_eq_false_iff_not] at h;exact⟨by omega,by omega,h.2⟩
 refine lr (ι:=Nat) (fun m=>[(20,.int .i64 (m:Int))]) (fun m _=>m≤s.size∧∀ i,i<m→gG (bX s i)=true∨jy (bX s i)=true) (fun m=>s.size-m) 0 (an ⟨⟨rfl,trivial⟩,fun M=>⟨M,akY _,fun i h=>absurd h (Nat.not_lt_zero i)⟩⟩ ?_);rintro m w M ⟨hm,hall⟩;refine an (fun h1=>?_) fun h1=>?_
 ·have hlt:m<s.size:=by simp at h1;omega
  refine ei (x:=m)<|ei (x:=bX s m)<|an ⟨rfl,hlt,eZ hlt⟩<|ei (x:=.int .i32 (bX s m:Int))<|an (fun a w o ho hv=>EY ho (aY hv) u5 u21 (gS s m))<|cl<|an (FQ _ _) fun w2 M2=>cl<|an (fun _=>Bp _ _) fun w3 M3=>an (fun h2=>fun M=>⟨rb ?_,M.below⟩) fun h2=>an (by omega)<|bk (m+1) ⟨rfl,trivial⟩ (fun M=>⟨M,by omega,fun i hi=>?_⟩) (by dsimp only;omega)
  ·cases e:ow s with
   | false=>rfl
   | true=>
    obtain⟨-,-,-,a4⟩:=BO e;rcases a4 m hlt with a|a<;>simp[a] at h2
  ·by_cases e:i=m
   ·subst e;simp at h2;cases ha:gG (bX s i)<;>simp_all
   ·exact hall i (by omega)
 ·have e:m=s.size:=by simp at h1;omega
  subst e;exact fun M=>⟨rb (SF (by omega) hp.2.1 hp.2.2 hall),M.below⟩
theorem GI(w0:World)(x:Nat):Calls Tryz.prog 337 #[.int .i32 (x:Int)] w0 (fun r w'=>r=.returned (.bool (!(decide ((x:Int)<32)||decide ((126:Int)<x)||decide ((x:Int)=34))))∧akX w0.heap.size w0 w'):=by
 refine bM [] (fn:=Tryz.f337) Tryz.func337 rfl Tryz.ntmps337 rfl<|fun M=>⟨rb ?_,M.below⟩
 rw[ak0];simp
theorem Jv(w0:World)(s:ByteArray)(hs:bW s):Calls Tryz.prog 323 #[.string s] w0 (fun r w'=>r=.returned (.bool (dg s))∧akX w0.heap.size w0 w'):=by
 have hs':s.size≤140737488355328:=hs;refine bM [] (fn:=Tryz.f323) Tryz.func323 rfl Tryz.ntmps323 rfl<|an (fun h=>fun M=>⟨rb ?_,M.below⟩) fun h=>?_
 ·unfold dg;simp at h;rw[decide_eq_false (by omega),Bool.and_false]
 have pR:s.size≤256:=by simp at h;omega
 refine lr (ι:=Nat) (fun m=>[(9,.int .i64 (m:Int))]) (fun m _=>m≤s.size∧∀ i,i<m→mB s i=false) (fun m=>s.size-m) 0 (an ⟨⟨rfl,trivial⟩,fun M=>⟨M,akY _,fun i h=>absurd h (Nat.not_lt_zero i)⟩⟩ ?_);rintro m w M ⟨hm,hall⟩;refine an (fun h1=>?_) fun h1=>?_
 ·have hlt:m<s.size:=by simp at h1;omega
  refine ei (x:=m)<|ei (x:=bX s m)<|an ⟨rfl,hlt,eZ hlt⟩<|ei (x:=.int .i32 (bX s m:Int))<|an (fun a w o ho hv=>EY ho (aY hv) u5 u21 (gS s m))<|cl<|an (GI _ _) fun w2 M2=>an (fun h2=>fun M=>⟨rb ?_,M.below⟩) fun h2=>an (by omega)<|bk (m+1) ⟨rfl,trivial⟩ (fun M=>⟨M,by omega,fun i hi=>?_⟩) (by dsimp only;omega)
  ·have hb:mB s m=true:=by rw[Bool.not_not] at h2;exact h2
   unfold dg;rw[(ox _ _).2 ⟨m,akY _,by omega,hb⟩];rfl
  ·by_cases e:i=m
   ·subst e;rw[Bool.not_not] at h2;exact h2
   ·exact hall i (by omega)
 ·have e:m=s.size:=by simp at h1;omega
  subst e;refine fun M=>⟨rb ?_,M.below⟩
  unfold dg;rw[uW hall,decide_eq_true (by omega)];rfl
theorem PY(w0:World)(x:ByteArray)(hx:bW x):Calls Tryz.prog 291 #[.agg #[.int .i64 3,.string x,.int .i64 0,.int .i64 0]] w0 (fun r w'=>r=.returned (.bool (dg x))∧akX w0.heap.size w0 w'):=by
 refine bM [] (fn:=Tryz.f291) Tryz.func291 rfl Tryz.ntmps291 rfl<|fun g1 w1 M1=>lb 0<|an rfl<|an (fun h=>by simp at h) fun _=>an (fun h=>by simp at h) fun _=>an (fun h=>by simp at h) fun _=>an (fun _=>lb 0<|an rfl<|cl<|an (Jv _ _ hx) fun w2 M2=>fun M=>⟨rfl,M.below⟩) fun h=>by simp at h
theorem SV(w0:World)(v:Value)(l:List ByteArray)(h:aN w0 v l)(x:ByteArray):Calls Tryz.prog 327 #[v,.string x] w0 (fun r w'=>∃ z:Int,r=.returned (.int .i64 z)∧(decide (0≤z)=hasB l x∧akX w0.heap.size w0 w')):=by
 obtain⟨_,_,rfl,-,hm5,-⟩:=SliceAt.form h (by decide);refine bM [] (fn:=Tryz.f327) Tryz.func327 rfl Tryz.ntmps327 rfl<|lr (ι:=Nat) (fun m=>[(8,.int .i64 (m:Int))]) (fun m _=>m≤l.length∧∀ j z,j<m→l[j]?=some z→x≠z) (fun m=>l.length-m) 0 (an ⟨⟨rfl,trivial⟩,fun M=>⟨M,akY _,fun j z h=>absurd h (Nat.not_lt_zero j)⟩⟩ ?_);intro m w M ⟨hm,hno⟩;refine an (fun h1=>?_) fun h1 M=>?_
 ·have hlt:m<l.length:=by simp at h1;omega
  obtain⟨y,hy⟩:∃ y,l[m]?=some y:=⟨_,akU hlt⟩;obtain⟨b,o,e,hc⟩:=SliceAt.elt h (fun _=>rfl) (by decide) hy hlt;refine ia<|an ⟨e,rfl,hlt⟩<|lc (x:=.string y)<|an (bZ M.below hc 0 _ rfl)<|?_;refine an (fun h2 M=>⟨m,rfl,?_,M.below⟩) fun h2=>?_
  ·rw[kZ] at h2;obtain rfl:=of_decide_eq_true h2;rw[Ch.2 (List.mem_of_getElem? hy),decide_eq_true (by omega)]
  ·rw[kZ] at h2;have h2:=of_decide_eq_false h2
   exact an (by omega)<|bk (m+1) ⟨rfl,trivial⟩ (fun M=>⟨M,by omega,fun j z hj hz=>by
    by_cases e:j=m
    ·subst e;rw[hy] at hz;obtain rfl:=akZ hz;exact h2
    ·exact hno j z (by omega) hz⟩) (by dsimp only;omega)
 ·have e:m=l.length:=by simp at h1;omega
  subst e;refine⟨-1,rfl,?_,M.below⟩
  cases e:hasB l x with
  | false=>rfl
  | true=>
   obtain⟨j,hj⟩:=List.getElem?_of_mem (Ch.1 e);exact absurd rfl (hno j x (akV.1 hj).1 hj)
theorem Jw(w0:World)(v:Value)(l:List ByteArray)(h:aN w0 v l)(x:ByteArray):Calls Tryz.prog 311 #[v,.string x] w0 (fun r w'=>r=.returned (.bool (hasB l x))∧akX w0.heap.size w0 w'):=by
 obtain⟨_,_,rfl,-⟩:=SliceAt.form h (by decide);refine bM [] (fn:=Tryz.f311) Tryz.func311 rfl Tryz.ntmps311 rfl<|cg (R:=fun v w'=>∃ z:Int,v=.int .i64 z∧decide (0≤z)=hasB l x∧akX w0.heap.size w0 w')<|an ((SV w0 _ l h x).mono fun _ _ ⟨z,h1,h2⟩=>⟨_,h1,z,rfl,h2⟩) fun v w1 ⟨z,e,hz,hb⟩=>⟨[],[],(Mm.start w0).keep hb,?_⟩
 subst e;exact fun M=>⟨rb hz.symm,M.below⟩
theorem GK(w:World)(n:Int):Calls Tryz.prog 330 #[.int .i64 n] w (fun e w'=>e=.returned (.bool (decide (0≤n)&&decide (n<256)))∧akX w.heap.size w w'):=bM [] (fn:=Tryz.f330) Tryz.func330 rfl Tryz.ntmps330 rfl<|fun M=>⟨rfl,M.below⟩
def TK(m:Nat)(x y:aE)(i:Nat):Nat:=if i<m then x.word i&&&y.word i else x.word i
theorem VK(w0:World)(x y:aE)(hx:x.Ok)(hy:y.Ok):Calls Tryz.prog 328 #[.agg #[.int .u64 x.a,.int .u64 x.b,.int .u64 x.c,.int .u64 x.d],.agg #[.int .u64 y.a,.int .u64 y.b,.int .u64 y.c,.int .u64 y.d]] w0 (fun r w'=>r=.returned (.agg #[.int .u64 ((x.and y).a:Nat),.int .u64 ((x.and y).b:Nat),.int .u64 ((x.and y).c:Nat),.int .u64 ((x.and y).d:Nat)])∧akX w0.heap.size w0 w'):=by
 refine bM [] (fn:=Tryz.f328) Tryz.func328 rfl Tryz.ntmps328 rfl<|fun gx w1 M1=>fun gy w2 M2=>ei<|an m_ fun go w3 M3=>lp (ι:=Nat) (fun m=>[(6,.int .i64 (m:Int))]) (fun m=>[(go,77,#[.int .u64 0,.int .u64 0,.int .u64 0,.int .u64 0]),(gy,77,#[.int .u64 y.a,.int .u64 y.b,.int .u64 y.c,.int .u64 y.d]),(gx,77,#[.int .u64 ((TK m x y 0:Nat):Int),.int .u64 ((TK m x y 1:Nat):Int),.int .u64 ((TK m x y 2:Nat):Int),.int .u64 ((TK m x y 3:Nat):Int)])]) (fun _=>[]) (fun m _=>m≤4) (fun m=>4-m) 0 (an ⟨⟨rfl,trivial⟩,fun M=>⟨M,akY _⟩⟩ ?_)
 intro m w M hm;refine an (fun h=>?_) fun h=>?_
 ·have hlt:m<4:=by simp at h;omega
  obtain rfl|rfl|rfl|rfl:m=0∨m=1∨m=2∨m=3:=by omega
  all_goals
   refine dr (by kernel_rfl)<|ei<|an ⟨rfl,by decide⟩<|lb 2<|an rfl<|ei<|an ⟨rfl,by decide⟩<|lb 1<|an rfl<|ei<|an rfl<|ei<|an ⟨rfl,by decide⟩<|fun w hb M=>lb 2<|an ⟨rfl,rfl⟩ fun w M=>an (by omega)<|bk _ ⟨rfl,trivial⟩ (fun M=>⟨M.cast ?_ rfl,by decide⟩) (by decide)
  ·exact congrArg (fun v:Int=>[(_:Bx),_,(gx,77,(#[Value.int .u64 v,_,_,_]:Array Value))]) (bits_and_u64_nat _ _ hx.a hy.a)
  ·exact congrArg (fun v:Int=>[(_:Bx),_,(gx,77,(#[_,Value.int .u64 v,_,_]:Array Value))]) (bits_and_u64_nat _ _ hx.b hy.b)
  ·exact congrArg (fun v:Int=>[(_:Bx),_,(gx,77,(#[_,_,Value.int .u64 v,_]:Array Value))]) (bits_and_u64_nat _ _ hx.c hy.c)
  ·exact congrArg (fun v:Int=>[(_:Bx),_,(gx,77,(#[_,_,_,Value.int .u64 v]:Array Value))]) (bits_and_u64_nat _ _ hx.d hy.d)
 obtain rfl:m=4:=by simp at h;omega
 exact lb 2<|an rfl<|lb 0<|an ⟨rfl,rfl⟩ fun w M=>ei (x:=0)<|an rfl fun M=>⟨rfl,M.below⟩
theorem vm(w0:World)(x y:aE)(hx:x.Ok)(hy:y.Ok):Calls Tryz.prog 312 #[.agg #[.int .u64 x.a,.int .u64 x.b,.int .u64 x.c,.int .u64 x.d],.agg #[.int .u64 y.a,.int .u64 y.b,.int .u64 y.c,.int .u64 y.d]] w0 (fun r w'=>r=.returned (.bool (x.within y))∧akX w0.heap.size w0 w'):=by
 refine bM [] (fn:=Tryz.f312) Tryz.func312 rfl Tryz.ntmps312 rfl<|fun g1 w1 M1=>fun g2 w2 M2=>dr (by kernel_rfl)<|lb 1<|an rfl<|lb 0<|an rfl<|cl<|an (fun w' hb M'=>VK w' x y hx hy)<|lb 1<|an rfl<|ei<|an ⟨sW,fun w=>LC (x.and y) x w⟩<|fun w hb M=>fun M=>⟨rb (H8 hx hy).symm,M.below⟩
theorem GP(w:World)(n:Nat):Calls Tryz.prog 313 #[.int .i64 (n:Int)] w fun e w'=>e=.returned (.agg #[.int .u64 (aE.all n).a,.int .u64 (aE.all n).b,.int .u64 (aE.all n).c,.int .u64 (aE.all n).d])∧akX w.heap.size w w':=by
 refine bM [] (fn:=Tryz.f313) Tryz.func313 rfl Tryz.ntmps313 rfl<|ei<|an m_ fun g1 w1 M1=>ei<|an m_ fun g2 w2 M2=>N9 M2 (v:=.int .i64 (n:Int)) (fun a o ho hv=>(vA ho (aY hv) (cC hv)).trans (by rw[if_neg (by omega)]))<|N9 M2 (v:=.int .i64 ((min n 256:Nat):Int)) (fun a o ho hv=>(Q5 ho (aY hv) (cC hv)).trans (by congr 3;split<;>omega))<|lp (ι:=Nat) (fun k=>[(8,.int .i64 (k:Int))]) (fun k=>[(g2,77,#[.int .u64 (rz k).a,.int .u64 (rz k).b,.int .u64 (rz k).c,.int .u64 (rz k).d]),_]) (fun _=>[]) (fun k _=>k≤min n 256) (fun k=>256-k) 0 (an ⟨⟨rfl,trivial⟩,fun M=>⟨M,akY _⟩⟩ ?_)
 intro k w M hk;refine an (fun h=>?_) fun h=>?_
 ·simp only[decide_eq_true_eq] at h;exact lb 0<|an rfl<|cl<|an (XQ _ (rz k) (wh k) k) fun w4 M4=>lb 0<|an ⟨rfl,rfl⟩ fun w5 M5=>an (by omega)<|bk (k+1) ⟨rfl,trivial⟩ (fun M=>⟨M,by omega⟩) (by dsimp only;omega)
 ·obtain rfl:k=min n 256:=by
   rw[decide_eq_false_iff_not] at h;omega
  exact lb 0<|an rfl<|lb 1<|an ⟨rfl,rfl⟩ fun w M=>ei (x:=1)<|an rfl fun M=>⟨rfl,M.below⟩
theorem Qg(w:World)(a b:iL)(ha:a.Ok)(hb:b.Ok):Calls Tryz.prog 316 #[.agg #[.int .i64 a.ak,.int .u64 a.cats],.agg #[.int .i64 b.ak,.int .u64 b.cats]] w fun e w'=>e=.returned (.bool (jY a b))∧akX w.heap.size w w':=by
 refine bM [] (fn:=Tryz.f316) Tryz.func316 rfl Tryz.ntmps316 rfl<|fun g1 w1 M1=>fun g2 w2 M2=>lb 1<|an rfl<|lb 0<|an rfl<|lb 1<|an (fun _=>rfl)<|lb 0<|an (fun _=>rfl)<|ei (x:=((a.cats&&&b.cats:Nat):Int))<|an (fun _=>bits_and_u64_nat _ _ ha.cats hb.cats)<|lb 0<|an (fun _=>rfl)<|fun M=>⟨rb ?_,M.below⟩
 rw[← Tx ha hb];congr 1;rw[decide_eq_decide];omega
theorem Ll(w:World)(l:iL)(nS nC:Nat)(hl:l.Ok):Calls Tryz.prog 331 #[.agg #[.int .i64 l.ak,.int .u64 l.cats],.int .i64 (nS:Int),.int .i64 (nC:Int)] w fun e w'=>e=.returned (.bool (iH nS nC l))∧akX w.heap.size w w':=by
 refine bM [] (fn:=Tryz.f331) Tryz.func331 rfl Tryz.ntmps331 rfl<|fun g1 w1 M1=>lb 0<|an rfl<|lb 0<|an (fun _=>rfl)<|an (fun h=>fun M=>⟨rb ?_,M.below⟩) fun h=>an (fun h2=>fun M=>⟨rb ?_,M.below⟩) fun h2=>?_
 ·unfold iH aF;simp at h
  cases e:(decide (0≤l.ak)&&decide (l.ak<(nS:Int))) with
  | false=>rfl
  | true=>simp at e;omega
 ·have hb:aF l.ak (nS:Int)=true:=by unfold aF;simp at h ⊢;omega
  unfold iH;rw[hb,h2];rfl
 ·have hb:aF l.ak (nS:Int)=true:=by unfold aF;simp at h ⊢;omega
  have h3:nC<64:=by simp at h2;omega
  refine lb 0<|an rfl<|N9 M1 (v:=.int .i64 (nC:Int)) (fun a o ho hv=>(vA ho (aY hv) (cC hv)).trans (by rw[if_neg (by omega)]))<|ei (x:=.int .u64 ((l.cats:Int)/2^nC))<|an (fun a w o ho hv=>(sZ ho (aY hv) (cC hv) (by omega) (show(nC:Int)≤((64:Nat):Int) by omega)).trans (by rw[Int.toNat_natCast]))<|fun M=>⟨rb ?_,M.below⟩
  unfold iH;rw[hb,decide_eq_false (by omega)];rfl
theorem Lj(w:World)(r:mS)(nS nC:Nat)(hr:r.Ok):Calls Tryz.prog 315 #[.agg #[.int .i64 r.low.ak,.int .u64 r.low.cats,.int .i64 r.high.ak,.int .u64 r.high.cats],.int .i64 (nS:Int),.int .i64 (nC:Int)] w fun e w'=>e=.returned (.bool (gE nS nC r))∧akX w.heap.size w w':=by
 refine bM [] (fn:=Tryz.f315) Tryz.func315 rfl Tryz.ntmps315 rfl<|fun g1 w1 M1=>lb 0<|an rfl<|cl<|an (Ll _ r.low nS nC hr.low) fun w2 M2=>lb 0<|an (fun _=>rfl)<|cl<|an (fun _=>Ll _ r.high nS nC hr.high) fun w3 M3=>lb 0<|an (fun _=>rfl)<|lb 0<|an (fun _=>rfl)<|cl<|an (fun _=>Qg _ r.high r.low hr.high hr.low) fun w4 M4=>fun M=>⟨rfl,M.below⟩
theorem zV(w:World)(a b:mS)(ha:a.Ok)(hb:b.Ok):Calls Tryz.prog 279 #[.agg #[.int .i64 a.low.ak,.int .u64 a.low.cats,.int .i64 a.high.ak,.int .u64 a.high.cats],.agg #[.int .i64 b.low.ak,.int .u64 b.low.cats,.int .i64 b.high.ak,.int .u64 b.high.cats]] w fun e w'=>e=.returned (.bool (jY b.low a.low&&jY a.high b.high))∧akX w.heap.size w w':=by
 refine bM [] (fn:=Tryz.f279) Tryz.func279 rfl Tryz.ntmps279 rfl<|fun g1 w1 M1=>fun g2 w2 M2=>lb 0<|an rfl<|lb 1<|an rfl<|cl<|an (Qg _ b.low a.low hb.low ha.low) fun w3 M3=>lb 1<|an (fun _=>rfl)<|lb 0<|an (fun _=>rfl)<|cl<|an (fun _=>Qg _ a.high b.high ha.high hb.high) fun w4 M4=>fun M=>⟨rfl,M.below⟩
theorem Qf(w0:World)(s:aE)(hs:s.Ok)(n:Int):Calls Tryz.prog 314 #[.agg #[.int .u64 s.a,.int .u64 s.b,.int .u64 s.c,.int .u64 s.d],.int .i64 n] w0 fun e w'=>e=.returned (.bool (s.mem n))∧akX w0.heap.size w0 w':=by
 by_cases h:0≤n∧n<256
 ·obtain⟨q,r,hq,hr,rfl⟩:=lu h;rw[sP hq hr];rcases(show q=0∨q=1∨q=2∨q=3 by omega) with rfl|rfl|rfl|rfl
  all_goals
   refine bM [] (fn:=Tryz.f314) Tryz.func314 rfl Tryz.ntmps314 rfl<|fun g1 w1 M1=>cl<|an (GK _ _) fun w2 M2=>ei<|an (fun _ a w o ho hv=>sJ hq hr ho (aY hv) (cC hv))<|ei<|an (fun _=>⟨rfl,by decide⟩)<|lb 0<|an (fun _=>rfl)<|ei<|an (fun _ a w o ho hv=>Sl hr ho (aY hv) (cC hv))<|ei<|an (fun _ a w o ho hv=>sZ ho (aY hv) (cC hv) (by omega) (show(r:Int)≤((64:Nat):Int) by omega))<|ei<|an (fun _=>rfl)<|fun M=>⟨rb ?_,M.below⟩
   rw[decide_eq_true h.1,decide_eq_true h.2,Bool.true_and,Bool.true_and,Int.toNat_natCast,← R7 (aE.Ak hs _)];rfl
 ·have hno:(decide (0≤n)&&decide (n<256))=false:=by
   rw[Bool.and_eq_false_iff,decide_eq_false_iff_not,decide_eq_false_iff_not];omega
  refine bM [] (fn:=Tryz.f314) Tryz.func314 rfl Tryz.ntmps314 rfl<|fun g1 w1 M1=>cl<|an (GK _ _) fun w2 M2=>ei (x:=.int .i64 0)<|an (fun h2=>absurd h2 (by rw[hno];decide))<|ei (x:=0)<|an (fun h2=>⟨rfl,by decide⟩)<|lb 0<|an (fun _=>rfl)<|ei (x:=.int .i64 0)<|an (fun h2=>absurd h2 (by rw[hno];decide))<|ei (x:=.int .u64 0)<|an (fun h2=>absurd h2 (by rw[hno];decide))<|ei<|an (fun _=>rfl)<|fun M=>⟨rb ?_,M.below⟩
  rw[show s.mem n=false by unfold aE.mem;rw[decide_eq_false h];rfl,hno];rfl
theorem lC(w:World)(s:aE):Calls Tryz.prog 285 #[.agg #[.int .u64 s.a,.int .u64 s.b,.int .u64 s.c,.int .u64 s.d]] w fun e w'=>e=.returned (.bool (!bD s))∧akX w.heap.size w w':=by
 refine bM [] (fn:=Tryz.f285) Tryz.func285 rfl Tryz.ntmps285 rfl<|fun g1 w1 M1=>lb 0<|an rfl<|ei (x:=.agg #[.int .u64 0,.int .u64 0,.int .u64 0,.int .u64 0])<|an (bd (by kernel_rfl))<|ei<|an ⟨sW,fun w=>dN s w⟩<|fun M=>⟨rb (by unfold bD;rw[Bool.not_not]),M.below⟩
structure aD.Md (p:aD):Prop where
 tn:(bh p.types).length≤100000
 bools:p.bools.length≤100000
 lev:∀ e∈p.conds,aL 13 e≤12
 abG:∀ y∈p.cons,aL 13 y.expr≤12
theorem qX(w0:World)(c0 c1 c2 c3 c4 c5 c6 c7 c8 c9 c10 c11 c12 c13 c14 c15 c16:Value)(p:aD)(hp:aA w0 c0 c1 c2 c3 c4 c5 c6 c7 c8 c9 c10 c11 c12 c13 c14 c15 c16 p)(s:aE)(hs:s.Ok):Calls Tryz.prog 276 #[.agg #[c0,c1,c2,c3,c4,c5,c6,c7,c8,c9,c10,c11,c12,c13,c14,c15,c16],.agg #[.int .u64 s.a,.int .u64 s.b,.int .u64 s.c,.int .u64 s.d]] w0 (fun r w'=>r=.returned (.bool (s.within (aE.all p.types.length)))∧akX w0.heap.size w0 w'):=by
 obtain⟨_,_,_,_,_,_,_,_,_,_,_,_,_,_,_,_,_,_,_,_,_,_,_,_,_,_,_,_,_,_,_,_,_,_,rfl,rfl,rfl,rfl,rfl,rfl,rfl,rfl,rfl,rfl,rfl,rfl,rfl,rfl,rfl,rfl,rfl⟩:=hp.open;refine bM [] (fn:=Tryz.f276) Tryz.func276 rfl Tryz.ntmps276 rfl<|fun g1 w1 M1=>fun g2 w2 M2=>dr (by kernel_rfl)<|lb 0<|an rfl<|lb 1<|an rfl<|cl<|an (fun w' hb M'=>GP w' _)<|cl<|an (fun w' hb M'=>vm w' s _ hs (jZ _))<|fun w hb M=>fun M=>⟨rfl,M.below⟩
theorem BU(w0:World)(c0 c1 c2 c3 c4 c5 c6 c7 c8 c9 c10 c11 c12 c13 c14 c15 c16:Value)(p:aD)(hp:aA w0 c0 c1 c2 c3 c4 c5 c6 c7 c8 c9 c10 c11 c12 c13 c14 c15 c16 p)(s:aE)(hs:s.Ok):Calls Tryz.prog 277 #[.agg #[c0,c1,c2,c3,c4,c5,c6,c7,c8,c9,c10,c11,c12,c13,c14,c15,c16],.agg #[.int .u64 s.a,.int .u64 s.b,.int .u64 s.c,.int .u64 s.d]] w0 (fun r w'=>r=.returned (.bool (kf p.roles.length s))∧akX w0.heap.size w0 w'):=by
 obtain⟨_,_,_,_,_,_,_,_,_,_,_,_,_,_,_,_,_,_,_,_,_,_,_,_,_,_,_,_,_,_,_,_,_,_,rfl,rfl,rfl,rfl,rfl,rfl,rfl,rfl,rfl,rfl,rfl,rfl,rfl,rfl,rfl,rfl,rfl⟩:=hp.open;refine bM [] (fn:=Tryz.f277) Tryz.func277 rfl Tryz.ntmps277 rfl<|fun g1 w1 M1=>fun g2 w2 M2=>dr (by kernel_rfl)<|lb 0<|an rfl<|lb 1<|an rfl<|cl<|an (fun w' hb M'=>GP w' _)<|cl<|an (fun w' hb M'=>vm w' s _ hs (jZ _))<|lb 0<|an (fun _=>rfl)<|cl<|an (fun _ w' hb M'=>Qf w' s hs 0)<|fun w hb M=>fun M=>⟨rb (Mr hs).symm,M.below⟩
theorem GH(w0:World)(c0 c1 c2 c3 c4 c5 c6 c7 c8 c9 c10 c11 c12 c13 c14 c15 c16:Value)(p:aD)(hp:aA w0 c0 c1 c2 c3 c4 c5 c6 c7 c8 c9 c10 c11 c12 c13 c14 c15 c16 p)(r:mS)(hr:r.Ok):Calls Tryz.prog 278 #[.agg #[c0,c1,c2,c3,c4,c5,c6,c7,c8,c9,c10,c11,c12,c13,c14,c15,c16],.agg #[.int .i64 r.low.ak,.int .u64 r.low.cats,.int .i64 r.high.ak,.int .u64 r.high.cats]] w0 (fun e w'=>e=.returned (.bool (gE p.ak.length p.cats.length r))∧akX w0.heap.size w0 w'):=by
 obtain⟨_,_,_,_,_,_,_,_,_,_,_,_,_,_,_,_,_,_,_,_,_,_,_,_,_,_,_,_,_,_,_,_,_,_,rfl,rfl,rfl,rfl,rfl,rfl,rfl,rfl,rfl,rfl,rfl,rfl,rfl,rfl,rfl,rfl,rfl⟩:=hp.open;refine bM [] (fn:=Tryz.f278) Tryz.func278 rfl Tryz.ntmps278 rfl<|fun g1 w1 M1=>fun g2 w2 M2=>lb 0<|an rfl<|lb 1<|an rfl<|lb 1<|an rfl<|cl<|an (Lj _ r _ _ hr) fun w3 M3=>fun M=>⟨rfl,M.below⟩
theorem yx(w0:World)(c0 c1 c2 c3 c4 c5 c6 c7 c8 c9 c10 c11 c12 c13 c14 c15 c16:Value)(p:aD)(hp:aA w0 c0 c1 c2 c3 c4 c5 c6 c7 c8 c9 c10 c11 c12 c13 c14 c15 c16 p)(n:Int):Calls Tryz.prog 287 #[.agg #[c0,c1,c2,c3,c4,c5,c6,c7,c8,c9,c10,c11,c12,c13,c14,c15,c16],.int .i64 n] w0 (fun e w'=>e=.returned (.bool (aF n (p.classes.length:Int)))∧akX w0.heap.size w0 w'):=by
 obtain⟨_,_,_,_,_,_,_,_,_,_,_,_,_,_,_,_,_,_,_,_,_,_,_,_,_,_,_,_,_,_,_,_,_,_,rfl,rfl,rfl,rfl,rfl,rfl,rfl,rfl,rfl,rfl,rfl,rfl,rfl,rfl,rfl,rfl,rfl⟩:=hp.open;refine bM [] (fn:=Tryz.f287) Tryz.func287 rfl Tryz.ntmps287 rfl<|fun g1 w1 M1=>lb 0<|an (fun _=>rfl)<|fun M=>⟨rb ?_,M.below⟩
 unfold aF;congr 1
theorem GF(w0:World)(c0 c1 c2 c3 c4 c5 c6 c7 c8 c9 c10 c11 c12 c13 c14 c15 c16:Value)(p:aD)(hp:aA w0 c0 c1 c2 c3 c4 c5 c6 c7 c8 c9 c10 c11 c12 c13 c14 c15 c16 p)(c v:Int)(hv:z_ v)(hcl:∀ y∈p.classes,y.perms.length≤64):Calls Tryz.prog 283 #[.agg #[c0,c1,c2,c3,c4,c5,c6,c7,c8,c9,c10,c11,c12,c13,c14,c15,c16],.int .i64 c,.int .u32 v] w0 (fun e w'=>e=.returned (.bool (eM p.classes c v))∧akX w0.heap.size w0 w'):=by
 have hp':=hp;obtain⟨_,_,_,_,_,_,_,_,_,_,_,_,_,_,_,_,_,_,_,_,_,_,_,_,_,_,_,_,_,_,_,_,_,_,rfl,rfl,rfl,rfl,rfl,rfl,rfl,rfl,rfl,rfl,rfl,rfl,rfl,rfl,rfl,rfl,rfl⟩:=hp.open;by_cases hb:aF c (p.classes.length:Int)=true
 ·obtain⟨h0,h1⟩:=dZ.1 hb;obtain⟨i,rfl⟩:=Int.eq_ofNat_of_zero_le h0;have hlt:i<p.classes.length:=by omega
  obtain⟨y,hy⟩:∃ y,p.classes[i]?=some y:=⟨_,akU hlt⟩;obtain⟨b,o,_,e,⟨pv,rfl,Uk⟩,hc⟩:=aj.elt hp.classes (by decide) hy;obtain⟨va,vc,rfl,-⟩:=aN.get Uk;have h64:=hcl y (List.mem_of_getElem? hy);obtain⟨n,rfl⟩:∃ n:Nat,v=(n:Int):=⟨v.toNat,by have:=hv;unfold z_ at this;omega⟩;refine bM [] (fn:=Tryz.f283) Tryz.func283 rfl Tryz.ntmps283 rfl<|fun g1 w1 M1=>lb 0<|an rfl<|cl<|an (yx _ _ _ _ _ _ _ _ _ _ _ _ _ _ _ _ _ _ p (hp'.keep M1.below) _) fun w2 M2=>ei (x:=.int .u64 (n:Int))<|an (fun _ a w o ho hv'=>(eI ho (aY hv') Ib zL).trans (by rw[Bg (by unfold z_ at hv;unfold fA;omega)]))<|lb 0<|an (fun _=>rfl)<|ia<|an (fun _=>⟨e,rfl,hlt⟩)<|lc<|an (fun _=>bZ M2.below hc 1 _ rfl)<|ei (x:=.int .u64 ((n:Int)/2^y.perms.length))<|an (fun _ a w o ho hv=>(sZ ho (aY hv) (cC hv) (by omega) (show(y.perms.length:Int)≤((64:Nat):Int) by omega)).trans (by rw[Int.toNat_natCast]))<|fun M=>⟨rb ?_,M.below⟩
  rw[hb];unfold eM;rw[if_pos h0,Int.toNat_natCast,hy];dsimp only;rw[Bool.true_and];by_cases Lv:32≤y.perms.length
  ·rw[decide_eq_true (show(32:Int)≤_ by omega),Bool.true_or];have:n/2^y.perms.length=0:=Nat.div_eq_of_lt (Nat.lt_of_lt_of_le (by have:=hv;unfold z_ at this;omega:n<2^32) (Nat.pow_le_pow_right (by decide) Lv));refine(decide_eq_true ?_).symm;have e:(n:Int)/2^y.perms.length=((n/2^y.perms.length:Nat):Int):=by simp
   rw[e,this];rfl
  ·rw[decide_eq_false (show ¬ (32:Int)≤_ by omega),Bool.false_or]
 ·have hb':aF c (p.classes.length:Int)=false:=by simpa using hb
  refine bM [] (fn:=Tryz.f283) Tryz.func283 rfl Tryz.ntmps283 rfl<|fun g1 w1 M1=>lb 0<|an rfl<|cl<|an (yx _ _ _ _ _ _ _ _ _ _ _ _ _ _ _ _ _ _ p (hp'.keep M1.below) _) fun w2 M2=>ei (x:=.int .u64 0)<|an (fun h=>absurd h hb)<|lb 0<|an (fun _=>rfl)<|ia (b:=0) (off:=0) (i:=0)<|an (fun h=>absurd h hb)<|lc (x:=.slice none 0 0)<|an (fun h=>absurd h hb)<|ei (x:=.int .u64 0)<|an (fun h=>absurd h hb)<|fun M=>⟨rb ?_,M.below⟩
  rw[hb',rJ hb'];rfl
theorem Qh(w0:World)(c0 c1 c2 c3 c4 c5 c6 c7 c8 c9 c10 c11 c12 c13 c14 c15 c16:Value)(p:aD)(hp:aA w0 c0 c1 c2 c3 c4 c5 c6 c7 c8 c9 c10 c11 c12 c13 c14 c15 c16 p)(k:Int):Calls Tryz.prog 284 #[.agg #[c0,c1,c2,c3,c4,c5,c6,c7,c8,c9,c10,c11,c12,c13,c14,c15,c16],.int .i64 k] w0 (fun e w'=>e=.returned (.bool (lX p.conds.length k))∧akX w0.heap.size w0 w'):=by
 obtain⟨_,_,e8,-,Xw,-⟩:=aj.form hp.conds (by decide);obtain⟨_,_,_,_,_,_,_,_,_,_,_,_,_,_,_,_,_,_,_,_,_,_,_,_,_,_,_,_,_,_,_,_,_,_,rfl,rfl,rfl,rfl,rfl,rfl,rfl,rfl,rfl,rfl,rfl,rfl,rfl,rfl,rfl,rfl,rfl⟩:=hp.open;refine bM [] (fn:=Tryz.f284) Tryz.func284 rfl Tryz.ntmps284 rfl<|fun g1 w1 M1=>lb 0<|an rfl<|an (by omega)<|lb 0<|an (fun _=>rfl)<|fun M=>⟨rb ?_,M.below⟩
 unfold lX;rw[ak0];simp
theorem Qa(w0:World)(s:ByteArray)(hs:bW s):Calls Tryz.prog 288 #[.string s] w0 (fun r w'=>r=.returned (.bool (cR s))∧akX w0.heap.size w0 w'):=by
 have hs':s.size≤140737488355328:=hs
 have h0:(s.toList == (⟨#[]⟩:ByteArray).toList)=decide (s.size=0):=by
  rw[kZ,decide_eq_decide];exact⟨fun e=>by rw[e];rfl,fun e=>ByteArray.ext (Array.eq_empty_of_size_eq_zero e)⟩
 refine bM [] (fn:=Tryz.f288) Tryz.func288 rfl Tryz.ntmps288 rfl<|lr (ι:=Nat) (fun m=>[(6,.int .i64 (m:Int))]) (fun m _=>m≤s.size∧∀ i,i<m→jf s i=false) (fun m=>s.size-m) 0 (an ⟨⟨rfl,trivial⟩,fun M=>⟨M,akY _,fun i h=>absurd h (Nat.not_lt_zero i)⟩⟩ ?_);rintro m w M ⟨hm,hall⟩;refine an (fun h1=>?_) fun h1=>?_
 ·have hlt:m<s.size:=by simp at h1;omega
  have hb:jf s m=(((decide ((bX s m:Int)<33)||decide ((126:Int)<bX s m))||decide ((bX s m:Int)=47))||decide ((bX s m:Int)=34)):=by
   unfold jf;rw[Bool.or_assoc,Bool.or_comm (decide ((bX s m:Int)=34)),← Bool.or_assoc]
  refine ei (x:=m)<|ei (x:=bX s m)<|an ⟨rfl,hlt,eZ hlt⟩<|ei (x:=m)<|ei (x:=bX s m)<|an (fun _=>⟨rfl,hlt,eZ hlt⟩)<|ei (x:=m)<|ei (x:=bX s m)<|an (fun _=>⟨rfl,hlt,eZ hlt⟩)<|ei (x:=m)<|ei (x:=bX s m)<|an (fun _=>⟨rfl,hlt,eZ hlt⟩)<|an (fun h2=>fun M=>⟨rb ?_,M.below⟩) fun h2=>an (by omega)<|bk (m+1) ⟨rfl,trivial⟩ (fun M=>⟨M,by omega,fun i hi=>?_⟩) (by dsimp only;omega)
  ·unfold cR;rw[(ox _ _).2 ⟨m,akY _,by omega,hb.trans h2⟩];rfl
  ·by_cases e:i=m
   ·subst e;exact hb.trans h2
   ·exact hall i (by omega)
 ·have e:m=s.size:=by simp at h1;omega
  subst e;refine fun M=>⟨rb ?_,M.below⟩
  unfold cR;rw[uW hall,h0,ak0];simp only[Bool.not_false,Bool.true_and,ak2,Bool.not_eq_true',decide_eq_true_eq,decide_eq_false_iff_not];omega
theorem vk{l o:List ByteArray}{s:ByteArray}{i:Nat}(h:l[i]?=some s):fW l o i=aU [s] (o++l.take i):=by
 rw[qv h,Le,QH];cases hasB (l.take i) s<;>cases hasB o s<;>rfl
end Go.Proofs.YtkkmjdceiocnbaaGreatDoor

import Derived.Test.YtkkmjdceiocnbaaGreatDoorSX8
open Go.RowKit renaming Below→ajL
open List renaming length_append→ajD,getElem?_eq_getElem→ajF,mem_of_getElem?→ajG,flatMap_append→ajH,take_length→ajI,mem_cons_self→ajJ,mem_cons_of_mem→ajK,mem_append→ajM,all_eq_true→ajN
open Nat renaming zero_le→ajE
set_option maxRecDepth 100000
set_option maxHeartbeats 8000000
set_option linter.unusedSectionVars false
set_option linter.unusedSimpArgs false
set_option linter.unusedVariables false
namespace Go.Proofs.YtkkmjdceiocnbaaGreatDoor
open Go Go.RowKit
section
variable {W:Nat} {w0 w:World} {bs:List Bx} {rs:List Rw} {v1:Value} {v:Nat} {xs:List Nat}
def Rj(v:Nat)(p:aA):List Nat:=eL gT p.classes++(eL (eTyp v) p.types++(eL gU p.attrs++(eL gQ p.roles++(eL gM p.users++(eL fN p.bools++(eL eS p.ay++(eL eS p.cats++(eL eE p.conds))))))))
theorem Jd{p:aA}{c0 c1 c2 c3 c4 c5 c6 c7 c8 c9 c10 c11 c12 c13 c14 c15 c16:Value}(hp:aD w0 c0 c1 c2 c3 c4 c5 c6 c7 c8 c9 c10 c11 c12 c13 c14 c15 c16 p)(hok:p.Ok)(M:Mm w0 w (fA W v1 (v:Int)::bs) (aH v1 xs::rs))(hb:xs.length+(Rj v p).length+700≤aF):
 Calls Tryz.prog 130 #[.pointer (some ⟨W,0,none⟩),.agg #[c0,c1,c2,c3,c4,c5,c6,c7,c8,c9,c10,c11,c12,c13,c14,c15,c16]] w (Ee w0.heap.size w0 bs rs W (v:Int) (xs++Rj v p)):=by
 obtain⟨a0,a1,a2,a3,a4,a5,a6,a7,a8,a9,nr,mH,a12,mF,mE,og,n_,k0,k1,k2,k3,k4,k5,k6,k7,k8,k9,k10,k11,k12,k13,k14,k15,k16,rfl,rfl,rfl,rfl,rfl,rfl,rfl,rfl,rfl,rfl,rfl,rfl,rfl,rfl,rfl,rfl,rfl⟩:=hp.open;have hl:(Rj v p).length=(eL gT p.classes).length+((eL (eTyp v) p.types).length+((eL gU p.attrs).length+((eL gQ p.roles).length+((eL gM p.users).length+((eL fN p.bools).length+((eL eS p.ay).length+((eL eS p.cats).length+((eL eE p.conds).length)))))))):=by unfold Rj;simp only[ajD]
 have hL0:(eL gT p.classes).length=(eN (p.classes.length:Int)).length+(p.classes.flatMap gT).length:=by unfold eL;rw[ajD]
 have hN0:=aG (p.classes.length:Int);have hB0:p.classes.length≤9223372036854775807:=by obtain⟨_,_,_,_,h,_⟩:=au.form hp.classes (by decide);exact h
 have hL1:(eL (eTyp v) p.types).length=(eN (p.types.length:Int)).length+(p.types.flatMap (eTyp v)).length:=by unfold eL;rw[ajD]
 have hN1:=aG (p.types.length:Int);have hB1:p.types.length≤9223372036854775807:=by obtain⟨_,_,_,_,h,_⟩:=au.form hp.types (by decide);exact h
 have hL2:(eL gU p.attrs).length=(eN (p.attrs.length:Int)).length+(p.attrs.flatMap gU).length:=by unfold eL;rw[ajD]
 have hN2:=aG (p.attrs.length:Int);have hB2:p.attrs.length≤9223372036854775807:=by obtain⟨_,_,_,_,h,_⟩:=SliceAt.form hp.attrs (by decide);exact h
 have hL3:(eL gQ p.roles).length=(eN (p.roles.length:Int)).length+(p.roles.flatMap gQ).length:=by unfold eL;rw[ajD]
 have hN3:=aG (p.roles.length:Int);have hB3:p.roles.length≤9223372036854775807:=by obtain⟨_,_,_,_,h,_⟩:=SliceAt.form hp.roles (by decide);exact h
 have hL4:(eL gM p.users).length=(eN (p.users.length:Int)).length+(p.users.flatMap gM).length:=by unfold eL;rw[ajD]
 have hN4:=aG (p.users.length:Int);have hB4:p.users.length≤9223372036854775807:=by obtain⟨_,_,_,_,h,_⟩:=SliceAt.form hp.users (by decide);exact h
 have hL5:(eL fN p.bools).length=(eN (p.bools.length:Int)).length+(p.bools.flatMap fN).length:=by unfold eL;rw[ajD]
 have hN5:=aG (p.bools.length:Int);have hB5:p.bools.length≤9223372036854775807:=by obtain⟨_,_,_,_,h,_⟩:=SliceAt.form hp.bools (by decide);exact h
 have hL6:(eL eS p.ay).length=(eN (p.ay.length:Int)).length+(p.ay.flatMap eS).length:=by unfold eL;rw[ajD]
 have hN6:=aG (p.ay.length:Int);have hL7:(eL eS p.cats).length=(eN (p.cats.length:Int)).length+(p.cats.flatMap eS).length:=by unfold eL;rw[ajD]
 have hN7:=aG (p.cats.length:Int);have hL8:(eL eE p.conds).length=(eN (p.conds.length:Int)).length+(p.conds.flatMap eE).length:=by unfold eL;rw[ajD]
 have hN8:=aG (p.conds.length:Int);have hB8:p.conds.length≤9223372036854775807:=by obtain⟨_,_,_,_,h,_⟩:=au.form hp.conds (by decide);exact h
 refine bY M [] (fn:=Tryz.f130) Tryz.func130 rfl Tryz.ntmps130 rfl<|fun g1 w1 M1=>?_
 refine lb 0<|an rfl<|dS (l:=xs++eN (p.classes.length:Int)) 1 M1 rfl (fun M=>aX (n:=(p.classes.length:Int)) M (by(try simp only[ajD]);omega)) fun v1 w1 M1=>lp (ι:=Nat×Value) (fun z=>[(4,.int .i64 (z.1:Int))]) (fun z=>(g1,39,#[.slice a0 p.classes.length k0,.slice a1 p.types.length k1,.slice a2 p.attrs.length k2,.slice a3 p.roles.length k3,.slice a4 p.users.length k4,.slice a5 p.bools.length k5,.slice a6 p.ay.length k6,.slice a7 p.cats.length k7,.slice a8 p.conds.length k8,.slice a9 p.rules.length k9,.slice nr p.trans.length k10,.slice mH p.ak.length k11,.slice a12 p.ranges.length k12,.slice mF p.cons.length k13,.slice mE p.aN.length k14,.slice og p.files.length k15,.slice n_ p.asserts.length k16])::fA W z.2 (v:Int)::bs) (fun z=>aH z.2 (xs++(eN (p.classes.length:Int)++(p.classes.take z.1).flatMap gT))::rs) (fun z _=>z.1≤p.classes.length) (fun z=>p.classes.length-z.1) (0,v1)<|an ⟨⟨rfl,trivial⟩,fun M=>⟨M.cast rfl (by simp),ajE _⟩⟩ ?_
 rintro⟨j,u2⟩ w2 M2 hj;have hj:j≤p.classes.length:=hj;refine lb 0<|an rfl<|an (fun h=>?_) fun h=>?_
 ·have hlt:j<p.classes.length:=Int.ofNat_lt.1 (of_decide_eq_true h);obtain⟨y,hy⟩:∃ y,p.classes[j]?=some y:=⟨_,ajF hlt⟩;have fB:=cS gT hy;have gY:=ajG hy;have mP:=hok.classes y gY;have JW:(gT y).length=(eS y.name).length+((eL eS y.perms).length):=by unfold gT;simp only[ajD]
  have gZ:(xs++(eN (p.classes.length:Int)++(p.classes.take j).flatMap gT)).length+(gT y).length+300≤aF:=by simp only[ajD];omega
  simp only[ajD] at gZ;obtain⟨b,off,x,e1,hx,hc⟩:=au.elt hp.classes (by decide) hy;obtain⟨pv,rfl,hl2⟩:=hx;have MS:=hl2;obtain⟨pa,pc,rfl,-⟩:=aJ.get MS;exact lb 0<|an rfl<|ia<|an ⟨e1,rfl,hlt⟩<|lc (x:=.string y.name)<|an (cL M2.below hc 0 _ rfl)<|dS 1 M2 rfl (fun M=>lR (s:=y.name) M (by(try simp only[ajD]);omega)) fun v3 w3 M3=>lb 0<|an rfl<|ia<|an ⟨e1,rfl,hlt⟩<|lc (x:=.slice pa _ pc)<|an (cL M3.below hc 1 _ rfl)<|dS 1 M3 rfl (fun M=>vY M hl2 (by(try simp only[ajD]);omega)) fun v4 w4 M4=>an (by omega)<|bk (j+1,_) ⟨rfl,trivial⟩ (fun M=>⟨(M.only (.refl _) (.refl _)).cast rfl (by rw[List.take_add_one,hy,ajH,Option.toList_some,List.flatMap_cons,List.flatMap_nil,List.append_nil,gT];simp only[List.append_assoc,List.append_nil,List.nil_append]),hlt⟩) (by dsimp only;omega)
 have hge:j=p.classes.length:=Nat.le_antisymm hj (Nat.le_of_not_lt fun h2=>of_decide_eq_false h (Int.ofNat_lt.2 h2));subst hge;obtain⟨s0,hs0⟩:∃ a,a=xs++eL gT p.classes:=⟨_,rfl⟩;have hS0:s0.length=xs.length+(eL gT p.classes).length:=by rw[hs0,ajD]
 have Nc:xs++(eN (p.classes.length:Int)++(p.classes.take p.classes.length).flatMap gT)=s0:=by rw[ajI,hs0];rfl
 have hU0:=congrArg List.length Nc;simp only[ajD] at hU0;refine lb 0<|an rfl<|dS (l:=s0++eN (p.types.length:Int)) 1 M2 rfl (fun M=>by rw[← Nc];exact aX (n:=(p.types.length:Int)) M (by(try simp only[ajD]);omega)) fun v5 w5 M5=>lp (ι:=Nat×Value) (fun z=>[(5,.int .i64 (z.1:Int))]) (fun z=>(g1,39,#[.slice a0 p.classes.length k0,.slice a1 p.types.length k1,.slice a2 p.attrs.length k2,.slice a3 p.roles.length k3,.slice a4 p.users.length k4,.slice a5 p.bools.length k5,.slice a6 p.ay.length k6,.slice a7 p.cats.length k7,.slice a8 p.conds.length k8,.slice a9 p.rules.length k9,.slice nr p.trans.length k10,.slice mH p.ak.length k11,.slice a12 p.ranges.length k12,.slice mF p.cons.length k13,.slice mE p.aN.length k14,.slice og p.files.length k15,.slice n_ p.asserts.length k16])::fA W z.2 (v:Int)::bs) (fun z=>aH z.2 (s0++(eN (p.types.length:Int)++(p.types.take z.1).flatMap (eTyp v)))::rs) (fun z _=>z.1≤p.types.length) (fun z=>p.types.length-z.1) (0,v5)<|an ⟨⟨rfl,trivial⟩,fun M=>⟨M.cast rfl (by simp),ajE _⟩⟩ ?_
 rintro⟨j,u6⟩ w6 M6 hj;have hj:j≤p.types.length:=hj;refine lb 0<|an rfl<|an (fun h=>?_) fun h=>?_
 ·have hlt:j<p.types.length:=Int.ofNat_lt.1 (of_decide_eq_true h);obtain⟨y,hy⟩:∃ y,p.types[j]?=some y:=⟨_,ajF hlt⟩;have fB:=cS (eTyp v) hy;have gY:=ajG hy;have mP:=hok.types y gY;have JW:(eTyp v y).length=(eS y.name).length+((eL eS y.jy).length+((if 2≤v then eB y.perm else []).length)):=by unfold eTyp;simp only[ajD]
  have gZ:(s0++(eN (p.types.length:Int)++(p.types.take j).flatMap (eTyp v))).length+(eTyp v y).length+300≤aF:=by simp only[ajD];omega
  simp only[ajD] at gZ;obtain⟨b,off,x,e1,hx,hc⟩:=au.elt hp.types (by decide) hy;obtain⟨pv,rfl,hl2⟩:=hx;have MS:=hl2;obtain⟨pa,pc,rfl,-⟩:=aJ.get MS;exact lb 0<|an rfl<|ia<|an ⟨e1,rfl,hlt⟩<|lc (x:=.string y.name)<|an (cL M6.below hc 0 _ rfl)<|dS 1 M6 rfl (fun M=>lR (s:=y.name) M (by(try simp only[ajD]);omega)) fun v7 w7 M7=>lb 0<|an rfl<|ia<|an ⟨e1,rfl,hlt⟩<|lc (x:=.slice pa _ pc)<|an (cL M7.below hc 1 _ rfl)<|dS 1 M7 rfl (fun M=>vY M hl2 (by(try simp only[ajD]);omega)) fun v8 w8 M8=>lb 1<|an rfl<|an (fun h=>have hv:2≤v:=(by { have:=of_decide_eq_true h;omega });have hif:(if 2≤v then eB y.perm else []).length=(eB y.perm).length:=(by rw[if_pos hv]);lb 0<|an rfl<|ia<|an ⟨e1,rfl,hlt⟩<|lc (x:=.bool y.perm)<|an (cL M8.below hc 2 _ rfl)<|dS 1 M8 rfl (fun M=>Bg (b:=y.perm) M (by(try simp only[ajD]);omega)) fun v9 w9 M9=>an (by omega)<|bk (j+1,_) ⟨rfl,trivial⟩ (fun M=>⟨(M.only (.refl _) (.refl _)).cast rfl (by rw[List.take_add_one,hy,ajH,Option.toList_some,List.flatMap_cons,List.flatMap_nil,List.append_nil,eTyp,if_pos hv];simp only[List.append_assoc,List.append_nil,List.nil_append]),hlt⟩) (by dsimp only;omega)) fun h=>have hv:¬ 2≤v:=(by { have:=of_decide_eq_false h;omega });an (by omega)<|bk (j+1,_) ⟨rfl,trivial⟩ (fun M=>⟨(M.only (.refl _) (.refl _)).cast rfl (by rw[List.take_add_one,hy,ajH,Option.toList_some,List.flatMap_cons,List.flatMap_nil,List.append_nil,eTyp,if_neg hv];simp only[List.append_assoc,List.append_nil,List.nil_append]),hlt⟩) (by dsimp only;omega)
 have hge:j=p.types.length:=Nat.le_antisymm hj (Nat.le_of_not_lt fun h2=>of_decide_eq_false h (Int.ofNat_lt.2 h2));subst hge;obtain⟨s1,hs1⟩:∃ a,a=s0++eL (eTyp v) p.types:=⟨_,rfl⟩;have hS1:s1.length=s0.length+(eL (eTyp v) p.types).length:=by rw[hs1,ajD]
 have Ow:s0++(eN (p.types.length:Int)++(p.types.take p.types.length).flatMap (eTyp v))=s1:=by rw[ajI,hs1];rfl
 have hU1:=congrArg List.length Ow;simp only[ajD] at hU1;refine lb 0<|an rfl<|dS (l:=s1++eN (p.attrs.length:Int)) 1 M6 rfl (fun M=>by rw[← Ow];exact aX (n:=(p.attrs.length:Int)) M (by(try simp only[ajD]);omega)) fun v10 pE jH=>lp (ι:=Nat×Value) (fun z=>[(6,.int .i64 (z.1:Int))]) (fun z=>(g1,39,#[.slice a0 p.classes.length k0,.slice a1 p.types.length k1,.slice a2 p.attrs.length k2,.slice a3 p.roles.length k3,.slice a4 p.users.length k4,.slice a5 p.bools.length k5,.slice a6 p.ay.length k6,.slice a7 p.cats.length k7,.slice a8 p.conds.length k8,.slice a9 p.rules.length k9,.slice nr p.trans.length k10,.slice mH p.ak.length k11,.slice a12 p.ranges.length k12,.slice mF p.cons.length k13,.slice mE p.aN.length k14,.slice og p.files.length k15,.slice n_ p.asserts.length k16])::fA W z.2 (v:Int)::bs) (fun z=>aH z.2 (s1++(eN (p.attrs.length:Int)++(p.attrs.take z.1).flatMap gU))::rs) (fun z _=>z.1≤p.attrs.length) (fun z=>p.attrs.length-z.1) (0,v10)<|an ⟨⟨rfl,trivial⟩,fun M=>⟨M.cast rfl (by simp),ajE _⟩⟩ ?_
 rintro⟨j,u11⟩ uO M11 hj;have hj:j≤p.attrs.length:=hj;refine lb 0<|an rfl<|an (fun h=>?_) fun h=>?_
 ·have hlt:j<p.attrs.length:=Int.ofNat_lt.1 (of_decide_eq_true h);obtain⟨y,hy⟩:∃ y,p.attrs[j]?=some y:=⟨_,ajF hlt⟩;have fB:=cS gU hy;have gY:=ajG hy;have mP:=hok.attrs y gY;have JW:(gU y).length=(eS y.name).length+((eT y.types).length):=by unfold gU;simp only[ajD]
  have gZ:(s1++(eN (p.attrs.length:Int)++(p.attrs.take j).flatMap gU)).length+(gU y).length+300≤aF:=by simp only[ajD];omega
  simp only[ajD] at gZ;obtain⟨b,off,e1,hc⟩:=SliceAt.elt hp.attrs (f:=jG.cells) (fun _=>rfl) (by decide) hy hlt;exact lb 0<|an rfl<|ia<|an ⟨e1,rfl,hlt⟩<|lc (x:=.string y.name)<|an (cL M11.below hc 0 _ rfl)<|dS 1 M11 rfl (fun M=>lR (s:=y.name) M (by(try simp only[ajD]);omega)) fun v12 zi q5=>lb 0<|an rfl<|ia<|an ⟨e1,rfl,hlt⟩<|lc (x:=[.int .u64 (y.types.a:Int),.int .u64 (y.types.b:Int),.int .u64 (y.types.c:Int),.int .u64 (y.types.d:Int)])<|an (fR (cL q5.below hc) rfl)<|dS 1 q5 rfl (fun M=>lS (s:=y.types) M mP.types (by(try simp only[ajD]);omega)) fun UO KD zf=>an (by omega)<|bk (j+1,_) ⟨rfl,trivial⟩ (fun M=>⟨(M.only (.refl _) (.refl _)).cast rfl (by rw[List.take_add_one,hy,ajH,Option.toList_some,List.flatMap_cons,List.flatMap_nil,List.append_nil,gU];simp only[List.append_assoc,List.append_nil,List.nil_append]),hlt⟩) (by dsimp only;omega)
 have hge:j=p.attrs.length:=Nat.le_antisymm hj (Nat.le_of_not_lt fun h2=>of_decide_eq_false h (Int.ofNat_lt.2 h2));subst hge;obtain⟨s2,cq⟩:∃ a,a=s1++eL gU p.attrs:=⟨_,rfl⟩;have hS2:s2.length=s1.length+(eL gU p.attrs).length:=by rw[cq,ajD]
 have WJ:s1++(eN (p.attrs.length:Int)++(p.attrs.take p.attrs.length).flatMap gU)=s2:=by rw[ajI,cq];rfl
 have hU2:=congrArg List.length WJ;simp only[ajD] at hU2;refine lb 0<|an rfl<|dS (l:=s2++eN (p.roles.length:Int)) 1 M11 rfl (fun M=>by rw[← WJ];exact aX (n:=(p.roles.length:Int)) M (by(try simp only[ajD]);omega)) fun QL KC Cb=>lp (ι:=Nat×Value) (fun z=>[(7,.int .i64 (z.1:Int))]) (fun z=>(g1,39,#[.slice a0 p.classes.length k0,.slice a1 p.types.length k1,.slice a2 p.attrs.length k2,.slice a3 p.roles.length k3,.slice a4 p.users.length k4,.slice a5 p.bools.length k5,.slice a6 p.ay.length k6,.slice a7 p.cats.length k7,.slice a8 p.conds.length k8,.slice a9 p.rules.length k9,.slice nr p.trans.length k10,.slice mH p.ak.length k11,.slice a12 p.ranges.length k12,.slice mF p.cons.length k13,.slice mE p.aN.length k14,.slice og p.files.length k15,.slice n_ p.asserts.length k16])::fA W z.2 (v:Int)::bs) (fun z=>aH z.2 (s2++(eN (p.roles.length:Int)++(p.roles.take z.1).flatMap gQ))::rs) (fun z _=>z.1≤p.roles.length) (fun z=>p.roles.length-z.1) (0,QL)<|an ⟨⟨rfl,trivial⟩,fun M=>⟨M.cast rfl (by simp),ajE _⟩⟩ ?_
 rintro⟨j,YS⟩ Ec rL hj;have hj:j≤p.roles.length:=hj;refine lb 0<|an rfl<|an (fun h=>?_) fun h=>?_
 ·have hlt:j<p.roles.length:=Int.ofNat_lt.1 (of_decide_eq_true h);obtain⟨y,hy⟩:∃ y,p.roles[j]?=some y:=⟨_,ajF hlt⟩;have fB:=cS gQ hy;have gY:=ajG hy;have mP:=hok.roles y gY;have JW:(gQ y).length=(eS y.name).length+((eT y.types).length+((eT y.next).length)):=by unfold gQ;simp only[ajD]
  have gZ:(s2++(eN (p.roles.length:Int)++(p.roles.take j).flatMap gQ)).length+(gQ y).length+300≤aF:=by simp only[ajD];omega
  simp only[ajD] at gZ;obtain⟨b,off,e1,hc⟩:=SliceAt.elt hp.roles (f:=eM.cells) (fun _=>rfl) (by decide) hy hlt;exact lb 0<|an rfl<|ia<|an ⟨e1,rfl,hlt⟩<|lc (x:=.string y.name)<|an (cL rL.below hc 0 _ rfl)<|dS 1 rL rfl (fun M=>lR (s:=y.name) M (by(try simp only[ajD]);omega)) fun QK KA vG=>lb 0<|an rfl<|ia<|an ⟨e1,rfl,hlt⟩<|lc (x:=[.int .u64 (y.types.a:Int),.int .u64 (y.types.b:Int),.int .u64 (y.types.c:Int),.int .u64 (y.types.d:Int)])<|an (fR (cL vG.below hc) rfl)<|dS 1 vG rfl (fun M=>lS (s:=y.types) M mP.types (by(try simp only[ajD]);omega)) fun v17 OO Av=>lb 0<|an rfl<|ia<|an ⟨e1,rfl,hlt⟩<|lc (x:=[.int .u64 (y.next.a:Int),.int .u64 (y.next.b:Int),.int .u64 (y.next.c:Int),.int .u64 (y.next.d:Int)])<|an (fR (cL Av.below hc) rfl)<|dS 1 Av rfl (fun M=>lS (s:=y.next) M mP.next (by(try simp only[ajD]);omega)) fun YK OM Gs=>an (by omega)<|bk (j+1,_) ⟨rfl,trivial⟩ (fun M=>⟨(M.only (.refl _) (.refl _)).cast rfl (by rw[List.take_add_one,hy,ajH,Option.toList_some,List.flatMap_cons,List.flatMap_nil,List.append_nil,gQ];simp only[List.append_assoc,List.append_nil,List.nil_append]),hlt⟩) (by dsimp only;omega)
 have hge:j=p.roles.length:=Nat.le_antisymm hj (Nat.le_of_not_lt fun h2=>of_decide_eq_false h (Int.ofNat_lt.2 h2));subst hge;obtain⟨s3,iE⟩:∃ a,a=s2++eL gQ p.roles:=⟨_,rfl⟩;have hS3:s3.length=s2.length+(eL gQ p.roles).length:=by rw[iE,ajD]
 have hT3:s2++(eN (p.roles.length:Int)++(p.roles.take p.roles.length).flatMap gQ)=s3:=by rw[ajI,iE];rfl
 have hU3:=congrArg List.length hT3;simp only[ajD] at hU3;refine lb 0<|an rfl<|dS (l:=s3++eN (p.users.length:Int)) 1 rL rfl (fun M=>by rw[← hT3];exact aX (n:=(p.users.length:Int)) M (by(try simp only[ajD]);omega)) fun Vz RJ OC=>lp (ι:=Nat×Value) (fun z=>[(8,.int .i64 (z.1:Int))]) (fun z=>(g1,39,#[.slice a0 p.classes.length k0,.slice a1 p.types.length k1,.slice a2 p.attrs.length k2,.slice a3 p.roles.length k3,.slice a4 p.users.length k4,.slice a5 p.bools.length k5,.slice a6 p.ay.length k6,.slice a7 p.cats.length k7,.slice a8 p.conds.length k8,.slice a9 p.rules.length k9,.slice nr p.trans.length k10,.slice mH p.ak.length k11,.slice a12 p.ranges.length k12,.slice mF p.cons.length k13,.slice mE p.aN.length k14,.slice og p.files.length k15,.slice n_ p.asserts.length k16])::fA W z.2 (v:Int)::bs) (fun z=>aH z.2 (s3++(eN (p.users.length:Int)++(p.users.take z.1).flatMap gM))::rs) (fun z _=>z.1≤p.users.length) (fun z=>p.users.length-z.1) (0,Vz)<|an ⟨⟨rfl,trivial⟩,fun M=>⟨M.cast rfl (by simp),ajE _⟩⟩ ?_
 rintro⟨j,YR⟩ Vp Og hj;have hj:j≤p.users.length:=hj;refine lb 0<|an rfl<|an (fun h=>?_) fun h=>?_
 ·have hlt:j<p.users.length:=Int.ofNat_lt.1 (of_decide_eq_true h);obtain⟨y,hy⟩:∃ y,p.users[j]?=some y:=⟨_,ajF hlt⟩;have fB:=cS gM hy;have gY:=ajG hy;have mP:=hok.users y gY;have JW:(gM y).length=(eS y.name).length+((eT y.roles).length+((ng y.dflt).length+((oR y.rng).length))):=by unfold gM;simp only[ajD]
  have gZ:(s3++(eN (p.users.length:Int)++(p.users.take j).flatMap gM)).length+(gM y).length+300≤aF:=by simp only[ajD];omega
  simp only[ajD] at gZ;obtain⟨b,off,e1,hc⟩:=SliceAt.elt hp.users (f:=jr.cells) (fun _=>rfl) (by decide) hy hlt;exact lb 0<|an rfl<|ia<|an ⟨e1,rfl,hlt⟩<|lc (x:=.string y.name)<|an (cL Og.below hc 0 _ rfl)<|dS 1 Og rfl (fun M=>lR (s:=y.name) M (by(try simp only[ajD]);omega)) fun v21 Vo OB=>lb 0<|an rfl<|ia<|an ⟨e1,rfl,hlt⟩<|lc (x:=[.int .u64 (y.roles.a:Int),.int .u64 (y.roles.b:Int),.int .u64 (y.roles.c:Int),.int .u64 (y.roles.d:Int)])<|an (fR (cL OB.below hc) rfl)<|dS 1 OB rfl (fun M=>lS (s:=y.roles) M mP.roles (by(try simp only[ajD]);omega)) fun v22 Vn UG=>lb 0<|an rfl<|ia<|an ⟨e1,rfl,hlt⟩<|lc (x:=[.int .i64 y.dflt.ay,.int .u64 (y.dflt.cats:Int)])<|an (fR (cL UG.below hc) rfl)<|dS 1 UG rfl (fun M=>Bf (l:=y.dflt) M mP.dflt.cats (by(try simp only[ajD]);omega)) fun v23 Vm OA=>lb 0<|an rfl<|ia<|an ⟨e1,rfl,hlt⟩<|lc (x:=[.int .i64 y.rng.low.ay,.int .u64 (y.rng.low.cats:Int),.int .i64 y.rng.high.ay,.int .u64 (y.rng.high.cats:Int)])<|an (fR (cL OA.below hc) rfl)<|dS 1 OA rfl (fun M=>EM (r:=y.rng) M mP.rng.low.cats mP.rng.high.cats (by(try simp only[ajD]);omega)) fun v24 Yx XP=>an (by omega)<|bk (j+1,_) ⟨rfl,trivial⟩ (fun M=>⟨(M.only (.refl _) (.refl _)).cast rfl (by rw[List.take_add_one,hy,ajH,Option.toList_some,List.flatMap_cons,List.flatMap_nil,List.append_nil,gM];simp only[List.append_assoc,List.append_nil,List.nil_append]),hlt⟩) (by dsimp only;omega)
 have hge:j=p.users.length:=Nat.le_antisymm hj (Nat.le_of_not_lt fun h2=>of_decide_eq_false h (Int.ofNat_lt.2 h2));subst hge;obtain⟨s4,tu⟩:∃ a,a=s3++eL gM p.users:=⟨_,rfl⟩;have hS4:s4.length=s3.length+(eL gM p.users).length:=by rw[tu,ajD]
 have hT4:s3++(eN (p.users.length:Int)++(p.users.take p.users.length).flatMap gM)=s4:=by rw[ajI,tu];rfl
 have hU4:=congrArg List.length hT4;simp only[ajD] at hU4;refine lb 0<|an rfl<|dS (l:=s4++eN (p.bools.length:Int)) 1 Og rfl (fun M=>by rw[← hT4];exact aX (n:=(p.bools.length:Int)) M (by(try simp only[ajD]);omega)) fun v25 Yw Ve=>lp (ι:=Nat×Value) (fun z=>[(9,.int .i64 (z.1:Int))]) (fun z=>(g1,39,#[.slice a0 p.classes.length k0,.slice a1 p.types.length k1,.slice a2 p.attrs.length k2,.slice a3 p.roles.length k3,.slice a4 p.users.length k4,.slice a5 p.bools.length k5,.slice a6 p.ay.length k6,.slice a7 p.cats.length k7,.slice a8 p.conds.length k8,.slice a9 p.rules.length k9,.slice nr p.trans.length k10,.slice mH p.ak.length k11,.slice a12 p.ranges.length k12,.slice mF p.cons.length k13,.slice mE p.aN.length k14,.slice og p.files.length k15,.slice n_ p.asserts.length k16])::fA W z.2 (v:Int)::bs) (fun z=>aH z.2 (s4++(eN (p.bools.length:Int)++(p.bools.take z.1).flatMap fN))::rs) (fun z _=>z.1≤p.bools.length) (fun z=>p.bools.length-z.1) (0,v25)<|an ⟨⟨rfl,trivial⟩,fun M=>⟨M.cast rfl (by simp),ajE _⟩⟩ ?_
 rintro⟨j,u26⟩ Yv UF hj;have hj:j≤p.bools.length:=hj;refine lb 0<|an rfl<|an (fun h=>?_) fun h=>?_
 ·have hlt:j<p.bools.length:=Int.ofNat_lt.1 (of_decide_eq_true h);obtain⟨y,hy⟩:∃ y,p.bools[j]?=some y:=⟨_,ajF hlt⟩;have fB:=cS fN hy;have gY:=ajG hy;have mP:=hok.bools y gY;have JW:(fN y).length=(eS y.name).length+((eB y.val).length):=by unfold fN;simp only[ajD]
  have gZ:(s4++(eN (p.bools.length:Int)++(p.bools.take j).flatMap fN)).length+(fN y).length+300≤aF:=by simp only[ajD];omega
  simp only[ajD] at gZ;obtain⟨b,off,e1,hc⟩:=SliceAt.elt hp.bools (f:=jV.cells) (fun _=>rfl) (by decide) hy hlt;exact lb 0<|an rfl<|ia<|an ⟨e1,rfl,hlt⟩<|lc (x:=.string y.name)<|an (cL UF.below hc 0 _ rfl)<|dS 1 UF rfl (fun M=>lR (s:=y.name) M (by(try simp only[ajD]);omega)) fun v27 Yu QH=>lb 0<|an rfl<|ia<|an ⟨e1,rfl,hlt⟩<|lc (x:=.bool y.val)<|an (cL QH.below hc 1 _ rfl)<|dS 1 QH rfl (fun M=>Bg (b:=y.val) M (by(try simp only[ajD]);omega)) fun v28 XZ Yp=>an (by omega)<|bk (j+1,_) ⟨rfl,trivial⟩ (fun M=>⟨(M.only (.refl _) (.refl _)).cast rfl (by rw[List.take_add_one,hy,ajH,Option.toList_some,List.flatMap_cons,List.flatMap_nil,List.append_nil,fN];simp only[List.append_assoc,List.append_nil,List.nil_append]),hlt⟩) (by dsimp only;omega)
 have hge:j=p.bools.length:=Nat.le_antisymm hj (Nat.le_of_not_lt fun h2=>of_decide_eq_false h (Int.ofNat_lt.2 h2));subst hge;obtain⟨s5,JN⟩:∃ a,a=s4++eL fN p.bools:=⟨_,rfl⟩;have hS5:s5.length=s4.length+(eL fN p.bools).length:=by rw[JN,ajD]
 have hT5:s4++(eN (p.bools.length:Int)++(p.bools.take p.bools.length).flatMap fN)=s5:=by rw[ajI,JN];rfl
 have hU5:=congrArg List.length hT5;simp only[ajD] at hU5;obtain⟨s6,JM⟩:∃ a,a=s5++eL eS p.ay:=⟨_,rfl⟩;have hS6:s6.length=s5.length+(eL eS p.ay).length:=by rw[JM,ajD]
 refine lb 0<|an rfl<|dS (l:=s6) 1 UF rfl (fun M=>by rw[JM,← hT5];exact vY M hp.ay (by(try simp only[ajD]);omega)) fun v29 XY RG=>?_
 obtain⟨s7,PZ⟩:∃ a,a=s6++eL eS p.cats:=⟨_,rfl⟩;have hS7:s7.length=s6.length+(eL eS p.cats).length:=by rw[PZ,ajD]
 refine lb 0<|an rfl<|dS (l:=s7) 1 RG rfl (fun M=>by rw[PZ];exact vY M hp.cats (by(try simp only[ajD]);omega)) fun v30 XW XO=>?_
 refine lb 0<|an rfl<|dS (l:=s7++eN (p.conds.length:Int)) 1 XO rfl (fun M=>aX (n:=(p.conds.length:Int)) M (by(try simp only[ajD]);omega)) fun v31 XV RF=>lp (ι:=Nat×Value) (fun z=>[(10,.int .i64 (z.1:Int))]) (fun z=>(g1,39,#[.slice a0 p.classes.length k0,.slice a1 p.types.length k1,.slice a2 p.attrs.length k2,.slice a3 p.roles.length k3,.slice a4 p.users.length k4,.slice a5 p.bools.length k5,.slice a6 p.ay.length k6,.slice a7 p.cats.length k7,.slice a8 p.conds.length k8,.slice a9 p.rules.length k9,.slice nr p.trans.length k10,.slice mH p.ak.length k11,.slice a12 p.ranges.length k12,.slice mF p.cons.length k13,.slice mE p.aN.length k14,.slice og p.files.length k15,.slice n_ p.asserts.length k16])::fA W z.2 (v:Int)::bs) (fun z=>aH z.2 (s7++(eN (p.conds.length:Int)++(p.conds.take z.1).flatMap eE))::rs) (fun z _=>z.1≤p.conds.length) (fun z=>p.conds.length-z.1) (0,v31)<|an ⟨⟨rfl,trivial⟩,fun M=>⟨M.cast rfl (by simp),ajE _⟩⟩ ?_
 rintro⟨j,u32⟩ XU UE hj;have hj:j≤p.conds.length:=hj;refine lb 0<|an rfl<|an (fun h=>?_) fun h=>?_
 ·have hlt:j<p.conds.length:=Int.ofNat_lt.1 (of_decide_eq_true h);obtain⟨y,hy⟩:∃ y,p.conds[j]?=some y:=⟨_,ajF hlt⟩;have fB:=cS eE hy;have gY:=ajG hy;have mP:=hok.conds y gY;have gZ:(s7++(eN (p.conds.length:Int)++(p.conds.take j).flatMap eE)).length+(eE y).length+300≤aF:=by simp only[ajD];omega
  simp only[ajD] at gZ;obtain⟨b,off,x,e1,WV,hc⟩:=au.elt hp.conds (by decide) hy;have TL:=WV;obtain⟨nv,kv,rfl,vh,hkv⟩:=TL.open;obtain⟨_,_,rfl,-⟩:=aJ.get vh;obtain⟨_,_,rfl,-,-,-⟩:=au.form hkv (by decide);exact lb 0<|an rfl<|ia<|an ⟨e1,rfl,hlt⟩<|lc<|an (cL UE.below hc)<|dS 1 UE rfl (fun M=>LU y w0 _ _ _ _ _ _ WV mP M (by(try simp only[ajD]);omega)) fun v33 XT RE=>an (by omega)<|bk (j+1,_) ⟨rfl,trivial⟩ (fun M=>⟨(M.only (.refl _) (.refl _)).cast rfl (by rw[List.take_add_one,hy,ajH,Option.toList_some,List.flatMap_cons,List.flatMap_nil,List.append_nil];simp only[List.append_assoc,List.append_nil,List.nil_append]),hlt⟩) (by dsimp only;omega)
 have hge:j=p.conds.length:=Nat.le_antisymm hj (Nat.le_of_not_lt fun h2=>of_decide_eq_false h (Int.ofNat_lt.2 h2));subst hge;obtain⟨s8,Wp⟩:∃ a,a=s7++eL eE p.conds:=⟨_,rfl⟩;have hS8:s8.length=s7.length+(eL eE p.conds).length:=by rw[Wp,ajD]
 have hT8:s7++(eN (p.conds.length:Int)++(p.conds.take p.conds.length).flatMap eE)=s8:=by rw[ajI,Wp];rfl
 have hU8:=congrArg List.length hT8;simp only[ajD] at hU8;exact fun M=>⟨rfl,_,(M.only (.cons _ (.refl _)) (.refl _)).cast rfl (by dsimp only;rw[hT8,Rj];simp only[hs0,hs1,cq,iE,tu,JN,JM,PZ,Wp,List.append_assoc])⟩
def Qv(v:Nat)(p:aA):List Nat:=eL gO p.rules++(eL (gi v) p.trans++(eL gP p.ak++((if 2≤v then eL fU p.ranges else []))))
theorem Ph{p:aA}{c0 c1 c2 c3 c4 c5 c6 c7 c8 c9 c10 c11 c12 c13 c14 c15 c16:Value}(hp:aD w0 c0 c1 c2 c3 c4 c5 c6 c7 c8 c9 c10 c11 c12 c13 c14 c15 c16 p)(hok:p.Ok)(M:Mm w0 w (fA W v1 (v:Int)::bs) (aH v1 xs::rs))(hb:xs.length+(Qv v p).length+700≤aF):
 Calls Tryz.prog 131 #[.pointer (some ⟨W,0,none⟩),.agg #[c0,c1,c2,c3,c4,c5,c6,c7,c8,c9,c10,c11,c12,c13,c14,c15,c16]] w (Ee w0.heap.size w0 bs rs W (v:Int) (xs++Qv v p)):=by
 obtain⟨a0,a1,a2,a3,a4,a5,a6,a7,a8,a9,nr,mH,a12,mF,mE,og,n_,k0,k1,k2,k3,k4,k5,k6,k7,k8,k9,k10,k11,k12,k13,k14,k15,k16,rfl,rfl,rfl,rfl,rfl,rfl,rfl,rfl,rfl,rfl,rfl,rfl,rfl,rfl,rfl,rfl,rfl⟩:=hp.open;have hl:(Qv v p).length=(eL gO p.rules).length+((eL (gi v) p.trans).length+((eL gP p.ak).length+(((if 2≤v then eL fU p.ranges else [])).length))):=by unfold Qv;simp only[ajD]
 have hL9:(eL gO p.rules).length=(eN (p.rules.length:Int)).length+(p.rules.flatMap gO).length:=by unfold eL;rw[ajD]
 have hN9:=aG (p.rules.length:Int);have hB9:p.rules.length≤9223372036854775807:=by obtain⟨_,_,_,_,h,_⟩:=SliceAt.form hp.rules (by decide);exact h
 have afh:(eL (gi v) p.trans).length=(eN (p.trans.length:Int)).length+(p.trans.flatMap (gi v)).length:=by unfold eL;rw[ajD]
 have afa:=aG (p.trans.length:Int);have afs:p.trans.length≤9223372036854775807:=by obtain⟨_,_,_,_,h,_⟩:=SliceAt.form hp.trans (by decide);exact h
 have afg:(eL gP p.ak).length=(eN (p.ak.length:Int)).length+(p.ak.flatMap gP).length:=by unfold eL;rw[ajD]
 have ae_:=aG (p.ak.length:Int);have afr:p.ak.length≤9223372036854775807:=by obtain⟨_,_,_,_,h,_⟩:=SliceAt.form hp.ak (by decide);exact h
 have aff:(eL fU p.ranges).length=(eN (p.ranges.length:Int)).length+(p.ranges.flatMap fU).length:=by unfold eL;rw[ajD]
 have ae9:=aG (p.ranges.length:Int);have afq:p.ranges.length≤9223372036854775807:=by obtain⟨_,_,_,_,h,_⟩:=SliceAt.form hp.ranges (by decide);exact h
 refine bY M [] (fn:=Tryz.f131) Tryz.func131 rfl Tryz.ntmps131 rfl<|fun g1 w1 M1=>?_
 refine lb 0<|an rfl<|dS (l:=xs++eN (p.rules.length:Int)) 1 M1 rfl (fun M=>aX (n:=(p.rules.length:Int)) M (by(try simp only[ajD]);omega)) fun v1 w1 M1=>lp (ι:=Nat×Value) (fun z=>[(4,.int .i64 (z.1:Int))]) (fun z=>(g1,39,#[.slice a0 p.classes.length k0,.slice a1 p.types.length k1,.slice a2 p.attrs.length k2,.slice a3 p.roles.length k3,.slice a4 p.users.length k4,.slice a5 p.bools.length k5,.slice a6 p.ay.length k6,.slice a7 p.cats.length k7,.slice a8 p.conds.length k8,.slice a9 p.rules.length k9,.slice nr p.trans.length k10,.slice mH p.ak.length k11,.slice a12 p.ranges.length k12,.slice mF p.cons.length k13,.slice mE p.aN.length k14,.slice og p.files.length k15,.slice n_ p.asserts.length k16])::fA W z.2 (v:Int)::bs) (fun z=>aH z.2 (xs++(eN (p.rules.length:Int)++(p.rules.take z.1).flatMap gO))::rs) (fun z _=>z.1≤p.rules.length) (fun z=>p.rules.length-z.1) (0,v1)<|an ⟨⟨rfl,trivial⟩,fun M=>⟨M.cast rfl (by simp),ajE _⟩⟩ ?_
 rintro⟨j,u2⟩ w2 M2 hj;have hj:j≤p.rules.length:=hj;refine lb 0<|an rfl<|an (fun h=>?_) fun h=>?_
 ·have hlt:j<p.rules.length:=Int.ofNat_lt.1 (of_decide_eq_true h);obtain⟨y,hy⟩:∃ y,p.rules[j]?=some y:=⟨_,ajF hlt⟩;have fB:=cS gO hy;have gY:=ajG hy;have mP:=hok.rules y gY;have JW:(gO y).length=(eN y.kind).length+((eT y.src).length+((eT y.tgt).length+((eB y.self).length+((eN y.cls).length+((eN y.perms).length+((eC y.cond).length)))))):=by unfold gO;simp only[ajD]
  have gZ:(xs++(eN (p.rules.length:Int)++(p.rules.take j).flatMap gO)).length+(gO y).length+300≤aF:=by simp only[ajD];omega
  simp only[ajD] at gZ;have:=aG y.kind;have:=aG y.cls;obtain⟨b,off,e1,hc⟩:=SliceAt.elt hp.rules (f:=dz.cells) (fun _=>rfl) (by decide) hy hlt;exact lb 0<|an rfl<|ia<|an ⟨e1,rfl,hlt⟩<|lc (x:=y.cells)<|an (cL M2.below hc)<|ei<|an Cl fun g10 pE jH=>lb 0<|an ⟨rfl,rfl⟩ fun ada abH=>lb 0<|an rfl<|dS 2 abH rfl (fun M=>aX (n:=y.kind) M (by(try simp only[ajD]);omega)) fun v3 w3 M3=>lb 0<|an rfl<|dS 2 M3 rfl (fun M=>lS (s:=y.src) M mP.src (by(try simp only[ajD]);omega)) fun v4 w4 M4=>lb 0<|an rfl<|dS 2 M4 rfl (fun M=>lS (s:=y.tgt) M mP.tgt (by(try simp only[ajD]);omega)) fun v5 w5 M5=>lb 0<|an rfl<|dS 2 M5 rfl (fun M=>Bg (b:=y.self) M (by(try simp only[ajD]);omega)) fun v6 w6 M6=>lb 0<|an rfl<|dS 2 M6 rfl (fun M=>aX (n:=y.cls) M (by(try simp only[ajD]);omega)) fun v7 w7 M7=>lb 0<|an rfl<|dS 2 M7 rfl (fun M=>LR (n:=y.perms) M mP.perms (by(try simp only[ajD]);omega)) fun v8 w8 M8=>lb 0<|an rfl<|dS 2 M8 rfl (fun M=>EN (m:=y.cond) M mP.cond (by(try simp only[ajD]);omega)) fun v9 w9 M9=>an (by omega)<|bk (j+1,_) ⟨rfl,trivial⟩ (fun M=>⟨(M.only (.cons _ (.refl _)) (.refl _)).cast rfl (by rw[List.take_add_one,hy,ajH,Option.toList_some,List.flatMap_cons,List.flatMap_nil,List.append_nil,gO];simp only[List.append_assoc,List.append_nil,List.nil_append]),hlt⟩) (by dsimp only;omega)
 have hge:j=p.rules.length:=Nat.le_antisymm hj (Nat.le_of_not_lt fun h2=>of_decide_eq_false h (Int.ofNat_lt.2 h2));subst hge;obtain⟨s9,U1⟩:∃ a,a=xs++eL gO p.rules:=⟨_,rfl⟩;have hS9:s9.length=xs.length+(eL gO p.rules).length:=by rw[U1,ajD]
 have Nb:xs++(eN (p.rules.length:Int)++(p.rules.take p.rules.length).flatMap gO)=s9:=by rw[ajI,U1];rfl
 have hU9:=congrArg List.length Nb;simp only[ajD] at hU9;refine lb 0<|an rfl<|dS (l:=s9++eN (p.trans.length:Int)) 1 M2 rfl (fun M=>by rw[← Nb];exact aX (n:=(p.trans.length:Int)) M (by(try simp only[ajD]);omega)) fun v11 uO M11=>lp (ι:=Nat×Value) (fun z=>[(6,.int .i64 (z.1:Int))]) (fun z=>(g1,39,#[.slice a0 p.classes.length k0,.slice a1 p.types.length k1,.slice a2 p.attrs.length k2,.slice a3 p.roles.length k3,.slice a4 p.users.length k4,.slice a5 p.bools.length k5,.slice a6 p.ay.length k6,.slice a7 p.cats.length k7,.slice a8 p.conds.length k8,.slice a9 p.rules.length k9,.slice nr p.trans.length k10,.slice mH p.ak.length k11,.slice a12 p.ranges.length k12,.slice mF p.cons.length k13,.slice mE p.aN.length k14,.slice og p.files.length k15,.slice n_ p.asserts.length k16])::fA W z.2 (v:Int)::bs) (fun z=>aH z.2 (s9++(eN (p.trans.length:Int)++(p.trans.take z.1).flatMap (gi v)))::rs) (fun z _=>z.1≤p.trans.length) (fun z=>p.trans.length-z.1) (0,v11)<|an ⟨⟨rfl,trivial⟩,fun M=>⟨M.cast rfl (by simp),ajE _⟩⟩ ?_
 rintro⟨j,u12⟩ zi q5 hj;have hj:j≤p.trans.length:=hj;refine lb 0<|an rfl<|an (fun h=>?_) fun h=>?_
 ·have hlt:j<p.trans.length:=Int.ofNat_lt.1 (of_decide_eq_true h);obtain⟨y,hy⟩:∃ y,p.trans[j]?=some y:=⟨_,ajF hlt⟩;have fB:=cS (gi v) hy;have gY:=ajG hy;have mP:=hok.trans y gY;have JW:(gi v y).length=(eN y.kind).length+((eT y.src).length+((eT y.tgt).length+((eN y.cls).length+((if 2≤v then eS y.name else []).length+((eN y.res).length+((eC y.cond).length)))))):=by unfold gi;simp only[ajD]
  have gZ:(s9++(eN (p.trans.length:Int)++(p.trans.take j).flatMap (gi v))).length+(gi v y).length+300≤aF:=by simp only[ajD];omega
  simp only[ajD] at gZ;have:=aG y.kind;have:=aG y.cls;have:=aG y.res;obtain⟨b,off,e1,hc⟩:=SliceAt.elt hp.trans (f:=bG.cells) (fun _=>rfl) (by decide) hy hlt;exact lb 0<|an rfl<|ia<|an ⟨e1,rfl,hlt⟩<|lc (x:=y.cells)<|an (cL q5.below hc)<|ei<|an Ef fun g22 Vn UG=>lb 0<|an ⟨rfl,rfl⟩ fun ac_ abG=>lb 0<|an rfl<|dS 2 abG rfl (fun M=>aX (n:=y.kind) M (by(try simp only[ajD]);omega)) fun UO KD zf=>lb 0<|an rfl<|dS 2 zf rfl (fun M=>lS (s:=y.src) M mP.src (by(try simp only[ajD]);omega)) fun QL KC Cb=>lb 0<|an rfl<|dS 2 Cb rfl (fun M=>lS (s:=y.tgt) M mP.tgt (by(try simp only[ajD]);omega)) fun UN Ec rL=>lb 0<|an rfl<|dS 2 rL rfl (fun M=>aX (n:=y.cls) M (by(try simp only[ajD]);omega)) fun QK KA vG=>lb 2<|an rfl<|an (fun h=>have hv:2≤v:=(by { have:=of_decide_eq_true h;omega });have hif:(if 2≤v then eS y.name else []).length=(eS y.name).length:=(by rw[if_pos hv]);lb 0<|an rfl<|dS 2 vG rfl (fun M=>lR (s:=y.name) M (by(try simp only[ajD]);omega)) fun v17 OO Av=>lb 0<|an rfl<|dS 2 Av rfl (fun M=>aX (n:=y.res) M (by(try simp only[ajD]);omega)) fun YK OM Gs=>lb 0<|an rfl<|dS 2 Gs rfl (fun M=>EN (m:=y.cond) M mP.cond (by(try simp only[ajD]);omega)) fun Vz RJ OC=>an (by omega)<|bk (j+1,_) ⟨rfl,trivial⟩ (fun M=>⟨(M.only (.cons _ (.refl _)) (.refl _)).cast rfl (by rw[List.take_add_one,hy,ajH,Option.toList_some,List.flatMap_cons,List.flatMap_nil,List.append_nil,gi,if_pos hv];simp only[List.append_assoc,List.append_nil,List.nil_append]),hlt⟩) (by dsimp only;omega)) fun h=>have hv:¬ 2≤v:=(by { have:=of_decide_eq_false h;omega });lb 0<|an rfl<|dS 2 vG rfl (fun M=>aX (n:=y.res) M (by(try simp only[ajD]);omega)) fun v20 Vp Og=>lb 0<|an rfl<|dS 2 Og rfl (fun M=>EN (m:=y.cond) M mP.cond (by(try simp only[ajD]);omega)) fun v21 Vo OB=>an (by omega)<|bk (j+1,_) ⟨rfl,trivial⟩ (fun M=>⟨(M.only (.cons _ (.refl _)) (.refl _)).cast rfl (by rw[List.take_add_one,hy,ajH,Option.toList_some,List.flatMap_cons,List.flatMap_nil,List.append_nil,gi,if_neg hv];simp only[List.append_assoc,List.append_nil,List.nil_append]),hlt⟩) (by dsimp only;omega)
 have hge:j=p.trans.length:=Nat.le_antisymm hj (Nat.le_of_not_lt fun h2=>of_decide_eq_false h (Int.ofNat_lt.2 h2));subst hge;obtain⟨s10,JR⟩:∃ a,a=s9++eL (gi v) p.trans:=⟨_,rfl⟩;have ae3:s10.length=s9.length+(eL (gi v) p.trans).length:=by rw[JR,ajD]
 have WQ:s9++(eN (p.trans.length:Int)++(p.trans.take p.trans.length).flatMap (gi v))=s10:=by rw[ajI,JR];rfl
 have aaM:=congrArg List.length WQ;simp only[ajD] at aaM;refine lb 0<|an rfl<|dS (l:=s10++eN (p.ak.length:Int)) 1 q5 rfl (fun M=>by rw[← WQ];exact aX (n:=(p.ak.length:Int)) M (by(try simp only[ajD]);omega)) fun v23 Vm OA=>lp (ι:=Nat×Value) (fun z=>[(8,.int .i64 (z.1:Int))]) (fun z=>(g1,39,#[.slice a0 p.classes.length k0,.slice a1 p.types.length k1,.slice a2 p.attrs.length k2,.slice a3 p.roles.length k3,.slice a4 p.users.length k4,.slice a5 p.bools.length k5,.slice a6 p.ay.length k6,.slice a7 p.cats.length k7,.slice a8 p.conds.length k8,.slice a9 p.rules.length k9,.slice nr p.trans.length k10,.slice mH p.ak.length k11,.slice a12 p.ranges.length k12,.slice mF p.cons.length k13,.slice mE p.aN.length k14,.slice og p.files.length k15,.slice n_ p.asserts.length k16])::fA W z.2 (v:Int)::bs) (fun z=>aH z.2 (s10++(eN (p.ak.length:Int)++(p.ak.take z.1).flatMap gP))::rs) (fun z _=>z.1≤p.ak.length) (fun z=>p.ak.length-z.1) (0,v23)<|an ⟨⟨rfl,trivial⟩,fun M=>⟨M.cast rfl (by simp),ajE _⟩⟩ ?_
 rintro⟨j,u24⟩ Yx XP hj;have hj:j≤p.ak.length:=hj;refine lb 0<|an rfl<|an (fun h=>?_) fun h=>?_
 ·have hlt:j<p.ak.length:=Int.ofNat_lt.1 (of_decide_eq_true h);obtain⟨y,hy⟩:∃ y,p.ak[j]?=some y:=⟨_,ajF hlt⟩;have fB:=cS gP hy;have gY:=ajG hy;have mP:=hok.ak y gY;have JW:(gP y).length=(eT y.roles).length+((eT y.types).length+((eN y.cls).length+((eN y.res).length))):=by unfold gP;simp only[ajD]
  have gZ:(s10++(eN (p.ak.length:Int)++(p.ak.take j).flatMap gP)).length+(gP y).length+300≤aF:=by simp only[ajD];omega
  simp only[ajD] at gZ;have:=aG y.cls;have:=aG y.res;obtain⟨b,off,e1,hc⟩:=SliceAt.elt hp.ak (f:=jD.cells) (fun _=>rfl) (by decide) hy hlt;exact lb 0<|an rfl<|ia<|an ⟨e1,rfl,hlt⟩<|lc (x:=y.cells)<|an (cL XP.below hc)<|ei<|an Ck fun g29 XY RG=>lb 0<|an ⟨rfl,rfl⟩ fun ac8 abE=>lb 0<|an rfl<|dS 2 abE rfl (fun M=>lS (s:=y.roles) M mP.roles (by(try simp only[ajD]);omega)) fun v25 Yw Ve=>lb 0<|an rfl<|dS 2 Ve rfl (fun M=>lS (s:=y.types) M mP.types (by(try simp only[ajD]);omega)) fun v26 Yv UF=>lb 0<|an rfl<|dS 2 UF rfl (fun M=>aX (n:=y.cls) M (by(try simp only[ajD]);omega)) fun v27 Yu QH=>lb 0<|an rfl<|dS 2 QH rfl (fun M=>aX (n:=y.res) M (by(try simp only[ajD]);omega)) fun v28 XZ Yp=>an (by omega)<|bk (j+1,_) ⟨rfl,trivial⟩ (fun M=>⟨(M.only (.cons _ (.refl _)) (.refl _)).cast rfl (by rw[List.take_add_one,hy,ajH,Option.toList_some,List.flatMap_cons,List.flatMap_nil,List.append_nil,gP];simp only[List.append_assoc,List.append_nil,List.nil_append]),hlt⟩) (by dsimp only;omega)
 have hge:j=p.ak.length:=Nat.le_antisymm hj (Nat.le_of_not_lt fun h2=>of_decide_eq_false h (Int.ofNat_lt.2 h2));subst hge;obtain⟨Ou,JQ⟩:∃ a,a=s10++eL gP p.ak:=⟨_,rfl⟩;have ae2:Ou.length=s10.length+(eL gP p.ak).length:=by rw[JQ,ajD]
 have TG:s10++(eN (p.ak.length:Int)++(p.ak.take p.ak.length).flatMap gP)=Ou:=by rw[ajI,JQ];rfl
 have aaL:=congrArg List.length TG;simp only[ajD] at aaL;refine lb 1<|an rfl<|an (fun h=>?_) fun h=>?_
 ·have hv:¬ 2≤v:=(by have:=of_decide_eq_true h;omega);exact fun M=>⟨rfl,_,(M.only (.cons _ (.refl _)) (.refl _)).cast rfl (by dsimp only;rw[TG,Qv,if_neg hv];simp only[U1,JR,JQ,List.append_assoc,List.append_nil])⟩
 have hv:2≤v:=(by have:=of_decide_eq_false h;omega);rw[if_pos hv] at hl;refine lb 0<|an rfl<|dS (l:=Ou++eN (p.ranges.length:Int)) 1 XP rfl (fun M=>by rw[← TG];exact aX (n:=(p.ranges.length:Int)) M (by(try simp only[ajD]);omega)) fun v30 XW XO=>lp (ι:=Nat×Value) (fun z=>[(10,.int .i64 (z.1:Int))]) (fun z=>(g1,39,#[.slice a0 p.classes.length k0,.slice a1 p.types.length k1,.slice a2 p.attrs.length k2,.slice a3 p.roles.length k3,.slice a4 p.users.length k4,.slice a5 p.bools.length k5,.slice a6 p.ay.length k6,.slice a7 p.cats.length k7,.slice a8 p.conds.length k8,.slice a9 p.rules.length k9,.slice nr p.trans.length k10,.slice mH p.ak.length k11,.slice a12 p.ranges.length k12,.slice mF p.cons.length k13,.slice mE p.aN.length k14,.slice og p.files.length k15,.slice n_ p.asserts.length k16])::fA W z.2 (v:Int)::bs) (fun z=>aH z.2 (Ou++(eN (p.ranges.length:Int)++(p.ranges.take z.1).flatMap fU))::rs) (fun z _=>z.1≤p.ranges.length) (fun z=>p.ranges.length-z.1) (0,v30)<|an ⟨⟨rfl,trivial⟩,fun M=>⟨M.cast rfl (by simp),ajE _⟩⟩ ?_
 rintro⟨j,X2⟩ XV RF hj;have hj:j≤p.ranges.length:=hj;refine lb 0<|an rfl<|an (fun h=>?_) fun h=>?_
 ·have hlt:j<p.ranges.length:=Int.ofNat_lt.1 (of_decide_eq_true h);obtain⟨y,hy⟩:∃ y,p.ranges[j]?=some y:=⟨_,ajF hlt⟩;have fB:=cS fU hy;have gY:=ajG hy;have mP:=hok.ranges y gY;have JW:(fU y).length=(eT y.src).length+((eT y.tgt).length+((eN y.cls).length+((oR y.rng).length))):=by unfold fU;simp only[ajD]
  have gZ:(Ou++(eN (p.ranges.length:Int)++(p.ranges.take j).flatMap fU)).length+(fU y).length+300≤aF:=by simp only[ajD];omega
  simp only[ajD] at gZ;have:=aG y.cls;obtain⟨b,off,e1,hc⟩:=SliceAt.elt hp.ranges (f:=jE.cells) (fun _=>rfl) (by decide) hy hlt;exact lb 0<|an rfl<|ia<|an ⟨e1,rfl,hlt⟩<|lc (x:=y.cells)<|an (cL RF.below hc)<|ei<|an Cj fun g36 w36 M36=>lb 0<|an ⟨rfl,rfl⟩ fun ac7 abD=>lb 0<|an rfl<|dS 2 abD rfl (fun M=>lS (s:=y.src) M mP.src (by(try simp only[ajD]);omega)) fun v32 XU UE=>lb 0<|an rfl<|dS 2 UE rfl (fun M=>lS (s:=y.tgt) M mP.tgt (by(try simp only[ajD]);omega)) fun v33 XT RE=>lb 0<|an rfl<|dS 2 RE rfl (fun M=>aX (n:=y.cls) M (by(try simp only[ajD]);omega)) fun v34 Yt Yo=>lb 0<|an rfl<|dS 2 Yo rfl (fun M=>EM (r:=y.rng) M mP.rng.low.cats mP.rng.high.cats (by(try simp only[ajD]);omega)) fun v35 Ys XM=>an (by omega)<|bk (j+1,_) ⟨rfl,trivial⟩ (fun M=>⟨(M.only (.cons _ (.refl _)) (.refl _)).cast rfl (by rw[List.take_add_one,hy,ajH,Option.toList_some,List.flatMap_cons,List.flatMap_nil,List.append_nil,fU];simp only[List.append_assoc,List.append_nil,List.nil_append]),hlt⟩) (by dsimp only;omega)
 have hge:j=p.ranges.length:=Nat.le_antisymm hj (Nat.le_of_not_lt fun h2=>of_decide_eq_false h (Int.ofNat_lt.2 h2));subst hge;obtain⟨s12,JO⟩:∃ a,a=Ou++eL fU p.ranges:=⟨_,rfl⟩;have ae1:s12.length=Ou.length+(eL fU p.ranges).length:=by rw[JO,ajD]
 have WO:Ou++(eN (p.ranges.length:Int)++(p.ranges.take p.ranges.length).flatMap fU)=s12:=by rw[ajI,JO];rfl
 have aaK:=congrArg List.length WO;simp only[ajD] at aaK;exact fun M=>⟨rfl,_,(M.only (.cons _ (.refl _)) (.refl _)).cast rfl (by dsimp only;rw[WO,Qv,if_pos hv];simp only[U1,JR,JQ,JO,List.append_assoc])⟩
def Qu(v:Nat)(p:aA):List Nat:=eL gS p.cons++(eL gN p.aN++((if 3≤v then eL fC p.files else [])++((if 3≤v then eL fE p.asserts else []))))
theorem LS{p:aA}{c0 c1 c2 c3 c4 c5 c6 c7 c8 c9 c10 c11 c12 c13 c14 c15 c16:Value}(hp:aD w0 c0 c1 c2 c3 c4 c5 c6 c7 c8 c9 c10 c11 c12 c13 c14 c15 c16 p)(hok:p.Ok)(M:Mm w0 w (fA W v1 (v:Int)::bs) (aH v1 xs::rs))(hb:xs.length+(Qu v p).length+700≤aF):
 Calls Tryz.prog 132 #[.pointer (some ⟨W,0,none⟩),.agg #[c0,c1,c2,c3,c4,c5,c6,c7,c8,c9,c10,c11,c12,c13,c14,c15,c16]] w (Ee w0.heap.size w0 bs rs W (v:Int) (xs++Qu v p)):=by
 obtain⟨a0,a1,a2,a3,a4,a5,a6,a7,a8,a9,nr,mH,a12,mF,mE,og,n_,k0,k1,k2,k3,k4,k5,k6,k7,k8,k9,k10,k11,k12,k13,k14,k15,k16,rfl,rfl,rfl,rfl,rfl,rfl,rfl,rfl,rfl,rfl,rfl,rfl,rfl,rfl,rfl,rfl,rfl⟩:=hp.open;have hl:(Qu v p).length=(eL gS p.cons).length+((eL gN p.aN).length+(((if 3≤v then eL fC p.files else [])).length+(((if 3≤v then eL fE p.asserts else [])).length))):=by unfold Qu;simp only[ajD]
 have afe:(eL gS p.cons).length=(eN (p.cons.length:Int)).length+(p.cons.flatMap gS).length:=by unfold eL;rw[ajD]
 have ae8:=aG (p.cons.length:Int);have afp:p.cons.length≤9223372036854775807:=by obtain⟨_,_,_,_,h,_⟩:=au.form hp.cons (by decide);exact h
 have afd:(eL gN p.aN).length=(eN (p.aN.length:Int)).length+(p.aN.flatMap gN).length:=by unfold eL;rw[ajD]
 have ae7:=aG (p.aN.length:Int);have afo:p.aN.length≤9223372036854775807:=by obtain⟨_,_,_,_,h,_⟩:=SliceAt.form hp.aN (by decide);exact h
 have afc:(eL fC p.files).length=(eN (p.files.length:Int)).length+(p.files.flatMap fC).length:=by unfold eL;rw[ajD]
 have ae6:=aG (p.files.length:Int);have afn:p.files.length≤9223372036854775807:=by obtain⟨_,_,_,_,h,_⟩:=SliceAt.form hp.files (by decide);exact h
 have afb:(eL fE p.asserts).length=(eN (p.asserts.length:Int)).length+(p.asserts.flatMap fE).length:=by unfold eL;rw[ajD]
 have ae5:=aG (p.asserts.length:Int);have afm:p.asserts.length≤9223372036854775807:=by obtain⟨_,_,_,_,h,_⟩:=SliceAt.form hp.asserts (by decide);exact h
 refine bY M [] (fn:=Tryz.f132) Tryz.func132 rfl Tryz.ntmps132 rfl<|fun g1 w1 M1=>?_
 refine lb 0<|an rfl<|dS (l:=xs++eN (p.cons.length:Int)) 1 M1 rfl (fun M=>aX (n:=(p.cons.length:Int)) M (by(try simp only[ajD]);omega)) fun v1 w1 M1=>lp (ι:=Nat×Value) (fun z=>[(4,.int .i64 (z.1:Int))]) (fun z=>(g1,39,#[.slice a0 p.classes.length k0,.slice a1 p.types.length k1,.slice a2 p.attrs.length k2,.slice a3 p.roles.length k3,.slice a4 p.users.length k4,.slice a5 p.bools.length k5,.slice a6 p.ay.length k6,.slice a7 p.cats.length k7,.slice a8 p.conds.length k8,.slice a9 p.rules.length k9,.slice nr p.trans.length k10,.slice mH p.ak.length k11,.slice a12 p.ranges.length k12,.slice mF p.cons.length k13,.slice mE p.aN.length k14,.slice og p.files.length k15,.slice n_ p.asserts.length k16])::fA W z.2 (v:Int)::bs) (fun z=>aH z.2 (xs++(eN (p.cons.length:Int)++(p.cons.take z.1).flatMap gS))::rs) (fun z _=>z.1≤p.cons.length) (fun z=>p.cons.length-z.1) (0,v1)<|an ⟨⟨rfl,trivial⟩,fun M=>⟨M.cast rfl (by simp),ajE _⟩⟩ ?_
 rintro⟨j,u2⟩ w2 M2 hj;have hj:j≤p.cons.length:=hj;refine lb 0<|an rfl<|an (fun h=>?_) fun h=>?_
 ·have hlt:j<p.cons.length:=Int.ofNat_lt.1 (of_decide_eq_true h);obtain⟨y,hy⟩:∃ y,p.cons[j]?=some y:=⟨_,ajF hlt⟩;have fB:=cS gS hy;have gY:=ajG hy;have mP:=hok.cons y gY;have JW:(gS y).length=(eN y.cls).length+((eN y.perms).length+((eB y.val).length+((eE y.expr).length))):=by unfold gS;simp only[ajD]
  have gZ:(xs++(eN (p.cons.length:Int)++(p.cons.take j).flatMap gS)).length+(gS y).length+300≤aF:=by simp only[ajD];omega
  simp only[ajD] at gZ;have:=aG y.cls;obtain⟨b,off,x,e1,hx,hc⟩:=au.elt hp.cons (by decide) hy;obtain⟨es,rfl,WV⟩:=hx;have TL:=WV;obtain⟨nv,kv,rfl,vh,hkv⟩:=TL.open;obtain⟨_,_,rfl,-⟩:=aJ.get vh;obtain⟨_,_,rfl,-,-,-⟩:=au.form hkv (by decide);exact lb 0<|an rfl<|ia<|an ⟨e1,rfl,hlt⟩<|lc<|an (cL M2.below hc)<|ei<|an KM fun g7 w7 M7=>lb 0<|an ⟨rfl,rfl⟩ fun w7b M7b=>lb 0<|an rfl<|dS 2 M7b rfl (fun M=>aX (n:=y.cls) M (by(try simp only[ajD]);omega)) fun v3 w3 M3=>lb 0<|an rfl<|dS 2 M3 rfl (fun M=>LR (n:=y.perms) M mP.perms (by(try simp only[ajD]);omega)) fun v4 w4 M4=>lb 0<|an rfl<|dS 2 M4 rfl (fun M=>Bg (b:=y.val) M (by(try simp only[ajD]);omega)) fun v5 w5 M5=>lb 0<|an rfl<|dS 2 M5 rfl (fun M=>LU y.expr w0 _ _ _ _ _ _ WV mP.expr M (by(try simp only[ajD]);omega)) fun v6 w6 M6=>an (by omega)<|bk (j+1,_) ⟨rfl,trivial⟩ (fun M=>⟨(M.only (.cons _ (.refl _)) (.refl _)).cast rfl (by rw[List.take_add_one,hy,ajH,Option.toList_some,List.flatMap_cons,List.flatMap_nil,List.append_nil,gS];simp only[List.append_assoc,List.append_nil,List.nil_append]),hlt⟩) (by dsimp only;omega)
 have hge:j=p.cons.length:=Nat.le_antisymm hj (Nat.le_of_not_lt fun h2=>of_decide_eq_false h (Int.ofNat_lt.2 h2));subst hge;obtain⟨Ot,Dy⟩:∃ a,a=xs++eL gS p.cons:=⟨_,rfl⟩;have ae0:Ot.length=xs.length+(eL gS p.cons).length:=by rw[Dy,ajD]
 have WM:xs++(eN (p.cons.length:Int)++(p.cons.take p.cons.length).flatMap gS)=Ot:=by rw[ajI,Dy];rfl
 have aaJ:=congrArg List.length WM;simp only[ajD] at aaJ;refine lb 0<|an rfl<|dS (l:=Ot++eN (p.aN.length:Int)) 1 M2 rfl (fun M=>by rw[← WM];exact aX (n:=(p.aN.length:Int)) M (by(try simp only[ajD]);omega)) fun v8 w8 M8=>lp (ι:=Nat×Value) (fun z=>[(6,.int .i64 (z.1:Int))]) (fun z=>(g1,39,#[.slice a0 p.classes.length k0,.slice a1 p.types.length k1,.slice a2 p.attrs.length k2,.slice a3 p.roles.length k3,.slice a4 p.users.length k4,.slice a5 p.bools.length k5,.slice a6 p.ay.length k6,.slice a7 p.cats.length k7,.slice a8 p.conds.length k8,.slice a9 p.rules.length k9,.slice nr p.trans.length k10,.slice mH p.ak.length k11,.slice a12 p.ranges.length k12,.slice mF p.cons.length k13,.slice mE p.aN.length k14,.slice og p.files.length k15,.slice n_ p.asserts.length k16])::fA W z.2 (v:Int)::bs) (fun z=>aH z.2 (Ot++(eN (p.aN.length:Int)++(p.aN.take z.1).flatMap gN))::rs) (fun z _=>z.1≤p.aN.length) (fun z=>p.aN.length-z.1) (0,v8)<|an ⟨⟨rfl,trivial⟩,fun M=>⟨M.cast rfl (by simp),ajE _⟩⟩ ?_
 rintro⟨j,u9⟩ w9 M9 hj;have hj:j≤p.aN.length:=hj;refine lb 0<|an rfl<|an (fun h=>?_) fun h=>?_
 ·have hlt:j<p.aN.length:=Int.ofNat_lt.1 (of_decide_eq_true h);obtain⟨y,hy⟩:∃ y,p.aN[j]?=some y:=⟨_,ajF hlt⟩;have fB:=cS gN hy;have gY:=ajG hy;have mP:=hok.aN y gY;have JW:(gN y).length=(eS y.name).length+((qt y.ctx).length):=by unfold gN;simp only[ajD]
  have gZ:(Ot++(eN (p.aN.length:Int)++(p.aN.take j).flatMap gN)).length+(gN y).length+300≤aF:=by simp only[ajD];omega
  simp only[ajD] at gZ;obtain⟨b,off,e1,hc⟩:=SliceAt.elt hp.aN (f:=iY.cells) (fun _=>rfl) (by decide) hy hlt;exact lb 0<|an rfl<|ia<|an ⟨e1,rfl,hlt⟩<|lc (x:=.string y.name)<|an (cL M9.below hc 0 _ rfl)<|dS 1 M9 rfl (fun M=>lR (s:=y.name) M (by(try simp only[ajD]);omega)) fun v10 pE jH=>lb 0<|an rfl<|ia<|an ⟨e1,rfl,hlt⟩<|lc (x:=y.ctx.cells)<|an (fR (cL jH.below hc) rfl)<|dS 1 jH rfl (fun M=>zV (c:=y.ctx) M mP.ctx.rng.low.cats mP.ctx.rng.high.cats (by(try simp only[ajD]);omega)) fun v11 uO M11=>an (by omega)<|bk (j+1,_) ⟨rfl,trivial⟩ (fun M=>⟨(M.only (.refl _) (.refl _)).cast rfl (by rw[List.take_add_one,hy,ajH,Option.toList_some,List.flatMap_cons,List.flatMap_nil,List.append_nil,gN];simp only[List.append_assoc,List.append_nil,List.nil_append]),hlt⟩) (by dsimp only;omega)
 have hge:j=p.aN.length:=Nat.le_antisymm hj (Nat.le_of_not_lt fun h2=>of_decide_eq_false h (Int.ofNat_lt.2 h2));subst hge;obtain⟨Oq,Bw⟩:∃ a,a=Ot++eL gN p.aN:=⟨_,rfl⟩;have aeZ:Oq.length=Ot.length+(eL gN p.aN).length:=by rw[Bw,ajD]
 have TF:Ot++(eN (p.aN.length:Int)++(p.aN.take p.aN.length).flatMap gN)=Oq:=by rw[ajI,Bw];rfl
 have aaI:=congrArg List.length TF;simp only[ajD] at aaI;refine lb 1<|an rfl<|an (fun h=>?_) fun h=>?_
 ·have hv:¬ 3≤v:=(by have:=of_decide_eq_true h;omega);exact fun M=>⟨rfl,_,(M.only (.cons _ (.refl _)) (.refl _)).cast rfl (by dsimp only;rw[TF,Qu,if_neg hv,if_neg hv];simp only[Dy,Bw,List.append_assoc,List.append_nil])⟩
 have hv:3≤v:=(by have:=of_decide_eq_false h;omega);rw[if_pos hv,if_pos hv] at hl;refine lb 0<|an rfl<|dS (l:=Oq++eN (p.files.length:Int)) 1 M9 rfl (fun M=>by rw[← TF];exact aX (n:=(p.files.length:Int)) M (by(try simp only[ajD]);omega)) fun v12 zi q5=>lp (ι:=Nat×Value) (fun z=>[(7,.int .i64 (z.1:Int))]) (fun z=>(g1,39,#[.slice a0 p.classes.length k0,.slice a1 p.types.length k1,.slice a2 p.attrs.length k2,.slice a3 p.roles.length k3,.slice a4 p.users.length k4,.slice a5 p.bools.length k5,.slice a6 p.ay.length k6,.slice a7 p.cats.length k7,.slice a8 p.conds.length k8,.slice a9 p.rules.length k9,.slice nr p.trans.length k10,.slice mH p.ak.length k11,.slice a12 p.ranges.length k12,.slice mF p.cons.length k13,.slice mE p.aN.length k14,.slice og p.files.length k15,.slice n_ p.asserts.length k16])::fA W z.2 (v:Int)::bs) (fun z=>aH z.2 (Oq++(eN (p.files.length:Int)++(p.files.take z.1).flatMap fC))::rs) (fun z _=>z.1≤p.files.length) (fun z=>p.files.length-z.1) (0,v12)<|an ⟨⟨rfl,trivial⟩,fun M=>⟨M.cast rfl (by simp),ajE _⟩⟩ ?_
 rintro⟨j,YT⟩ KD zf hj;have hj:j≤p.files.length:=hj;refine lb 0<|an rfl<|an (fun h=>?_) fun h=>?_
 ·have hlt:j<p.files.length:=Int.ofNat_lt.1 (of_decide_eq_true h);obtain⟨y,hy⟩:∃ y,p.files[j]?=some y:=⟨_,ajF hlt⟩;have fB:=cS fC hy;have gY:=ajG hy;have mP:=hok.files y gY;have JW:(fC y).length=(eS y.pat).length+((eN y.kind).length+((qt y.ctx).length)):=by unfold fC;simp only[ajD]
  have gZ:(Oq++(eN (p.files.length:Int)++(p.files.take j).flatMap fC)).length+(fC y).length+300≤aF:=by simp only[ajD];omega
  simp only[ajD] at gZ;have:=aG y.kind;obtain⟨b,off,e1,hc⟩:=SliceAt.elt hp.files (f:=jF.cells) (fun _=>rfl) (by decide) hy hlt;exact lb 0<|an rfl<|ia<|an ⟨e1,rfl,hlt⟩<|lc (x:=.string y.pat)<|an (cL zf.below hc 0 _ rfl)<|dS 1 zf rfl (fun M=>lR (s:=y.pat) M (by(try simp only[ajD]);omega)) fun QL KC Cb=>lb 0<|an rfl<|ia<|an ⟨e1,rfl,hlt⟩<|lc (x:=.int .i64 y.kind)<|an (cL Cb.below hc 1 _ rfl)<|dS 1 Cb rfl (fun M=>aX (n:=y.kind) M (by(try simp only[ajD]);omega)) fun UN Ec rL=>lb 0<|an rfl<|ia<|an ⟨e1,rfl,hlt⟩<|lc (x:=y.ctx.cells)<|an (fR (cL rL.below hc) rfl)<|dS 1 rL rfl (fun M=>zV (c:=y.ctx) M mP.ctx.rng.low.cats mP.ctx.rng.high.cats (by(try simp only[ajD]);omega)) fun QK KA vG=>an (by omega)<|bk (j+1,_) ⟨rfl,trivial⟩ (fun M=>⟨(M.only (.refl _) (.refl _)).cast rfl (by rw[List.take_add_one,hy,ajH,Option.toList_some,List.flatMap_cons,List.flatMap_nil,List.append_nil,fC];simp only[List.append_assoc,List.append_nil,List.nil_append]),hlt⟩) (by dsimp only;omega)
 have hge:j=p.files.length:=Nat.le_antisymm hj (Nat.le_of_not_lt fun h2=>of_decide_eq_false h (Int.ofNat_lt.2 h2));subst hge;obtain⟨LB,Dx⟩:∃ a,a=Oq++eL fC p.files:=⟨_,rfl⟩;have aeY:LB.length=Oq.length+(eL fC p.files).length:=by rw[Dx,ajD]
 have WL:Oq++(eN (p.files.length:Int)++(p.files.take p.files.length).flatMap fC)=LB:=by rw[ajI,Dx];rfl
 have aaH:=congrArg List.length WL;simp only[ajD] at aaH;refine lb 0<|an rfl<|dS (l:=LB++eN (p.asserts.length:Int)) 1 zf rfl (fun M=>by rw[← WL];exact aX (n:=(p.asserts.length:Int)) M (by(try simp only[ajD]);omega)) fun v17 OO Av=>lp (ι:=Nat×Value) (fun z=>[(8,.int .i64 (z.1:Int))]) (fun z=>(g1,39,#[.slice a0 p.classes.length k0,.slice a1 p.types.length k1,.slice a2 p.attrs.length k2,.slice a3 p.roles.length k3,.slice a4 p.users.length k4,.slice a5 p.bools.length k5,.slice a6 p.ay.length k6,.slice a7 p.cats.length k7,.slice a8 p.conds.length k8,.slice a9 p.rules.length k9,.slice nr p.trans.length k10,.slice mH p.ak.length k11,.slice a12 p.ranges.length k12,.slice mF p.cons.length k13,.slice mE p.aN.length k14,.slice og p.files.length k15,.slice n_ p.asserts.length k16])::fA W z.2 (v:Int)::bs) (fun z=>aH z.2 (LB++(eN (p.asserts.length:Int)++(p.asserts.take z.1).flatMap fE))::rs) (fun z _=>z.1≤p.asserts.length) (fun z=>p.asserts.length-z.1) (0,v17)<|an ⟨⟨rfl,trivial⟩,fun M=>⟨M.cast rfl (by simp),ajE _⟩⟩ ?_
 rintro⟨j,u18⟩ OM Gs hj;have hj:j≤p.asserts.length:=hj;refine lb 0<|an rfl<|an (fun h=>?_) fun h=>?_
 ·have hlt:j<p.asserts.length:=Int.ofNat_lt.1 (of_decide_eq_true h);obtain⟨y,hy⟩:∃ y,p.asserts[j]?=some y:=⟨_,ajF hlt⟩;have fB:=cS fE hy;have gY:=ajG hy;have mP:=hok.asserts y gY;have JW:(fE y).length=(eS y.name).length+((eN y.kind).length+((eT y.src).length+((eT y.tgt).length))):=by unfold fE;simp only[ajD]
  have gZ:(LB++(eN (p.asserts.length:Int)++(p.asserts.take j).flatMap fE)).length+(fE y).length+300≤aF:=by simp only[ajD];omega
  simp only[ajD] at gZ;have:=aG y.kind;obtain⟨b,off,e1,hc⟩:=SliceAt.elt hp.asserts (f:=jt.cells) (fun _=>rfl) (by decide) hy hlt;exact lb 0<|an rfl<|ia<|an ⟨e1,rfl,hlt⟩<|lc (x:=y.cells)<|an (cL Gs.below hc)<|ei<|an Ci fun g23 Vm OA=>lb 0<|an ⟨rfl,rfl⟩ fun ac9 abF=>lb 0<|an rfl<|dS 2 abF rfl (fun M=>lR (s:=y.name) M (by(try simp only[ajD]);omega)) fun Vz RJ OC=>lb 0<|an rfl<|dS 2 OC rfl (fun M=>aX (n:=y.kind) M (by(try simp only[ajD]);omega)) fun v20 Vp Og=>lb 0<|an rfl<|dS 2 Og rfl (fun M=>lS (s:=y.src) M mP.src (by(try simp only[ajD]);omega)) fun v21 Vo OB=>lb 0<|an rfl<|dS 2 OB rfl (fun M=>lS (s:=y.tgt) M mP.tgt (by(try simp only[ajD]);omega)) fun v22 Vn UG=>an (by omega)<|bk (j+1,_) ⟨rfl,trivial⟩ (fun M=>⟨(M.only (.cons _ (.refl _)) (.refl _)).cast rfl (by rw[List.take_add_one,hy,ajH,Option.toList_some,List.flatMap_cons,List.flatMap_nil,List.append_nil,fE];simp only[List.append_assoc,List.append_nil,List.nil_append]),hlt⟩) (by dsimp only;omega)
 have hge:j=p.asserts.length:=Nat.le_antisymm hj (Nat.le_of_not_lt fun h2=>of_decide_eq_false h (Int.ofNat_lt.2 h2));subst hge;obtain⟨VQ,yj⟩:∃ a,a=LB++eL fE p.asserts:=⟨_,rfl⟩;have aeX:VQ.length=LB.length+(eL fE p.asserts).length:=by rw[yj,ajD]
 have WK:LB++(eN (p.asserts.length:Int)++(p.asserts.take p.asserts.length).flatMap fE)=VQ:=by rw[ajI,yj];rfl
 have aaG:=congrArg List.length WK;simp only[ajD] at aaG;exact fun M=>⟨rfl,_,(M.only (.cons _ (.refl _)) (.refl _)).cast rfl (by dsimp only;rw[WK,Qu,if_pos hv,if_pos hv];simp only[Dy,Bw,Dx,yj,List.append_assoc])⟩
theorem yI(v:Nat)(p:aA):gD v p=Rj v p++(Qv v p++Qu v p):=by
 unfold gD Rj Qv Qu;simp only[List.append_assoc]
end
theorem IX{a b:List Nat}(ha:Bytes a)(hb:Bytes b)(h:strOf a=strOf b):a=b:=by
 have h1:a.map UInt8.ofNat=b.map UInt8.ofNat:=by
  have:=congrArg (fun s:ByteArray=>s.data.toList) h;simpa[strOf] using this
 have key:∀ l:List Nat,Bytes l→(l.map UInt8.ofNat).map UInt8.toNat=l:=fun l hl=>by
  rw[List.map_map]
  conv=>rhs;rw[← List.map_id l]
  refine List.map_congr_left fun x hx=>?_
  have:=hl x hx;simp;omega
 rw[← key a ha,← key b hb,h1]
theorem Lr{a b:List Nat}(ha:Bytes a)(hb:Bytes b):((strOf a).toList == (strOf b).toList)=decide (a=b):=by
 rw[kA,decide_eq_decide];exact⟨IX ha hb,fun e=>by rw[e]⟩
theorem TP{w:World}{g:Nat}{cs:Array Value}(hW:Whole w g 5 cs):(w.freeze ⟨g,cs.size,none⟩ 1).heap[g]?=some (.cells cs 5 (cs.size,cs.size+1)):=by
 unfold World.freeze;rw[if_neg (by decide)];have h:w.heap[g]?=some (.cells cs 5 (0,0)):=hW;simp[Array.getElem?_modify,h]
theorem BF{w:World}{g q:Nat}(h:q≠g)(n:Nat):(w.freeze ⟨g,n,none⟩ 1).heap[q]?=w.heap[q]?:=by
 unfold World.freeze;rw[if_neg (by decide)];simp[Array.getElem?_modify,Ne.symm h]
theorem aC.frz{B:Nat}{w0 w:World}{bs:List Bx}{rs:List Rw}{g:Nat}{cs:Array Value}(M:aC B w0 w ((g,5,cs)::bs) rs):aC B w0 (w.freeze ⟨g,cs.size,none⟩ 1) bs rs:=by
 have hW:Whole w g 5 cs:=M.b 0 rfl;have hnd:=M.nd;simp only[List.map_cons,List.nodup_cons] at hnd;have hg:∀ b∈bs,b.1≠g:=fun b hb e=>hnd.1 (e▸List.mem_map_of_mem hb)
 refine⟨Lib.below_freeze M.below (M.lo _ (ajJ ..)) _,M.le,fun q cs' h=>?_,fun b hb=>(M.box b (ajK _ hb)).kept (BF (hg b hb) _),fun b hb=>M.lo b (ajK _ hb),hnd.2,fun r hr=>?_,fun r hr b hb=>M.far r hr b (ajK _ hb),M.tZ⟩
 ·have h1:Whole w q _ cs':=M.old q cs' h
  have hne:q≠g:=fun e=>by
   subst e;have h3:=h1.symm.trans hW;injection h3 with h3;injection h3 with _ h3;cases h3
  exact(BF hne _).trans h1
 ·obtain⟨hl,h⟩:=M.row r hr;rcases h with⟨h1,h2⟩|⟨q,cap,cur,h1,h2,h3,h4⟩
  ·exact⟨hl,.inl ⟨h1,h2⟩⟩
  ·have hne:q≠g:=fun e=>M.far r hr _ (ajJ ..) (by rw[h1,e];rfl)
   exact⟨hl,.inr ⟨q,cap,cur,h1,h2,(BF hne _).trans h3,h4⟩⟩
theorem Uk{w:World}{g n c:Nat}{cs:Array Value}(hW:Whole w g 5 cs):(convert 42 42 (.slice (some ⟨g,0,none⟩) n c)).run Tryz.prog w=.ok (.slice (some ⟨g,0,none⟩) n c) (w.freeze ⟨g,cs.size,none⟩ 1):=by
 have h:w.heap[g]?=some (.cells cs 5 (0,0)):=hW;have hsh:w.shape? g=some (5,cs.size):=by unfold World.shape?;rw[h]
 simp[convert,oF IG,oF u5,Sem.run_bind,markStringish,hsh]
theorem aa6{B:Nat}{w0 w:World}{bs:List Bx}{rs:List Rw}{ty:TypeId}{x:Operand}{g:Nat}{l:List Nat}{K:Value→List Bx→List Rw→World→Prop}(M:aC B w0 w ((g,5,(byteCells l).toArray)::bs) rs)(hl:l.length≤100000)(h:∀ w',zC w' (.slice (some ⟨g,0,none⟩) l.length l.length) l→aC B w0 w' bs rs→K (.slice (some ⟨g,0,none⟩) l.length l.length) bs rs w'):
 ∃ R:Value→World→Prop,(∀ (a:Act) (o':Oper),o'.op=.convert 42 42 x→o'.type=ty→q6 a (gb (.convert 42 42 x)) [.slice (some ⟨g,0,none⟩) l.length l.length]→∃ v w',(execOp a.eval o').run Tryz.prog w=.ok (.value v) w'∧R v w')∧∀ v w',R v w'→∃ bs' rs',aC B w0 w' bs' rs'∧K v bs' rs' w':=by
 have hW:Whole w g 5 (byteCells l).toArray:=M.b 0 rfl;refine⟨fun u w2=>u=.slice (some ⟨g,0,none⟩) l.length l.length∧w2=w.freeze ⟨g,(byteCells l).toArray.size,none⟩ 1,fun a o' hop _ oO=>⟨_,_,?_,rfl,rfl⟩,?_⟩
 ·unfold execOp;simp[hop,aQ oO,Uk hW,Sem.run_bind,Result.andThen]
 ·rintro v w2 ⟨rfl,rfl⟩;refine⟨_,_,M.frz,h _ ⟨by simp[byteCells],by unfold maxLen;omega,iW l,.inr ⟨_,_,rfl,Nat.le_refl _,fun j u hu=>?_⟩⟩ M.frz⟩;rw[Addr.add_lit,Nat.zero_add,cell_of_row _ _ j _ _ _ (TP hW)];simpa using hu
theorem LV{w0:World}{p:aA}{c0 c1 c2 c3 c4 c5 c6 c7 c8 c9 c10 c11 c12 c13 c14 c15 c16:Value}(hp:aD w0 c0 c1 c2 c3 c4 c5 c6 c7 c8 c9 c10 c11 c12 c13 c14 c15 c16 p)(hok:p.Ok){v:Nat}(hv:v≤3)(hb:(gD v p).length+2000≤aF):Calls Tryz.prog 40 #[.agg #[c0,c1,c2,c3,c4,c5,c6,c7,c8,c9,c10,c11,c12,c13,c14,c15,c16],.int .i64 (v:Int)] w0 (Gr w0 (dB v p)):=by
 have hp':=hp;obtain⟨a0,a1,a2,a3,a4,a5,a6,a7,a8,a9,nr,mH,a12,mF,mE,og,n_,k0,k1,k2,k3,k4,k5,k6,k7,k8,k9,k10,k11,k12,k13,k14,k15,k16,rfl,rfl,rfl,rfl,rfl,rfl,rfl,rfl,rfl,rfl,rfl,rfl,rfl,rfl,rfl,rfl,rfl⟩:=hp.open;have hsp:=congrArg List.length (yI v p);simp only[ajD] at hsp;have hn:=aG (v:Int);refine OP 2 [] (fn:=Tryz.f40) Tryz.func40 rfl Tryz.ntmps40 rfl<|fun g1 w1 M1=>an rfl<|fun g2 w2 M2=>aa6 (l:=[65,67,80,66]) M2 (by decide) fun w2 h2 M2=>ei (x:=.agg #[.slice (some ⟨g2,0,none⟩) 4 4,.int .i64 (v:Int)])<|an (bd (by kernel_rfl))<|fun g3 w3 M3=>an rfl fun eu=>?_
 have M3:aC w0.heap.size w0 w3 [fA g3 (.slice (some ⟨g2,0,none⟩) 4 4) (v:Int),(g1,39,#[.slice a0 p.classes.length k0,.slice a1 p.types.length k1,.slice a2 p.attrs.length k2,.slice a3 p.roles.length k3,.slice a4 p.users.length k4,.slice a5 p.bools.length k5,.slice a6 p.ay.length k6,.slice a7 p.cats.length k7,.slice a8 p.conds.length k8,.slice a9 p.rules.length k9,.slice nr p.trans.length k10,.slice mH p.ak.length k11,.slice a12 p.ranges.length k12,.slice mF p.cons.length k13,.slice mE p.aN.length k14,.slice og p.files.length k15,.slice n_ p.asserts.length k16])] []:=M2.Dr M3;refine cg (R:=fun r w'=>r=.tuple #[]∧∃ u,aC w0.heap.size w0 w' [fA g3 u (v:Int),(g1,39,#[.slice a0 p.classes.length k0,.slice a1 p.types.length k1,.slice a2 p.attrs.length k2,.slice a3 p.roles.length k3,.slice a4 p.users.length k4,.slice a5 p.bools.length k5,.slice a6 p.ay.length k6,.slice a7 p.cats.length k7,.slice a8 p.conds.length k8,.slice a9 p.rules.length k9,.slice nr p.trans.length k10,.slice mH p.ak.length k11,.slice a12 p.ranges.length k12,.slice mF p.cons.length k13,.slice mE p.aN.length k14,.slice og p.files.length k15,.slice n_ p.asserts.length k16])] [aH u ([65,67,80,66]++eN (v:Int))])<|an ((Je (n:=(v:Int)) M3 (h2.keep eu) (by unfold aF;simp)).mono fun e w' ⟨h1,h2⟩=>⟨_,h1,rfl,h2⟩) ?_;rintro _ w4 ⟨rfl,u4,M4⟩;refine⟨_,_,M4,lb 1<|an rfl<|dS 0 M4 rfl (fun M=>Jd hp' hok M (by simp only[ajD,List.length_cons,List.length_nil];omega)) fun v5 w5 M5=>lb 1<|an rfl<|dS 0 M5 rfl (fun M=>Ph hp' hok M (by simp only[ajD,List.length_cons,List.length_nil];omega)) fun v6 w6 M6=>lb 1<|an rfl<|dS 0 M6 rfl (fun M=>LS hp' hok M (by simp only[ajD,List.length_cons,List.length_nil];omega)) fun v7 w7 M7=>lb 0<|an rfl<|fun M=>⟨v7,rfl,?_,M.below⟩⟩;have h:=M.r 0 rfl
 have e:[65,67,80,66]++eN (v:Int)++Rj v p++Qv v p++Qu v p=dB v p:=by
  unfold dB;rw[yI,GY (by omega)];simp only[List.append_assoc]
 rw[e] at h;exact h
theorem RZ{w0:World}{u v:Value}{xs ys:List Nat}(hx:aj w0 u xs)(hy:aj w0 v ys):Calls Tryz.prog 50 #[u,v] w0 (fun r w'=>r=.returned (.bool (decide (xs=ys)))∧ajL w0.heap.size w0 w'):=by
 have hx':=hx;have hy':=hy;obtain⟨_,_,rfl,-⟩:=kr hx';obtain⟨_,_,rfl,-⟩:=kr hy';refine bU [] (fn:=Tryz.f50) Tryz.func50 rfl Tryz.ntmps50 rfl<|J6 (Mm.start w0) hx<|J6 (Mm.start w0) hy<|fun M=>⟨?_,M.below⟩
 rw[← Lr hx.2 hy.2];rfl
theorem Lw{w0:World}{p q:aA}{c0 c1 c2 c3 c4 c5 c6 c7 c8 c9 c10 c11 c12 c13 c14 c15 c16:Value}{d0 d1 d2 d3 d4 d5 d6 d7 d8 d9 Va U_ U9 U8 U7 U6 U5:Value}(hp:aD w0 c0 c1 c2 c3 c4 c5 c6 c7 c8 c9 c10 c11 c12 c13 c14 c15 c16 p)(hok:p.Ok)(hq:aD w0 d0 d1 d2 d3 d4 d5 d6 d7 d8 d9 Va U_ U9 U8 U7 U6 U5 q)(hoq:q.Ok)(hb:(gD 3 p).length+2000≤aF)(hb2:(gD 3 q).length+2000≤aF):
 Calls Tryz.prog 20 #[.agg #[c0,c1,c2,c3,c4,c5,c6,c7,c8,c9,c10,c11,c12,c13,c14,c15,c16],.agg #[d0,d1,d2,d3,d4,d5,d6,d7,d8,d9,Va,U_,U9,U8,U7,U6,U5]] w0 (fun r w'=>r=.returned (.bool (decide (dB 3 p=dB 3 q)))∧ajL w0.heap.size w0 w'):=by
 have hp':=hp;have hq':=hq;obtain⟨_,_,_,_,_,_,_,_,_,_,_,_,_,_,_,_,_,_,_,_,_,_,_,_,_,_,_,_,_,_,_,_,_,_,rfl,rfl,rfl,rfl,rfl,rfl,rfl,rfl,rfl,rfl,rfl,rfl,rfl,rfl,rfl,rfl,rfl⟩:=hp.open;obtain⟨_,_,_,_,_,_,_,_,_,_,_,_,_,_,_,_,_,_,_,_,_,_,_,_,_,_,_,_,_,_,_,_,_,_,rfl,rfl,rfl,rfl,rfl,rfl,rfl,rfl,rfl,rfl,rfl,rfl,rfl,rfl,rfl,rfl,rfl⟩:=hq.open;refine bU [] (fn:=Tryz.f20) Tryz.func20 rfl Tryz.ntmps20 rfl<|fun g1 w1 M1=>fun g2 w2 M2=>sp [0,2] (.step 1 (.step 3 (.step 4 (.step 5 .done)))) [0,1] (by kernel_rfl)<|lb 0<|an rfl<|lb 1<|an rfl<|fun w3 eu M3=>?_
 exact cw M3 (LV (hp'.keep M3.below) hok (v:=3) (by decide) hb) fun u4 w4 M4=>an rfl<|cw M4 (LV (hq'.keep M4.below) hoq (v:=3) (by decide) hb2) fun u5 w5 M5=>an rfl<|cl<|an (RZ (dX (M5.r 1 rfl) (qx 3 p)) (dX (M5.r 0 rfl) (qx 3 q))) fun w6 M6=>an rfl<|an rfl<|fun M=>⟨rfl,M.below⟩
section
variable {w0 w:World} {bs:List Bx} {rs:List Rw} {R:Nat} {ver:Int} {u:Value} {l:List Nat}
theorem cr.conv{α β:Type}{R:Nat}{P:List Rw→Value→α→Prop}{Q:List Rw→Value→β→Prop}{f:α→β}{p:Ps α}{e:Ending}{w':World}(hQ:∀ T v x,P T v x→Q T v (f x))(h:cr w0 R ver bs rs P (p l) e w'):cr w0 R ver bs rs Q (pb p (fun x=>pp (f x)) l) e w':=by
 unfold pb
 cases hp:p l with
 | error k=>rw[hp] at h;exact h
 | ok y=>
  obtain⟨x,l'⟩:=y;rw[hp] at h;obtain⟨v,T,h1,h2,h3⟩:=h;exact⟨v,T,h1,hQ _ _ _ h2,h3⟩
theorem gI{n:Nat}{l':List Nat}(h:Pm l=.ok (n,l')):n<4294967296:=by
 unfold Pm pb at h;split at h
 ·dsimp only at h;split at h
  ·rename_i h1;unfold pp at h;injection h with h;injection h with h _;subst h;exact h1
  ·unfold pe at h;cases h
 ·cases h
theorem Pk{n:Int}{l':List Nat}(h:iw l=.ok (n,l')):0≤n∧n<4294967296:=by
 unfold iw pb at h;split at h
 ·rename_i x r hp;unfold pp at h;injection h with h;injection h with h _;subst h;have:=gI hp;omega
 ·cases h
theorem gq(M:aC w0.heap.size w0 w (bI R u ver::bs) rs)(hs:fQ u l)(hb:aj w0 u l):Calls Tryz.prog 234 #[.pointer (some ⟨R,0,none⟩)] w (cr w0 R ver bs rs (kZ Vx) (iw l)):=
 (cH M hs hb).mono fun _ _ h=>cr.conv (fun _ _ _ h=>h) h
@[reducible] def YB(n:Int):Value:=.int .u32 n
theorem CS(M:aC w0.heap.size w0 w (bI R u ver::bs) rs)(hs:fQ u l)(hb:aj w0 u l):Calls Tryz.prog 235 #[.pointer (some ⟨R,0,none⟩)] w (cr w0 R ver bs rs (kZ YB) (iw l)):=by
 have hq:iw l=pb iw (fun n=>pp n) l:=by
  cases h:iw l with
  | error k=>unfold pb;rw[h]
  | ok y=>unfold pb;rw[h];rfl
 refine dY M [] (fn:=Tryz.f235) Tryz.func235 rfl Tryz.ntmps235 rfl<|dI 0 hq M rfl (fun M=>gq M hs hb) ?_;intro n l1 u1 w1 hp hr hs1 hb1 M1;have h:=Pk hp;exact ei (x:=.int .u32 n)<|an (fun a w o ho hv=>(dw ho (aQ hv) u3 Oo).trans (by rw[show IntKind.u32.wrap n=n by simp[IntKind.wrap,IntKind.bits,IntKind.signed];omega]))<|fun M=>cr.one hr rfl hs1 hb1 M
theorem EK(M:aC w0.heap.size w0 w (bI R u ver::bs) rs)(hs:fQ u l)(hb:aj w0 u l):Calls Tryz.prog 236 #[.pointer (some ⟨R,0,none⟩)] w (cr w0 R ver bs rs (kZ Vx) (rD l)):=by
 unfold rD;have ho:=VK hs (hb.keep M.below);obtain⟨n,r,e,hX⟩:∃ n r e,bZ l=(n,r,e):=⟨_,_,_,rfl⟩;rw[hX] at ho ⊢;dsimp only at ho ⊢;refine dY M [] (fn:=Tryz.f236) Tryz.func236 rfl Tryz.ntmps236 rfl<|lb 0<|an rfl<|Rp (R:=fun x w'=>∃ u1,x=.tuple #[.int .i64 n,u1,.int .i64 e]∧tU u l u1 r e∧ajL w.heap.size w w') (ho.mono fun _ _ ⟨u,h1,h2⟩=>⟨_,h1,u,rfl,h2⟩) ?_;rintro _ w1 ⟨u1,rfl,hl,hb1⟩;have M1:=M.keep hb1;refine⟨_,_,M1,?_⟩;by_cases he:e=0
 ·subst he;obtain⟨⟨g,off,c,rfl,hc⟩,h2⟩:=hl.ok;refine Xp M1 fun w2 M2=>?_
  by_cases h3:-2147483648≤n∧n<2147483648
  ·exact Um (by simp[h3.1,h3.2]) M2 fun w3 M3=>lb 0<|an ⟨rfl,rfl⟩ fun w4 M4=>fun M=>cr.one (by rw[if_pos rfl,if_pos h3]) rfl ⟨g,off,c,rfl,hc⟩ (h2 _ hb) M
  ·exact Oz (by simp;omega) fun w' h=>cr.err (by rw[if_pos rfl,if_neg h3]) (M2.keep h).below
 ·exact Vb he fun w' h=>cr.err (by rw[if_neg he]) (M1.keep h).below
@[reducible] def Vy(b:Bool):Value:=.bool b
theorem Bb(M:aC w0.heap.size w0 w (bI R u ver::bs) rs)(hs:fQ u l)(hb:aj w0 u l):Calls Tryz.prog 217 #[.pointer (some ⟨R,0,none⟩)] w (cr w0 R ver bs rs (kZ Vy) (uZ l)):=by
 refine dY M [] (fn:=Tryz.f217) Tryz.func217 rfl Tryz.ntmps217 rfl<|dI 0 rfl M rfl (fun M=>cH M hs hb) ?_;intro n l1 u1 w1 hp hr hs1 hb1 M1;by_cases h:n≤1
 ·exact Um (decide_eq_true (by omega)) M1 fun w2 M2=>fun M=>cr.one (by rw[hr,if_pos h];rfl) (congrArg Value.bool (by rw[Bool.eq_iff_iff];simp;omega)) hs1 hb1 M
 ·exact Oz (decide_eq_false (by omega)) fun w' hb=>cr.err (by rw[hr,if_neg h];rfl) (M1.keep hb).below
@[reducible] def YC(s:ByteArray):Value:=.string s
theorem lP(M:aC w0.heap.size w0 w (bI R u ver::bs) rs)(hs:fQ u l)(hb:aj w0 u l)(hL:l.length≤aF):Calls Tryz.prog 213 #[.pointer (some ⟨R,0,none⟩)] w (cr w0 R ver bs rs (kZ YC) (eX l)):=by
 unfold eX;have ho:=RO hs (hb.keep M.below) hL;obtain⟨n,r,e,hX⟩:∃ n r e,kR l 256=(n,r,e):=⟨_,_,_,rfl⟩;rw[hX] at ho ⊢;dsimp only at ho ⊢;refine dY M [] (fn:=Tryz.f213) Tryz.func213 rfl Tryz.ntmps213 rfl<|lb 0<|an rfl<|Rp (R:=fun x w'=>∃ u1,x=.tuple #[.string (strOf n),u1,.int .i64 e]∧tU u l u1 r e∧ajL w.heap.size w w') (ho.mono fun _ _ ⟨u,h1,h2⟩=>⟨_,h1,u,rfl,h2⟩) ?_;rintro _ w1 ⟨u1,rfl,hl,hb1⟩;have M1:=M.keep hb1;refine⟨_,_,M1,?_⟩;by_cases he:e=0
 ·subst he;obtain⟨⟨g,off,c,rfl,hc⟩,h2⟩:=hl.ok;exact Xp M1 fun w2 M2=>lb 0<|an ⟨rfl,rfl⟩ fun w3 M3=>fun M=>cr.one (if_pos rfl) rfl ⟨g,off,c,rfl,hc⟩ (h2 _ hb) M
 ·exact Vb he fun w' h=>cr.err (by rw[if_neg he]) (M1.keep h).below
theorem lQ(M:aC w0.heap.size w0 w (bI R u ver::bs) rs)(hs:fQ u l)(hb:aj w0 u l):Calls Tryz.prog 220 #[.pointer (some ⟨R,0,none⟩)] w (cr w0 R ver bs rs (kZ YD) (lV l)):=by
 unfold lV;have ho:=fun(w:World) (hb:aj w u l)=>VO hs hb
 unfold I5 at ho;obtain⟨n,r,e,hX⟩:∃ n r e,mI l=(n,r,e):=⟨_,_,_,rfl⟩;rw[hX] at ho ⊢;dsimp only at ho ⊢;obtain⟨s,hS⟩:∃ s:aq,s=⟨n.getD 0 0,n.getD 1 0,n.getD 2 0,n.getD 3 0⟩:=⟨_,rfl⟩;rw[← hS]
 have ho':∀ w:World,aj w u l→Calls Tryz.prog 298 #[u] w (fun x w'=>∃ u1,x=.returned (.tuple #[.agg #[.int .u64 s.a,.int .u64 s.b,.int .u64 s.c,.int .u64 s.d],u1,.int .i64 e])∧tU u l u1 r e∧ajL w.heap.size w w'):=by
  rw[hS];exact ho
 refine dY M [] (fn:=Tryz.f220) Tryz.func220 rfl Tryz.ntmps220 rfl<|ei<|an pG fun g1 w1 M1=>lb 1<|an rfl<|Rp (R:=fun x w'=>∃ u1,x=.tuple #[.agg #[.int .u64 s.a,.int .u64 s.b,.int .u64 s.c,.int .u64 s.d],u1,.int .i64 e]∧tU u l u1 r e∧ajL w1.heap.size w1 w') ((ho' _ (hb.keep M1.below)).mono fun _ _ ⟨u,h1,h2⟩=>⟨_,h1,u,rfl,h2⟩) ?_
 rintro _ w2 ⟨u1,rfl,hl,hb2⟩;have M2:=M1.keep hb2;refine⟨_,_,M2,?_⟩;refine ei<|an pG fun g2 w3 M3=>lb 0<|an ⟨rfl,rfl⟩ fun w4 M4=>?_
 by_cases he:e=0
 ·subst he;obtain⟨⟨g,off,c,rfl,hc⟩,h2⟩:=hl.ok;exact Xp M4 fun w5 M5=>lb 2<|an ⟨rfl,rfl⟩ fun w6 M6=>lb 0<|an rfl<|lb 1<|an ⟨rfl,rfl⟩ fun w7 M7=>ei (x:=1)<|an rfl fun M=>cr.one (if_pos rfl) rfl ⟨g,off,c,rfl,hc⟩ (h2 _ hb) (M.only (.cons _ (.cons _ (.refl _))) (.refl _))
 ·exact Vb he fun w' h=>cr.err (by rw[if_neg he]) (M4.keep h).below
@[reducible] def YF(x:jX):Value:=.agg #[.int .i64 x.ay,.int .u64 x.cats]
@[reducible] def YE(x:kQ):Value:=.agg #[.int .i64 x.low.ay,.int .u64 x.low.cats,.int .i64 x.high.ay,.int .u64 x.high.cats]
@[reducible] def YG(x:mG):Value:=.agg #[.int .i64 x.user,.int .i64 x.role,.int .i64 x.typ,.int .i64 x.rng.low.ay,.int .u64 x.rng.low.cats,.int .i64 x.rng.high.ay,.int .u64 x.rng.high.cats]
theorem vW(M:aC w0.heap.size w0 w (bI R u ver::bs) rs)(hs:fQ u l)(hb:aj w0 u l):Calls Tryz.prog 225 #[.pointer (some ⟨R,0,none⟩)] w (cr w0 R ver bs rs (kZ YF) (E3 l)):=by
 refine dY M [] (fn:=Tryz.f225) Tryz.func225 rfl Tryz.ntmps225 rfl<|ei<|an Vg fun g1 w1 M1=>dI 1 rfl M1 rfl (fun M=>gq M hs hb) ?_
 intro s l1 u1 w1 hp hr hs1 hb1 M1;refine dI 1 hr M1 rfl (fun M=>EJ M hs1 hb1) ?_;intro c l2 u2 w2 hp2 bJ cq hb2 M2;exact ei (x:=.agg #[.int .i64 s,.int .u64 (c:Int)])<|an (bd (by kernel_rfl))<|lb 0<|an ⟨rfl,rfl⟩ fun w4 M4=>ei (x:=0)<|an rfl fun M=>cr.one bJ rfl cq hb2 (M.only (.cons _ (.refl _)) (.refl _))
theorem EI(M:aC w0.heap.size w0 w (bI R u ver::bs) rs)(hs:fQ u l)(hb:aj w0 u l):Calls Tryz.prog 226 #[.pointer (some ⟨R,0,none⟩)] w (cr w0 R ver bs rs (kZ YE) (E1 l)):=by
 refine dY M [] (fn:=Tryz.f226) Tryz.func226 rfl Tryz.ntmps226 rfl<|ei<|an Yq fun g1 w1 M1=>dI 1 rfl M1 rfl (fun M=>vW M hs hb) ?_
 intro a l1 u1 w2 hp hr hs1 hb1 M2;refine ei<|an Vg fun g2 w3 M3=>lb 0<|an ⟨rfl,rfl⟩ fun w4 M4=>?_
 refine spP [1] (.alt (.step 0 (.step 2 (.step 3 (.step 4 .done)))) (.step 2 (.step 0 (.step 3 (.step 4 .done))))) [] (by kernel_rfl) fun w5 ze M5=>an ?_ ?_
 ·refine lb 0<|an rfl<|an rfl<|dI 2 hr M5 rfl (fun M=>vW M hs1 hb1) ?_;intro b l2 u2 w6 hp2 bJ cq hb2 M6;exact an rfl<|ei (x:=.agg #[.int .i64 a.ay,.int .u64 (a.cats:Int),.int .i64 b.ay,.int .u64 (b.cats:Int)])<|an (bd (by kernel_rfl))<|an rfl<|lb 1<|an ⟨rfl,rfl⟩ fun w7 M7=>an rfl<|ei (x:=1)<|an rfl fun M=>cr.one bJ rfl cq hb2 (M.only (.cons _ (.cons _ (.refl _))) (.refl _))
 ·refine dI 2 hr M5 rfl (fun M=>vW M hs1 hb1) ?_;intro b l2 u2 w6 hp2 bJ cq hb2 M6;exact an rfl<|lb 0<|an rfl<|an rfl<|ei (x:=.agg #[.int .i64 a.ay,.int .u64 (a.cats:Int),.int .i64 b.ay,.int .u64 (b.cats:Int)])<|an (bd (by kernel_rfl))<|an rfl<|lb 1<|an ⟨rfl,rfl⟩ fun w7 M7=>an rfl<|ei (x:=1)<|an rfl fun M=>cr.one bJ rfl cq hb2 (M.only (.cons _ (.cons _ (.refl _))) (.refl _))
theorem zU(M:aC w0.heap.size w0 w (bI R u ver::bs) rs)(hs:fQ u l)(hb:aj w0 u l):Calls Tryz.prog 247 #[.pointer (some ⟨R,0,none⟩)] w (cr w0 R ver bs rs (kZ YG) (Jg l)):=by
 refine dY M [] (fn:=Tryz.f247) Tryz.func247 rfl Tryz.ntmps247 rfl<|ei<|an RH fun g1 w1 M1=>dI 1 rfl M1 rfl (fun M=>gq M hs hb) ?_
 intro a l1 u1 w2 hp hr hs1 hb1 M2;refine lb 0<|an ⟨rfl,rfl⟩ fun w3 M3=>dI 1 hr M3 rfl (fun M=>gq M hs1 hb1) ?_
 intro b l2 u2 w4 hp2 bJ cq hb2 M4;refine lb 0<|an ⟨rfl,rfl⟩ fun w5 M5=>dI 1 bJ M5 rfl (fun M=>gq M cq hb2) ?_
 intro c l3 u3 w6 kf iN iE eu M6;refine lb 0<|an ⟨rfl,rfl⟩ fun w7 M7=>dI 1 iN M7 rfl (fun M=>EI M iE eu) ?_
 intro d l4 u4 w8 Bz uw tu pI M8;exact lb 0<|an ⟨rfl,rfl⟩ fun w9 M9=>lb 0<|an rfl<|lb 0<|an ⟨rfl,rfl⟩ fun pE jH=>ei (x:=0)<|an rfl fun M=>cr.one uw rfl tu pI (M.only (.cons _ (.refl _)) (.refl _))
end
section
variable {α β γ:Type}
theorem sR(p:Ps α)(f:α→Ps β)(g:β→Ps γ):pb (pb p f) g=pb p fun x=>pb (f x) g:=by
 funext l
 unfold pb;cases p l<;>rfl
theorem sQ(x:α)(g:α→Ps β):pb (pp x) g=g x:=rfl
end
def WZ(T:List Rw)(v:Value)(x:aI):Prop:=∃ (op a rel b:Int) (s:aq) (ka:Option Addr) (m kc:Nat),v=.agg #[.int .i64 op,.int .i64 a,.int .i64 rel,.int .i64 b,.slice none 0 0,.int .u64 s.a,.int .u64 s.b,.int .u64 s.c,.int .u64 s.d,.slice ka m kc]∧iX T [.int .i64 op,.int .i64 a,.int .i64 rel,.int .i64 b,.slice none 0 0,.int .u64 s.a,.int .u64 s.b,.int .u64 s.c,.int .u64 s.d,.slice ka m kc] x
def tj(k n:Nat)(op a r b:Int)(s:aq)(ks:List aI):Ps aI:=pb (vC n (jB k)) fun xs=>pp (.node op a r b [] s (ks++xs))
theorem Bu(k:Nat)(op a r b:Int)(s:aq)(ks:List aI):tj k 0 op a r b s ks=pp (.node op a r b [] s ks):=by
 unfold tj vC;rw[sQ,List.append_nil]
theorem Bt(k n:Nat)(op a r b:Int)(s:aq)(ks:List aI):tj k (n+1) op a r b s ks=pb (jB k) fun x=>tj k n op a r b s (ks++[x]):=by
 unfold tj;rw[vC,sR];congr 1
 funext x
 rw[sR];congr 1
 funext xs
 rw[sQ,List.append_assoc];rfl
theorem S2(k:Nat)(op a r b:Int)(s:aq):tj k 1 op a r b s []=pb (jB k) fun x=>pp (.node op a r b [] s [x]):=by
 rw[Bt];congr 1
theorem S1(k:Nat)(op a r b:Int)(s:aq):tj k 2 op a r b s []=pb (jB k) fun x=>pb (jB k) fun y=>pp (.node op a r b [] s [x,y]):=by
 rw[Bt];congr 1;funext x;rw[Bt];congr 1
theorem VX{α:Type}(a b:α)(rs T:List α):(a::b::(rs++T)).Perm (rs++(a::b::T)):=by
 have h:=(List.perm_append_comm (l₁:=[a,b]) (l₂:=rs)).append_right T;simpa using h
theorem uq{T T9:List Rw}{es:List (List Value)}{ks:List aI}{x:List Value}{y:aI}(hl:es.length=ks.length)(h:∀ (i:Nat) x y,es[i]?=some x→ks[i]?=some y→iX T x y)(hx:iX T9 x y):
 ∀ (i:Nat) x' y',(es++[x])[i]?=some x'→(ks++[y])[i]?=some y'→iX (T++T9) x' y':=fun i x' y' h1 h2=>by
 by_cases hi:i<es.length
 ·rw[List.getElem?_append_left hi] at h1;rw[List.getElem?_append_left (by omega)] at h2;exact(h i x' y' h1 h2).mono fun r hr=>ajM.2 (.inl hr)
 ·have hlt:=(List.getElem?_eq_some_iff.1 h1).1;rw[ajD,List.length_singleton] at hlt;obtain rfl:i=es.length:=by omega
  rw[List.getElem?_append_right (by omega),Nat.sub_self] at h1;rw[List.getElem?_append_right (by omega),hl,Nat.sub_self] at h2;obtain rfl:x=x':=by simpa using h1
  obtain rfl:y=y':=by simpa using h2
  exact hx.mono fun r hr=>ajM.2 (.inr hr)
theorem LQ:∀ (k:Nat) (lv:Int) {w0 w:World} {bs:List Bx} {rs:List Rw} {R:Nat} {ver:Int} {u:Value} {l:List Nat},lv+k=13→k≤12→aC w0.heap.size w0 w (bI R u ver::bs) rs→fQ u l→aj w0 u l →
 Calls Tryz.prog 231 #[.pointer (some ⟨R,0,none⟩),.int .i64 lv] w (cr w0 R ver bs rs WZ (jB k l)):=by
 intro k
 induction k with
 | zero=>
  intro lv w0 w bs rs R ver u l hlv hk M hs hb;refine dY M [] (fn:=Tryz.f231) Tryz.func231 rfl Tryz.ntmps231 rfl<|ei<|an Aw fun g1 w1 M1=>dI 1 rfl M1 rfl (fun M=>gq M hs hb) ?_
  intro op l1 u1 w2 hp hr hs1 hb1 M2;refine lb 0<|an ⟨rfl,rfl⟩ fun w3 M3=>lb 0<|an rfl<|lb 0<|an (fun _=>rfl) ?_
  by_cases h:1≤op∧op≤9
  ·exact Um (by simp[h.1,h.2]) M3 fun w4 M4=>Oz (decide_eq_false (by omega)) fun w' hb=>cr.err (by rw[hr,if_pos h];rfl) (M4.keep hb).below
  ·exact Oz (by simp;omega) fun w' hb=>cr.err (by rw[hr,if_neg h];rfl) (M3.keep hb).below
 | succ k ih=>
  intro lv w0 w bs rs R ver u l hlv hk M hs hb;refine dY M [17] (fn:=Tryz.f231) Tryz.func231 rfl Tryz.ntmps231 rfl<|ei<|an Aw fun g1 w1 M1=>dI 1 rfl M1 rfl (fun M=>gq M hs hb) ?_
  intro op l1 u1 w2 hp hr hs1 hb1 M2;refine lb 0<|an ⟨rfl,rfl⟩ fun w3 M3=>lb 0<|an rfl<|lb 0<|an (fun _=>rfl) ?_
  by_cases h:1≤op∧op≤9
  rotate_left
  ·exact Oz (by simp;omega) fun w' hb=>cr.err (by rw[hr,if_neg h];rfl) (M3.keep hb).below
  rw[if_pos h] at hr;refine Um (by simp[h.1,h.2]) M3 fun w4 M4=>Um (decide_eq_true (by omega)) M4 fun w5 M5=>?_
  refine jo (ι:=Nat×Int×Int×Int×aq×List Nat×Value) (fun(n,a,r,b,s,l',u')=>[(5,.int .i64 (n:Int))]) (fun(n,a,r,b,s,l',u')=>(g1,84,#[.int .i64 op,.int .i64 a,.int .i64 r,.int .i64 b,.slice none 0 0,.int .u64 s.a,.int .u64 s.b,.int .u64 s.c,.int .u64 s.d,.slice none 0 0])::bI R u' ver::bs) (fun _=>rs) (fun(n,a,r,b,s,l',u') _=>n≤2∧fQ u' l'∧aj w0 u' l'∧jB (k+1) l=tj k n op a r b s [] l')<|an ?_ ?_
  ·refine lb 0<|an rfl<|an (fun h1=>?_) fun h1=>?_
   ·have h1:op=1:=of_decide_eq_true h1;rw[if_pos h1] at hr;refine dI 1 hr M5 rfl (fun M=>gq M hs1 hb1) ?_;intro a l2 u2 w6 hp2 bJ cq hb2 M6;exact lb 0<|an ⟨rfl,rfl⟩ fun w7 M7=>je (0,a,0,0,pO,l2,u2) ⟨rfl,trivial⟩ (fun M=>⟨M,by omega,cq,hb2,by rw[bJ,Bu]⟩)
   have h1:op≠1:=of_decide_eq_false h1;rw[if_neg h1] at hr;refine an (fun h2=>?_) fun h2=>?_
   ·have h2:op=8:=of_decide_eq_true h2;rw[if_pos h2] at hr;refine dI 1 hr M5 rfl (fun M=>gq M hs1 hb1) ?_;intro a l2 u2 w6 hp2 bJ cq hb2 M6;refine lb 0<|an ⟨rfl,rfl⟩ fun w7 M7=>dI 1 bJ M7 rfl (fun M=>gq M cq hb2) ?_
    intro r l3 u3 w8 kf iN iE eu M8;refine lb 0<|an ⟨rfl,rfl⟩ fun w9 M9=>dI 1 iN M9 rfl (fun M=>gq M iE eu) ?_
    intro b l4 u4 pE Bz uw tu pI jH;exact lb 0<|an ⟨rfl,rfl⟩ fun uO M11=>je (0,a,r,b,pO,l4,u4) ⟨rfl,trivial⟩ (fun M=>⟨M,by omega,tu,pI,by rw[uw,Bu]⟩)
   have h2:op≠8:=of_decide_eq_false h2;rw[if_neg h2] at hr;refine an (fun h3=>?_) fun h3=>?_
   ·have h3:op=9:=of_decide_eq_true h3;rw[if_pos h3] at hr;refine dI 1 hr M5 rfl (fun M=>gq M hs1 hb1) ?_;intro a l2 u2 w6 hp2 bJ cq hb2 M6;refine lb 0<|an ⟨rfl,rfl⟩ fun w7 M7=>dI 1 bJ M7 rfl (fun M=>lQ M cq hb2) ?_
    intro s l3 u3 w8 kf iN iE eu M8;exact lb 0<|an ⟨rfl,rfl⟩ fun w9 M9=>je (0,a,0,0,s,l3,u3) ⟨rfl,trivial⟩ (fun M=>⟨M,by omega,iE,eu,by rw[iN,Bu]⟩)
   have h3:op≠9:=of_decide_eq_false h3;rw[if_neg h3] at hr;refine an (fun h4=>?_) fun h4=>?_
   ·have h4:op=2:=of_decide_eq_true h4;rw[if_pos h4] at hr;exact je (1,0,0,0,pO,l1,u1) ⟨rfl,trivial⟩ (fun M=>⟨M,by omega,hs1,hb1,by rw[hr,S2]⟩)
   ·have h4:op≠2:=of_decide_eq_false h4;rw[if_neg h4] at hr;exact je (2,0,0,0,pO,l1,u1) ⟨rfl,trivial⟩ (fun M=>⟨M,by omega,hs1,hb1,by rw[hr,S1]⟩)
  ·rintro⟨n,a,r,b,s,l2,u2⟩ w6 M6 ⟨hn,cq,hb2,bJ⟩;dsimp only at hn cq hb2 bJ M6;clear hr hs1 hb1 M5 M4 M3 M2 M1;refine lp (ι:=Nat×List aI×List (List Value)×Value×List Rw×List Nat×Value) (fun(m,ks,es,kv,T,l',u')=>[(50,.int .i64 (m:Int))]) (fun(m,ks,es,kv,T,l',u')=>(g1,84,#[.int .i64 op,.int .i64 a,.int .i64 r,.int .i64 b,.slice none 0 0,.int .u64 s.a,.int .u64 s.b,.int .u64 s.c,.int .u64 s.d,kv])::bI R u' ver::bs) (fun(m,ks,es,kv,T,l',u')=>⟨kv,84,10,m,es.flatten⟩::⟨.slice none 0 0,9,1,0,[]⟩::(rs++T)) (fun(m,ks,es,kv,T,l',u') _=>m≤n∧ks.length=m∧es.length=m∧(∀ x∈es,x.length=10)∧(∀ (i:Nat) x y,es[i]?=some x→ks[i]?=some y→iX T x y)∧fQ u' l'∧aj w0 u' l'∧jB (k+1) l=tj k (n-m) op a r b s ks l') (fun(m,ks,es,kv,T,l',u')=>n-m) (0,[],[],.slice none 0 0,[],l2,u2) (an ⟨⟨rfl,trivial⟩,fun M=>⟨((M.bE 9 1).bE 84 10).cast rfl (by dsimp only;rw[List.append_nil];rfl),ajE _,rfl,rfl,(fun _ h=>by cases h),(fun i x y h=>by simp at h),cq,hb2,bJ⟩⟩ ?_);rintro⟨m,ks,es,kv,T,l3,u3⟩ w7 M7 ⟨hm,hks,hes,h10,hT,iE,eu,iN⟩;dsimp only at hm hks hes h10 hT iE eu iN M7;obtain⟨ka,kc,rfl⟩:=M7.form 0 rfl;refine an (fun h5=>?_) fun h5=>?_
   ·have hlt:m<n:=Int.ofNat_lt.1 (of_decide_eq_true h5);obtain⟨q,hq⟩:∃ q,n-m=q+1:=⟨n-m-1,by omega⟩;rw[hq,Bt] at iN;refine spP [0,2,3,4,8] (.alt (.step 1 (.step 5 (.step 6 (.step 7 (.step 9 .done))))) (.step 5 (.alt (.step 1 (.step 6 (.step 7 (.step 9 .done)))) (.step 6 (.step 1 (.step 7 (.step 9 .done))))))) [] (by kernel_rfl)<|an (by omega) fun w8 hb8 M8=>an ?_ ?_
    ·refine lb 0<|an rfl<|an rfl<|rH 1 iN M8 rfl (fun M=>ih (lv+1) (by omega) (by omega) M iE eu) ?_;rintro _ T9 x l4 u4 w9 Bz uw ⟨op',a',rel',b',s',Yb,m',X9,rfl,Nb⟩ tu pI M9;exact an rfl<|fun g7 pE jH=>an rfl<|zB 0 id rfl (jH.slice 0 rfl (k:=10) (n:=1) rfl rfl (by simp[maxLen])) ⟨by unfold maxLen;omega,by omega⟩ fun va vc uO M11=>an rfl<|lb 1<|an ⟨rfl,rfl⟩ fun zi q5=>an rfl<|an (by omega)<|bk (m+1,ks++[x],es++[[.int .i64 op',.int .i64 a',.int .i64 rel',.int .i64 b',.slice none 0 0,.int .u64 s'.a,.int .u64 s'.b,.int .u64 s'.c,.int .u64 s'.d,.slice Yb m' X9]],.slice va (m+1) vc,T++T9,l4,u4) ⟨rfl,trivial⟩ (fun M=>⟨(M.only (.cons _ (.refl _)) (.refl _)).cast rfl (by dsimp only;rw[← jk,← List.append_assoc rs];rfl),by omega,by rw[ajD,hks];rfl,by rw[ajD,hes];rfl,lY h10 rfl,uq (by omega) hT Nb,tu,pI,by rw[uw,show n-(m+1)=q by omega]⟩) (by dsimp only;omega)
    ·refine rH 1 iN M8 rfl (fun M=>ih (lv+1) (by omega) (by omega) M iE eu) ?_;rintro _ T9 x l4 u4 w9 Bz uw ⟨op',a',rel',b',s',Yb,m',X9,rfl,Nb⟩ tu pI M9;refine an rfl<|an ?_ ?_
     ·exact lb 0<|an rfl<|an rfl<|fun g7 pE jH=>an rfl<|zB 0 id rfl (jH.slice 0 rfl (k:=10) (n:=1) rfl rfl (by simp[maxLen])) ⟨by unfold maxLen;omega,by omega⟩ fun va vc uO M11=>an rfl<|lb 1<|an ⟨rfl,rfl⟩ fun zi q5=>an rfl<|an (by omega)<|bk (m+1,ks++[x],es++[[.int .i64 op',.int .i64 a',.int .i64 rel',.int .i64 b',.slice none 0 0,.int .u64 s'.a,.int .u64 s'.b,.int .u64 s'.c,.int .u64 s'.d,.slice Yb m' X9]],.slice va (m+1) vc,T++T9,l4,u4) ⟨rfl,trivial⟩ (fun M=>⟨(M.only (.cons _ (.refl _)) (.refl _)).cast rfl (by dsimp only;rw[← jk,← List.append_assoc rs];rfl),by omega,by rw[ajD,hks];rfl,by rw[ajD,hes];rfl,lY h10 rfl,uq (by omega) hT Nb,tu,pI,by rw[uw,show n-(m+1)=q by omega]⟩) (by dsimp only;omega)
     ·exact fun g7 pE jH=>an rfl<|lb 1<|an rfl<|an rfl<|zB 0 id rfl (jH.slice 0 rfl (k:=10) (n:=1) rfl rfl (by simp[maxLen])) ⟨by unfold maxLen;omega,by omega⟩ fun va vc uO M11=>an rfl<|lb 1<|an ⟨rfl,rfl⟩ fun zi q5=>an rfl<|an (by omega)<|bk (m+1,ks++[x],es++[[.int .i64 op',.int .i64 a',.int .i64 rel',.int .i64 b',.slice none 0 0,.int .u64 s'.a,.int .u64 s'.b,.int .u64 s'.c,.int .u64 s'.d,.slice Yb m' X9]],.slice va (m+1) vc,T++T9,l4,u4) ⟨rfl,trivial⟩ (fun M=>⟨(M.only (.cons _ (.refl _)) (.refl _)).cast rfl (by dsimp only;rw[← jk,← List.append_assoc rs];rfl),by omega,by rw[ajD,hks];rfl,by rw[ajD,hes];rfl,lY h10 rfl,uq (by omega) hT Nb,tu,pI,by rw[uw,show n-(m+1)=q by omega]⟩) (by dsimp only;omega)
   ·obtain rfl:m=n:=by have:=of_decide_eq_false h5;omega
    rw[Nat.sub_self,Bu] at iN
    exact lb 0<|an rfl<|lb 0<|an ⟨rfl,rfl⟩ fun w8 M8=>ei (x:=0)<|an rfl fun M=>cr.fin iN (T:=⟨.slice ka m kc,84,10,m,es.flatten⟩::⟨.slice none 0 0,9,1,0,[]⟩::T) ⟨op,a,r,b,s,ka,m,kc,rfl,by
     subst hks;exact iX.node (names:=[]) rfl rfl (ajK _ (ajJ ..)) (ajJ ..) hes h10 fun i x y h1 h2=>(hT i x y h1 h2).mono fun r hr=>ajK _ (ajK _ hr)⟩ iE eu ((M.only (.cons _ (.refl _)) (.refl _)).perm (VX _ _ _ _))
section
variable [DS]
def Iz(KP:PK)(B:Nat)(w0:World)(N:Nat)(l:Slots)(L:List Oper)(K:List Kn)(iO:List Bx)(k:Slots→List Bx→List Rw→World→Prop):Tr→Slots→List Bx→List Rw→World→Prop
 | .done,T,bs,rs,w=>kJ (B_ K) l fun r=>kJ T r fun l'=>k l' bs rs w
 | .step j t,T,bs,rs,w=>IB KP B w0 N l L K j T bs rs w fun T' bs' rs' w'=>(∀ b∈iO,b∈bs')∧Iz KP B w0 N l L K iO k t T' bs' rs' w'
 | .last j,T,bs,rs,w=>IB KP B w0 N l L K j T bs rs w fun T' bs' rs' w'=>kJ (B_ K) l fun r=>kJ T' r fun l'=>k l' bs' rs' w'
 | .alt x y,T,bs,rs,w=>Iz KP B w0 N l L K iO k x T bs rs w∧Iz KP B w0 N l L K iO k y T bs rs w
section
variable {KP:PK} {B:Nat} {w0:World} {N:Nat} {l:Slots} {iO:List Bx} {L:List Oper} {K:List Kn} {k:Slots→List Bx→List Rw→World→Prop}
variable (rU:∀ q v,look q l=some v→∀ k∈K,k.2.1≠q) (gL:∀ (j:Nat) (o:Oper) (d:Nat),L[j]?=some o→o.dst=some d→look d l=none∧d<N)
include rU gL in
theorem vM{F:List Nat}{ops:Array Oper}{Q:Act→World→Prop}(hQ:∀ a l' bs rs w,Fs a N l'→aC B w0 w bs rs→k l' bs rs w→Q a w):∀ {t:Tr} {T:Slots} {bs:List Bx} {rs:List Rw} {a:Act} {w:World},Iz KP B w0 N l L K iO k t T bs rs w→TI N l K T a→aC B w0 w bs rs→tT Tryz.prog ops L K (xs F K) (Jm B w0 iO) (XE KP N) Q t a w
 | .done,T,bs,rs,a,w,hv,h,M=>fun a' hA hk=>hQ a' _ bs rs w (h.end rU hA hk) M (cG (cG hv))
 | .step j t,T,bs,rs,a,w,hv,h,M=>fun o ho a' hA hb Q' hn pJ=>vN rU gL hv h M ho hA hb pJ fun a1 w1 T' bs' rs' h' M' ⟨h1,h2⟩ mv=>by
  refine hn a1 w1 ⟨M'.below,fun b hbx=>M'.box b ?_⟩ mv (vM hQ h2 h' M');exact h1 b hbx
 | .last j,T,bs,rs,a,w,hv,h,M=>fun o ho a' hA hb Q' hn pJ=>vN rU gL hv h M ho hA hb pJ fun a1 w1 T' bs' rs' h' M' h1 mv=>hn a1 w1 mv fun a2 WW hk=>hQ a2 _ bs' rs' w1 (h'.end rU WW hk) M' (cG (cG h1))
 | .alt x y,T,bs,rs,a,w,hv,h,M=>⟨vM hQ hv.1 h M,vM hQ hv.2 h M⟩
end
theorem YZ{X Y:Prop}{KP:PK}{B:Nat}{w0 w:World}{N:Nat}{l:Slots}{bs:List Bx}{rs:List Rw}{ops:Array Oper}{id:Nat}{k:Slots→List Bx→List Rw→World→Prop}(K0:List Kn)(F:List Nat)(t:Tr)(iO:List Bx)(hk0:JG ops.toList F K0=true)(h0:xq N ops.toList F t=true)(hJ:∀ b∈iO,b∈bs)
 (h:Oy ops.toList fun ds=>FT ds l fun l'=>KE B w0 l' iO ops.toList F K0 fun K=>Mb K l ds fun T=>∀ w',ajL w.heap.size w w'→aC B w0 w' bs rs→Iz KP B w0 N l' ops.toList K iO k t T bs rs w') :
 X∨Y∨∀ (a:Act) (Q:Exit→Act→World→Prop),Fs a N l→aC B w0 w bs rs→(∀ Pn,KP=some Pn→∀ a' ch w',Fr a' N→Pn ch w'→Q (.panic ch) a' w')→(∀ a' l' bs' rs' w',Fs a' N l'→aC B w0 w' bs' rs'→k l' bs' rs' w'→Q .normal a' w')→(Code.region id ops true).wp Tryz.prog Q a w:=by
 refine .inr (.inr fun a Q Fa M pJ next=>?_);obtain⟨L,rfl⟩:∃ L:List Oper,ops=L.toArray:=⟨ops.toList,by simp⟩;rw[List.toList_toArray] at hk0 h0 h;unfold xq at h0;simp only[Bool.and_eq_true,decide_eq_true_eq] at h0;obtain⟨fT,hnd,hbd,hcd,hsub⟩:=h0;obtain⟨l',h,hl'⟩:=rV (yJ h);obtain⟨K,h,WS,hK⟩:=AR (N:=N) h;obtain⟨hk1,hk2⟩:=wz hk0;obtain⟨T0,h,Nc⟩:=ug h;have hin:∀ (j:Nat) (o:Oper) (d:Nat),L[j]?=some o→o.dst=some d→d∈L.filterMap (·.dst):=fun j o d ho hd=>List.mem_filterMap.2 ⟨o,ajG ho,hd⟩
 have hno:∀ d,d∈L.filterMap (·.dst)→look d l'=none:=fun d hd=>by
  rw[hl',iT.2 hd];rfl
 have hold:∀ q v,look q l'=some v→look q l=some v∧(L.filterMap (·.dst)).contains q=false:=fun q v hq=>by
  rw[hl'] at hq
  cases hm:jC q (L.filterMap (·.dst)) with
  | true=>rw[hm] at hq;cases hq
  | false=>
   rw[hm] at hq;refine⟨hq,?_⟩
   cases hc:(L.filterMap (·.dst)).contains q with
   | false=>rfl
   | true=>
    have:q∈L.filterMap (·.dst):=by simpa using hc
    rw[iT.2 this] at hm;cases hm
 have Q9:∀ k∈K0++K,∃ o:Oper,L[k.1]?=some o∧o.dst=some k.2.1:=fun k hk=>by
  rcases ajM.1 hk with hk|hk
  ·exact hk1 k hk
  ·obtain⟨o,h1,h2,-⟩:=hK k hk;exact⟨o,h1,h2⟩
 have DB:∀ k∈K0++K,k.2.1∈L.filterMap (·.dst):=fun k hk=>by
  obtain⟨o,h1,h2⟩:=Q9 k hk;exact hin _ _ _ h1 h2
 have rU:∀ q v,look q l'=some v→∀ k∈K0++K,k.2.1≠q:=fun q v hq k hk e=>by
  have h1:=hno _ (DB k hk);rw[e,hq] at h1;cases h1
 have gL:∀ (j:Nat) (o:Oper) (d:Nat),L[j]?=some o→o.dst=some d→look d l'=none∧d<N:=fun j o d ho hd=>⟨hno d (hin j o d ho hd),by
  have:=ajN.1 hbd d (hin j o d ho hd);simpa using this⟩
 have Md:=M.keep (w':=w.drew) (Below.refl _ _).drew;refine q_ (Pp:=XE KP N) (fun ch a w h=>by obtain⟨h1,Pn,h2,h3⟩:=h;exact pJ Pn h2 a ch w h1 h3) (K0++K) F t (Jm B w0 iO) (by kernel_rfl) fT ?_ ?_ hnd hbd hcd hsub Fa.fr ?_ ⟨Md.below,fun b hb=>Md.box b ?_⟩ (vM rU gL (fun a l' bs rs w F M h=>next a l' bs rs w F M h) (h w.drew (Below.refl _ _).drew Md) ⟨Fa.fr,fun q v hq=>Fa.at_ q v (hold q v hq).1,fun x hx=>Fa.at_ _ _ (Nc x hx).1,fun x hx=>(Nc x hx).2⟩ Md)
 ·rw[ajN];intro k hk;obtain⟨o,h1,h2⟩:=Q9 k hk;simp[h1,h2]
 ·rw[ajN];intro i hi;rw[← WS] at hi;obtain⟨k,hk,rfl⟩:=List.mem_map.1 hi;exact List.any_eq_true.2 ⟨k,List.mem_append_right _ hk,by simp⟩
 ·have key:∀ K2:List Kn,(∀ k∈K2,F.contains k.1=true→XQ B w0 N l' iO L (K0++K) k)→pz Tryz.prog L F (K0++K) (Jm B w0 iO) a N K2:=by
   intro K2
   induction K2 with
   | nil=>intro _;trivial
   | cons k r ih=>
    intro h2;refine⟨fun HV o ho b u hf hj hq hb=>?_,ih fun k' hk'=>h2 k' (ajK _ hk')⟩;obtain⟨o',h3,-,h4,h5⟩:=h2 k (ajJ ..) HV;obtain rfl:o'=o:=Option.some.inj (h3.symm.trans ho)
    exact⟨dN h4,h5 b u hf hj (fun q v hv=>hq q v (hold q v hv).2 (Fa.at_ q v (hold q v hv).1)) fun k' hk' he=>by
     obtain⟨i,hi⟩:=List.getElem?_of_mem hk';exact hb i k' hi (tE he)⟩
  exact key _ fun k hk HV=>(ajM.1 hk).elim (fun h=>by rw[hk2 k h] at HV;cases HV) (hK k)
 ·exact hJ b hb
theorem zQ{X Y:Prop}{KP:PK}{B:Nat}{w0 w:World}{N:Nat}{l:Slots}{bs:List Bx}{rs:List Rw}{ops:Array Oper}{id:Nat}{k:Slots→List Bx→List Rw→World→Prop}(F:List Nat)(t:Tr)(iO:List Bx)(h0:xq N ops.toList F t=true)(hJ:∀ b∈iO,b∈bs)
 (h:Oy ops.toList fun ds=>FT ds l fun l'=>KE B w0 l' iO ops.toList F [] fun K=>Mb K l ds fun T=>∀ w',ajL w.heap.size w w'→aC B w0 w' bs rs→Iz KP B w0 N l' ops.toList K iO k t T bs rs w') :
 X∨Y∨∀ (a:Act) (Q:Exit→Act→World→Prop),Fs a N l→aC B w0 w bs rs→(∀ Pn,KP=some Pn→∀ a' ch w',Fr a' N→Pn ch w'→Q (.panic ch) a' w')→(∀ a' l' bs' rs' w',Fs a' N l'→aC B w0 w' bs' rs'→k l' bs' rs' w'→Q .normal a' w')→(Code.region id ops true).wp Tryz.prog Q a w:=YZ [] F t iO rfl h0 hJ h
end
theorem Gh{B g:Nat}{w0 w:World}{L:List Bx}{rs:List Rw}{p:Value}(M:aC B w0 w L rs)(h:((g,117,#[p]):Bx)∈L):w.cell? ⟨g,0,none⟩=some p:=
 (q7.whole (M.box _ h) rfl).cell 0
def lO{α:Type}(p:Ps α)(n:Nat)(xs:List α):Ps (List α):=pb (vC n p) fun ys=>pp (xs++ys)
theorem kU{α:Type}(p:Ps α)(xs:List α):lO p 0 xs=pp xs:=by
 unfold lO vC;rw[sQ,List.append_nil]
theorem kS{α:Type}(p:Ps α)(n:Nat)(xs:List α):lO p (n+1) xs=pb p fun x=>lO p n (xs++[x]):=by
 unfold lO;rw[vC,sR];congr 1
 funext x
 rw[sR];congr 1
 funext ys
 rw[sQ,List.append_assoc];rfl
theorem QU{α:Type}(p:Ps α):(pb p fun x=>pp x)=p:=by
 funext l
 unfold pb;cases p l<;>rfl
theorem eO{α:Type}(p:Ps α)(n:Nat):vC n p=lO p n []:=by
 unfold lO;exact(QU _).symm
def nM{α:Type}(ty k:Nat)(cells:α→List Value)(T:List Rw)(v:Value)(x:List α):Prop:=∃ a c,v=.slice a x.length c∧T=[⟨v,ty,k,x.length,x.flatMap cells⟩]
def LK{α:Type}(ty k:Nat)(Rel:List Rw→List Value→α→Prop)(T:List Rw)(v:Value)(x:List α):Prop:=∃ (a:Option Addr) (c:Nat) (es:List (List Value)) (T':List Rw),v=.slice a x.length c∧T=⟨v,ty,k,x.length,es.flatten⟩::T'∧es.length=x.length∧(∀ z∈es,z.length=k)∧∀ (i:Nat) cs y,es[i]?=some cs→x[i]?=some y→Rel T' cs y
theorem aK{α:Type}{p:Ps α}{f:α→List Nat}{G:α→Prop}(hc:Cn p f G){l r:List Nat}{x:α}(hb:Bytes l)(h:p l=.ok (x,r)):r.length≤l.length:=by
 obtain⟨h1,-,-⟩:=hc l x r hb h;rw[← h1,ajD];omega
theorem Nw(s:ByteArray):eS s≠[]:=by unfold eS;simp[j6]
section
variable {w0 w:World} {bs:List Bx} {rs:List Rw} {R gc:Nat} {ver:Int} {u:Value} {l:List Nat}
theorem QG(M:aC w0.heap.size w0 w (bI R u ver::bs) rs)(hs:fQ u l)(hb:aj w0 u l)(hL:l.length≤aF):Calls Tryz.prog 214 #[.pointer (some ⟨R,0,none⟩),.func (.func 213) #[.pointer (some ⟨R,0,none⟩)] #[]] w (cr w0 R ver bs rs (nM 9 1 aO) (cI eX l)):=by
 refine dY M [] (fn:=Tryz.f214) Tryz.func214 rfl Tryz.ntmps214 rfl<|dI 0 rfl M rfl (fun M=>cH M hs hb) ?_;intro n l1 u1 w1 hp hr hs1 hb1 M1;have hl1:=aK jP hb.2 hp;refine lp (ι:=Nat×List ByteArray×Value×List Nat×Value) (fun(m,xs,kv,l',u')=>[(5,kv),(6,.int .i64 (m:Int))]) (fun(m,xs,kv,l',u')=>bI R u' ver::bs) (fun(m,xs,kv,l',u')=>⟨kv,9,1,xs.length,xs.flatMap aO⟩::rs) (fun(m,xs,kv,l',u') _=>fQ u' l'∧aj w0 u' l'∧l'.length≤l.length∧xs.length+m=n∧cI eX l=lO eX m xs l') (fun(m,xs,kv,l',u')=>m) (n,[],.slice none 0 0,l1,u1) (an ⟨⟨rfl,rfl,trivial⟩,fun M=>⟨M.bE 9 1,hs1,hb1,hl1,by simp,by rw[hr,eO]⟩⟩ ?_);rintro⟨m,xs,kv,l2,u2⟩ w2 M2 ⟨cq,hb2,hx,hm,bJ⟩;have hn:=gI hp;dsimp only at cq hb2 hx hm bJ M2;obtain⟨ka,kc,rfl⟩:=M2.form 0 rfl;refine an (fun h5=>?_) fun h5=>?_
 ·obtain⟨q,rfl⟩:∃ q,m=q+1:=⟨m-1,by have:0<(m:Int):=of_decide_eq_true h5;omega⟩;rw[kS] at bJ;refine dI 0 bJ M2 rfl (fun M=>lP M cq hb2 (by omega)) ?_;intro x l3 u3 w3 kf iN iE eu M3;have fB:=aK b_ hb2.2 kf;exact fun g w4 M4=>zB 0 id rfl (M4.slice 0 rfl (k:=1) (n:=1) rfl rfl (by simp[maxLen])) ⟨by unfold maxLen;omega,by omega⟩ fun va vc w5 M5=>an (by omega)<|bk (q,xs++[x],.slice va (xs.length+1) vc,l3,u3) ⟨rfl,congrArg (fun z=>some (Value.int .i64 z)) (show((q+1:Nat):Int)-1=(q:Int) by omega),trivial⟩ (fun M=>⟨(M.only (.cons _ (.refl _)) (.refl _)).cast rfl (by simp[aO]),iE,eu,Nat.le_trans fB hx,by rw[ajD,List.length_singleton];omega,iN⟩) (by dsimp only;omega)
 ·obtain rfl:m=0:=by have:¬ 0<(m:Int):=of_decide_eq_false h5;omega
  rw[kU] at bJ;exact fun M=>cr.fin bJ (T:=[⟨.slice ka xs.length kc,9,1,xs.length,xs.flatMap aO⟩]) ⟨ka,kc,rfl,rfl⟩ cq hb2 (M.perm (by simpa using(List.perm_append_comm (l₁:=[_]) (l₂:=rs))))
end
end Go.Proofs.YtkkmjdceiocnbaaGreatDoor

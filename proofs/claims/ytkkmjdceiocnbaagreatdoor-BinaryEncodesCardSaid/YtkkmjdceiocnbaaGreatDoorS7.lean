import Derived.Test.YtkkmjdceiocnbaaGreatDoorS6
open Go.RowKit renaming Below→akI
open Go.Sem renaming run_bind→akH
open List renaming length_append→akB,getElem?_eq_getElem→akD,mem_of_getElem?→akE,flatMap_append→akF,take_length→akG
open Nat renaming zero_le→akC
set_option maxRecDepth 100000
set_option maxHeartbeats 8000000
set_option linter.unusedSectionVars false
set_option linter.unusedSimpArgs false
set_option linter.unusedVariables false
namespace Go.Proofs.YtkkmjdceiocnbaaGreatDoor
open Go Go.RowKit
section
variable {W:Nat} {w0 w:World} {bs:List Bx} {rs:List Rw} {v1:Value} {v:Nat} {xs:List Nat}
def Ut(v:Nat)(p:aD):List Nat:=eL kL p.classes++(eL (eTyp v) p.types++(eL kM p.attrs++(eL kJ p.roles++(eL kF p.users++(eL jx p.bools++(eL eS p.ak++(eL eS p.cats++(eL eE p.conds))))))))
theorem Mu{p:aD}{c0 c1 c2 c3 c4 c5 c6 c7 c8 c9 c10 c11 c12 c13 c14 c15 c16:Value}(hp:aA w0 c0 c1 c2 c3 c4 c5 c6 c7 c8 c9 c10 c11 c12 c13 c14 c15 c16 p)(hok:p.Ok)(M:Mm w0 w (iY W v1 (v:Int)::bs) (bf v1 xs::rs))(hb:xs.length+(Ut v p).length+700≤aT):
 Calls Tryz.prog 130 #[.pointer (some ⟨W,0,none⟩),.agg #[c0,c1,c2,c3,c4,c5,c6,c7,c8,c9,c10,c11,c12,c13,c14,c15,c16]] w (H6 w0.heap.size w0 bs rs W (v:Int) (xs++Ut v p)):=by
 obtain⟨a0,a1,a2,a3,a4,a5,a6,a7,a8,a9,rF,rE,a12,rD,rC,rB,rA,k0,k1,k2,k3,k4,k5,k6,k7,k8,k9,k10,k11,k12,k13,k14,k15,k16,rfl,rfl,rfl,rfl,rfl,rfl,rfl,rfl,rfl,rfl,rfl,rfl,rfl,rfl,rfl,rfl,rfl⟩:=hp.open;have hl:(Ut v p).length=(eL kL p.classes).length+((eL (eTyp v) p.types).length+((eL kM p.attrs).length+((eL kJ p.roles).length+((eL kF p.users).length+((eL jx p.bools).length+((eL eS p.ak).length+((eL eS p.cats).length+((eL eE p.conds).length)))))))):=by unfold Ut;simp only[akB]
 have hL0:(eL kL p.classes).length=(eN (p.classes.length:Int)).length+(p.classes.flatMap kL).length:=by unfold eL;rw[akB]
 have hN0:=aV (p.classes.length:Int);have hB0:p.classes.length≤9223372036854775807:=by obtain⟨_,_,_,_,h,_⟩:=aj.form hp.classes (by decide);exact h
 have hL1:(eL (eTyp v) p.types).length=(eN (p.types.length:Int)).length+(p.types.flatMap (eTyp v)).length:=by unfold eL;rw[akB]
 have hN1:=aV (p.types.length:Int);have hB1:p.types.length≤9223372036854775807:=by obtain⟨_,_,_,_,h,_⟩:=aj.form hp.types (by decide);exact h
 have hL2:(eL kM p.attrs).length=(eN (p.attrs.length:Int)).length+(p.attrs.flatMap kM).length:=by unfold eL;rw[akB]
 have hN2:=aV (p.attrs.length:Int);have hB2:p.attrs.length≤9223372036854775807:=by obtain⟨_,_,_,_,h,_⟩:=SliceAt.form hp.attrs (by decide);exact h
 have hL3:(eL kJ p.roles).length=(eN (p.roles.length:Int)).length+(p.roles.flatMap kJ).length:=by unfold eL;rw[akB]
 have hN3:=aV (p.roles.length:Int);have hB3:p.roles.length≤9223372036854775807:=by obtain⟨_,_,_,_,h,_⟩:=SliceAt.form hp.roles (by decide);exact h
 have hL4:(eL kF p.users).length=(eN (p.users.length:Int)).length+(p.users.flatMap kF).length:=by unfold eL;rw[akB]
 have hN4:=aV (p.users.length:Int);have hB4:p.users.length≤9223372036854775807:=by obtain⟨_,_,_,_,h,_⟩:=SliceAt.form hp.users (by decide);exact h
 have hL5:(eL jx p.bools).length=(eN (p.bools.length:Int)).length+(p.bools.flatMap jx).length:=by unfold eL;rw[akB]
 have hN5:=aV (p.bools.length:Int);have hB5:p.bools.length≤9223372036854775807:=by obtain⟨_,_,_,_,h,_⟩:=SliceAt.form hp.bools (by decide);exact h
 have hL6:(eL eS p.ak).length=(eN (p.ak.length:Int)).length+(p.ak.flatMap eS).length:=by unfold eL;rw[akB]
 have hN6:=aV (p.ak.length:Int);have hL7:(eL eS p.cats).length=(eN (p.cats.length:Int)).length+(p.cats.flatMap eS).length:=by unfold eL;rw[akB]
 have hN7:=aV (p.cats.length:Int);have hL8:(eL eE p.conds).length=(eN (p.conds.length:Int)).length+(p.conds.flatMap eE).length:=by unfold eL;rw[akB]
 have hN8:=aV (p.conds.length:Int);have hB8:p.conds.length≤9223372036854775807:=by obtain⟨_,_,_,_,h,_⟩:=aj.form hp.conds (by decide);exact h
 refine d_ M [] (fn:=Tryz.f130) Tryz.func130 rfl Tryz.ntmps130 rfl<|fun g1 w1 M1=>?_
 refine lb 0<|an rfl<|gX (l:=xs++eN (p.classes.length:Int)) 1 M1 rfl (fun M=>bJ (n:=(p.classes.length:Int)) M (by(try simp only[akB]);omega)) fun v1 w1 M1=>lp (ι:=Nat×Value) (fun z=>[(4,.int .i64 (z.1:Int))]) (fun z=>(g1,39,#[.slice a0 p.classes.length k0,.slice a1 p.types.length k1,.slice a2 p.attrs.length k2,.slice a3 p.roles.length k3,.slice a4 p.users.length k4,.slice a5 p.bools.length k5,.slice a6 p.ak.length k6,.slice a7 p.cats.length k7,.slice a8 p.conds.length k8,.slice a9 p.rules.length k9,.slice rF p.trans.length k10,.slice rE p.ay.length k11,.slice a12 p.ranges.length k12,.slice rD p.cons.length k13,.slice rC p.bg.length k14,.slice rB p.files.length k15,.slice rA p.asserts.length k16])::iY W z.2 (v:Int)::bs) (fun z=>bf z.2 (xs++(eN (p.classes.length:Int)++(p.classes.take z.1).flatMap kL))::rs) (fun z _=>z.1≤p.classes.length) (fun z=>p.classes.length-z.1) (0,v1)<|an ⟨⟨rfl,trivial⟩,fun M=>⟨M.cast rfl (by simp),akC _⟩⟩ ?_
 rintro⟨j,u2⟩ w2 M2 hj;have hj:j≤p.classes.length:=hj;refine lb 0<|an rfl<|an (fun h=>?_) fun h=>?_
 ·have hlt:j<p.classes.length:=Int.ofNat_lt.1 (of_decide_eq_true h);obtain⟨y,hy⟩:∃ y,p.classes[j]?=some y:=⟨_,akD hlt⟩;have iZ:=fZ kL hy;have iK:=akE hy;have rO:=hok.classes y iK;have Nt:(kL y).length=(eS y.name).length+((eL eS y.perms).length):=by unfold kL;simp only[akB]
  have kX:(xs++(eN (p.classes.length:Int)++(p.classes.take j).flatMap kL)).length+(kL y).length+300≤aT:=by simp only[akB];omega
  simp only[akB] at kX;obtain⟨b,off,x,e1,hx,hc⟩:=aj.elt hp.classes (by decide) hy;obtain⟨pv,rfl,hl2⟩:=hx;have QC:=hl2;obtain⟨pa,pc,rfl,-⟩:=aN.get QC;exact lb 0<|an rfl<|ia<|an ⟨e1,rfl,hlt⟩<|lc (x:=.string y.name)<|an (bZ M2.below hc 0 _ rfl)<|gX 1 M2 rfl (fun M=>qJ (s:=y.name) M (by(try simp only[akB]);omega)) fun v3 w3 M3=>lb 0<|an rfl<|ia<|an ⟨e1,rfl,hlt⟩<|lc (x:=.slice pa _ pc)<|an (bZ M3.below hc 1 _ rfl)<|gX 1 M3 rfl (fun M=>AB M hl2 (by(try simp only[akB]);omega)) fun v4 w4 M4=>an (by omega)<|bk (j+1,_) ⟨rfl,trivial⟩ (fun M=>⟨(M.only (.refl _) (.refl _)).cast rfl (by rw[List.take_add_one,hy,akF,Option.toList_some,List.flatMap_cons,List.flatMap_nil,List.append_nil,kL];simp only[List.append_assoc,List.append_nil,List.nil_append]),hlt⟩) (by dsimp only;omega)
 have hge:j=p.classes.length:=Nat.le_antisymm hj (Nat.le_of_not_lt fun h2=>of_decide_eq_false h (Int.ofNat_lt.2 h2));subst hge;obtain⟨s0,hs0⟩:∃ a,a=xs++eL kL p.classes:=⟨_,rfl⟩;have hS0:s0.length=xs.length+(eL kL p.classes).length:=by rw[hs0,akB]
 have QJ:xs++(eN (p.classes.length:Int)++(p.classes.take p.classes.length).flatMap kL)=s0:=by rw[akG,hs0];rfl
 have hU0:=congrArg List.length QJ;simp only[akB] at hU0;refine lb 0<|an rfl<|gX (l:=s0++eN (p.types.length:Int)) 1 M2 rfl (fun M=>by rw[← QJ];exact bJ (n:=(p.types.length:Int)) M (by(try simp only[akB]);omega)) fun v5 w5 M5=>lp (ι:=Nat×Value) (fun z=>[(5,.int .i64 (z.1:Int))]) (fun z=>(g1,39,#[.slice a0 p.classes.length k0,.slice a1 p.types.length k1,.slice a2 p.attrs.length k2,.slice a3 p.roles.length k3,.slice a4 p.users.length k4,.slice a5 p.bools.length k5,.slice a6 p.ak.length k6,.slice a7 p.cats.length k7,.slice a8 p.conds.length k8,.slice a9 p.rules.length k9,.slice rF p.trans.length k10,.slice rE p.ay.length k11,.slice a12 p.ranges.length k12,.slice rD p.cons.length k13,.slice rC p.bg.length k14,.slice rB p.files.length k15,.slice rA p.asserts.length k16])::iY W z.2 (v:Int)::bs) (fun z=>bf z.2 (s0++(eN (p.types.length:Int)++(p.types.take z.1).flatMap (eTyp v)))::rs) (fun z _=>z.1≤p.types.length) (fun z=>p.types.length-z.1) (0,v5)<|an ⟨⟨rfl,trivial⟩,fun M=>⟨M.cast rfl (by simp),akC _⟩⟩ ?_
 rintro⟨j,u6⟩ w6 M6 hj;have hj:j≤p.types.length:=hj;refine lb 0<|an rfl<|an (fun h=>?_) fun h=>?_
 ·have hlt:j<p.types.length:=Int.ofNat_lt.1 (of_decide_eq_true h);obtain⟨y,hy⟩:∃ y,p.types[j]?=some y:=⟨_,akD hlt⟩;have iZ:=fZ (eTyp v) hy;have iK:=akE hy;have rO:=hok.types y iK;have Nt:(eTyp v y).length=(eS y.name).length+((eL eS y.jg).length+((if 2≤v then eB y.perm else []).length)):=by unfold eTyp;simp only[akB]
  have kX:(s0++(eN (p.types.length:Int)++(p.types.take j).flatMap (eTyp v))).length+(eTyp v y).length+300≤aT:=by simp only[akB];omega
  simp only[akB] at kX;obtain⟨b,off,x,e1,hx,hc⟩:=aj.elt hp.types (by decide) hy;obtain⟨pv,rfl,hl2⟩:=hx;have QC:=hl2;obtain⟨pa,pc,rfl,-⟩:=aN.get QC;exact lb 0<|an rfl<|ia<|an ⟨e1,rfl,hlt⟩<|lc (x:=.string y.name)<|an (bZ M6.below hc 0 _ rfl)<|gX 1 M6 rfl (fun M=>qJ (s:=y.name) M (by(try simp only[akB]);omega)) fun v7 w7 M7=>lb 0<|an rfl<|ia<|an ⟨e1,rfl,hlt⟩<|lc (x:=.slice pa _ pc)<|an (bZ M7.below hc 1 _ rfl)<|gX 1 M7 rfl (fun M=>AB M hl2 (by(try simp only[akB]);omega)) fun v8 w8 M8=>lb 1<|an rfl<|an (fun h=>have hv:2≤v:=(by { have:=of_decide_eq_true h;omega });have hif:(if 2≤v then eB y.perm else []).length=(eB y.perm).length:=(by rw[if_pos hv]);lb 0<|an rfl<|ia<|an ⟨e1,rfl,hlt⟩<|lc (x:=.bool y.perm)<|an (bZ M8.below hc 2 _ rfl)<|gX 1 M8 rfl (fun M=>Et (b:=y.perm) M (by(try simp only[akB]);omega)) fun v9 w9 M9=>an (by omega)<|bk (j+1,_) ⟨rfl,trivial⟩ (fun M=>⟨(M.only (.refl _) (.refl _)).cast rfl (by rw[List.take_add_one,hy,akF,Option.toList_some,List.flatMap_cons,List.flatMap_nil,List.append_nil,eTyp,if_pos hv];simp only[List.append_assoc,List.append_nil,List.nil_append]),hlt⟩) (by dsimp only;omega)) fun h=>have hv:¬ 2≤v:=(by { have:=of_decide_eq_false h;omega });an (by omega)<|bk (j+1,_) ⟨rfl,trivial⟩ (fun M=>⟨(M.only (.refl _) (.refl _)).cast rfl (by rw[List.take_add_one,hy,akF,Option.toList_some,List.flatMap_cons,List.flatMap_nil,List.append_nil,eTyp,if_neg hv];simp only[List.append_assoc,List.append_nil,List.nil_append]),hlt⟩) (by dsimp only;omega)
 have hge:j=p.types.length:=Nat.le_antisymm hj (Nat.le_of_not_lt fun h2=>of_decide_eq_false h (Int.ofNat_lt.2 h2));subst hge;obtain⟨s1,hs1⟩:∃ a,a=s0++eL (eTyp v) p.types:=⟨_,rfl⟩;have hS1:s1.length=s0.length+(eL (eTyp v) p.types).length:=by rw[hs1,akB]
 have RF:s0++(eN (p.types.length:Int)++(p.types.take p.types.length).flatMap (eTyp v))=s1:=by rw[akG,hs1];rfl
 have hU1:=congrArg List.length RF;simp only[akB] at hU1;refine lb 0<|an rfl<|gX (l:=s1++eN (p.attrs.length:Int)) 1 M6 rfl (fun M=>by rw[← RF];exact bJ (n:=(p.attrs.length:Int)) M (by(try simp only[akB]);omega)) fun v10 pT j3=>lp (ι:=Nat×Value) (fun z=>[(6,.int .i64 (z.1:Int))]) (fun z=>(g1,39,#[.slice a0 p.classes.length k0,.slice a1 p.types.length k1,.slice a2 p.attrs.length k2,.slice a3 p.roles.length k3,.slice a4 p.users.length k4,.slice a5 p.bools.length k5,.slice a6 p.ak.length k6,.slice a7 p.cats.length k7,.slice a8 p.conds.length k8,.slice a9 p.rules.length k9,.slice rF p.trans.length k10,.slice rE p.ay.length k11,.slice a12 p.ranges.length k12,.slice rD p.cons.length k13,.slice rC p.bg.length k14,.slice rB p.files.length k15,.slice rA p.asserts.length k16])::iY W z.2 (v:Int)::bs) (fun z=>bf z.2 (s1++(eN (p.attrs.length:Int)++(p.attrs.take z.1).flatMap kM))::rs) (fun z _=>z.1≤p.attrs.length) (fun z=>p.attrs.length-z.1) (0,v10)<|an ⟨⟨rfl,trivial⟩,fun M=>⟨M.cast rfl (by simp),akC _⟩⟩ ?_
 rintro⟨j,u11⟩ yY M11 hj;have hj:j≤p.attrs.length:=hj;refine lb 0<|an rfl<|an (fun h=>?_) fun h=>?_
 ·have hlt:j<p.attrs.length:=Int.ofNat_lt.1 (of_decide_eq_true h);obtain⟨y,hy⟩:∃ y,p.attrs[j]?=some y:=⟨_,akD hlt⟩;have iZ:=fZ kM hy;have iK:=akE hy;have rO:=hok.attrs y iK;have Nt:(kM y).length=(eS y.name).length+((eT y.types).length):=by unfold kM;simp only[akB]
  have kX:(s1++(eN (p.attrs.length:Int)++(p.attrs.take j).flatMap kM)).length+(kM y).length+300≤aT:=by simp only[akB];omega
  simp only[akB] at kX;obtain⟨b,off,e1,hc⟩:=SliceAt.elt hp.attrs (f:=fH.cells) (fun _=>rfl) (by decide) hy hlt;exact lb 0<|an rfl<|ia<|an ⟨e1,rfl,hlt⟩<|lc (x:=.string y.name)<|an (bZ M11.below hc 0 _ rfl)<|gX 1 M11 rfl (fun M=>qJ (s:=y.name) M (by(try simp only[akB]);omega)) fun v12 Dh y9=>lb 0<|an rfl<|ia<|an ⟨e1,rfl,hlt⟩<|lc (x:=[.int .u64 (y.types.a:Int),.int .u64 (y.types.b:Int),.int .u64 (y.types.c:Int),.int .u64 (y.types.d:Int)])<|an (ef (bZ y9.below hc) rfl)<|gX 1 y9 rfl (fun M=>qK (s:=y.types) M rO.types (by(try simp only[akB]);omega)) fun KF RW FD=>an (by omega)<|bk (j+1,_) ⟨rfl,trivial⟩ (fun M=>⟨(M.only (.refl _) (.refl _)).cast rfl (by rw[List.take_add_one,hy,akF,Option.toList_some,List.flatMap_cons,List.flatMap_nil,List.append_nil,kM];simp only[List.append_assoc,List.append_nil,List.nil_append]),hlt⟩) (by dsimp only;omega)
 have hge:j=p.attrs.length:=Nat.le_antisymm hj (Nat.le_of_not_lt fun h2=>of_decide_eq_false h (Int.ofNat_lt.2 h2));subst hge;obtain⟨s2,eH⟩:∃ a,a=s1++eL kM p.attrs:=⟨_,rfl⟩;have hS2:s2.length=s1.length+(eL kM p.attrs).length:=by rw[eH,akB]
 have hT2:s1++(eN (p.attrs.length:Int)++(p.attrs.take p.attrs.length).flatMap kM)=s2:=by rw[akG,eH];rfl
 have hU2:=congrArg List.length hT2;simp only[akB] at hU2;refine lb 0<|an rfl<|gX (l:=s2++eN (p.roles.length:Int)) 1 M11 rfl (fun M=>by rw[← hT2];exact bJ (n:=(p.roles.length:Int)) M (by(try simp only[akB]);omega)) fun HY RV H7=>lp (ι:=Nat×Value) (fun z=>[(7,.int .i64 (z.1:Int))]) (fun z=>(g1,39,#[.slice a0 p.classes.length k0,.slice a1 p.types.length k1,.slice a2 p.attrs.length k2,.slice a3 p.roles.length k3,.slice a4 p.users.length k4,.slice a5 p.bools.length k5,.slice a6 p.ak.length k6,.slice a7 p.cats.length k7,.slice a8 p.conds.length k8,.slice a9 p.rules.length k9,.slice rF p.trans.length k10,.slice rE p.ay.length k11,.slice a12 p.ranges.length k12,.slice rD p.cons.length k13,.slice rC p.bg.length k14,.slice rB p.files.length k15,.slice rA p.asserts.length k16])::iY W z.2 (v:Int)::bs) (fun z=>bf z.2 (s2++(eN (p.roles.length:Int)++(p.roles.take z.1).flatMap kJ))::rs) (fun z _=>z.1≤p.roles.length) (fun z=>p.roles.length-z.1) (0,HY)<|an ⟨⟨rfl,trivial⟩,fun M=>⟨M.cast rfl (by simp),akC _⟩⟩ ?_
 rintro⟨j,u15⟩ RU CQ hj;have hj:j≤p.roles.length:=hj;refine lb 0<|an rfl<|an (fun h=>?_) fun h=>?_
 ·have hlt:j<p.roles.length:=Int.ofNat_lt.1 (of_decide_eq_true h);obtain⟨y,hy⟩:∃ y,p.roles[j]?=some y:=⟨_,akD hlt⟩;have iZ:=fZ kJ hy;have iK:=akE hy;have rO:=hok.roles y iK;have Nt:(kJ y).length=(eS y.name).length+((eT y.types).length+((eT y.next).length)):=by unfold kJ;simp only[akB]
  have kX:(s2++(eN (p.roles.length:Int)++(p.roles.take j).flatMap kJ)).length+(kJ y).length+300≤aT:=by simp only[akB];omega
  simp only[akB] at kX;obtain⟨b,off,e1,hc⟩:=SliceAt.elt hp.roles (f:=dI.cells) (fun _=>rfl) (by decide) hy hlt;exact lb 0<|an rfl<|ia<|an ⟨e1,rfl,hlt⟩<|lc (x:=.string y.name)<|an (bZ CQ.below hc 0 _ rfl)<|gX 1 CQ rfl (fun M=>qJ (s:=y.name) M (by(try simp only[akB]);omega)) fun HV Rx CK=>lb 0<|an rfl<|ia<|an ⟨e1,rfl,hlt⟩<|lc (x:=[.int .u64 (y.types.a:Int),.int .u64 (y.types.b:Int),.int .u64 (y.types.c:Int),.int .u64 (y.types.d:Int)])<|an (ef (bZ CK.below hc) rfl)<|gX 1 CK rfl (fun M=>qK (s:=y.types) M rO.types (by(try simp only[akB]);omega)) fun v17 TV Ft=>lb 0<|an rfl<|ia<|an ⟨e1,rfl,hlt⟩<|lc (x:=[.int .u64 (y.next.a:Int),.int .u64 (y.next.b:Int),.int .u64 (y.next.c:Int),.int .u64 (y.next.d:Int)])<|an (ef (bZ Ft.below hc) rfl)<|gX 1 Ft rfl (fun M=>qK (s:=y.next) M rO.next (by(try simp only[akB]);omega)) fun v18 TU Ob=>an (by omega)<|bk (j+1,_) ⟨rfl,trivial⟩ (fun M=>⟨(M.only (.refl _) (.refl _)).cast rfl (by rw[List.take_add_one,hy,akF,Option.toList_some,List.flatMap_cons,List.flatMap_nil,List.append_nil,kJ];simp only[List.append_assoc,List.append_nil,List.nil_append]),hlt⟩) (by dsimp only;omega)
 have hge:j=p.roles.length:=Nat.le_antisymm hj (Nat.le_of_not_lt fun h2=>of_decide_eq_false h (Int.ofNat_lt.2 h2));subst hge;obtain⟨s3,lU⟩:∃ a,a=s2++eL kJ p.roles:=⟨_,rfl⟩;have hS3:s3.length=s2.length+(eL kJ p.roles).length:=by rw[lU,akB]
 have hT3:s2++(eN (p.roles.length:Int)++(p.roles.take p.roles.length).flatMap kJ)=s3:=by rw[akG,lU];rfl
 have hU3:=congrArg List.length hT3;simp only[akB] at hU3;refine lb 0<|an rfl<|gX (l:=s3++eN (p.users.length:Int)) 1 CQ rfl (fun M=>by rw[← hT3];exact bJ (n:=(p.users.length:Int)) M (by(try simp only[akB]);omega)) fun X1 Xg TR=>lp (ι:=Nat×Value) (fun z=>[(8,.int .i64 (z.1:Int))]) (fun z=>(g1,39,#[.slice a0 p.classes.length k0,.slice a1 p.types.length k1,.slice a2 p.attrs.length k2,.slice a3 p.roles.length k3,.slice a4 p.users.length k4,.slice a5 p.bools.length k5,.slice a6 p.ak.length k6,.slice a7 p.cats.length k7,.slice a8 p.conds.length k8,.slice a9 p.rules.length k9,.slice rF p.trans.length k10,.slice rE p.ay.length k11,.slice a12 p.ranges.length k12,.slice rD p.cons.length k13,.slice rC p.bg.length k14,.slice rB p.files.length k15,.slice rA p.asserts.length k16])::iY W z.2 (v:Int)::bs) (fun z=>bf z.2 (s3++(eN (p.users.length:Int)++(p.users.take z.1).flatMap kF))::rs) (fun z _=>z.1≤p.users.length) (fun z=>p.users.length-z.1) (0,X1)<|an ⟨⟨rfl,trivial⟩,fun M=>⟨M.cast rfl (by simp),akC _⟩⟩ ?_
 rintro⟨j,u20⟩ w20 TQ hj;have hj:j≤p.users.length:=hj;refine lb 0<|an rfl<|an (fun h=>?_) fun h=>?_
 ·have hlt:j<p.users.length:=Int.ofNat_lt.1 (of_decide_eq_true h);obtain⟨y,hy⟩:∃ y,p.users[j]?=some y:=⟨_,akD hlt⟩;have iZ:=fZ kF hy;have iK:=akE hy;have rO:=hok.users y iK;have Nt:(kF y).length=(eS y.name).length+((eT y.roles).length+((sq y.dflt).length+((uy y.rng).length))):=by unfold kF;simp only[akB]
  have kX:(s3++(eN (p.users.length:Int)++(p.users.take j).flatMap kF)).length+(kF y).length+300≤aT:=by simp only[akB];omega
  simp only[akB] at kX;obtain⟨b,off,e1,hc⟩:=SliceAt.elt hp.users (f:=fq.cells) (fun _=>rfl) (by decide) hy hlt;exact lb 0<|an rfl<|ia<|an ⟨e1,rfl,hlt⟩<|lc (x:=.string y.name)<|an (bZ TQ.below hc 0 _ rfl)<|gX 1 TQ rfl (fun M=>qJ (s:=y.name) M (by(try simp only[akB]);omega)) fun v21 w21 TP=>lb 0<|an rfl<|ia<|an ⟨e1,rfl,hlt⟩<|lc (x:=[.int .u64 (y.roles.a:Int),.int .u64 (y.roles.b:Int),.int .u64 (y.roles.c:Int),.int .u64 (y.roles.d:Int)])<|an (ef (bZ TP.below hc) rfl)<|gX 1 TP rfl (fun M=>qK (s:=y.roles) M rO.roles (by(try simp only[akB]);omega)) fun v22 w22 XI=>lb 0<|an rfl<|ia<|an ⟨e1,rfl,hlt⟩<|lc (x:=[.int .i64 y.dflt.ak,.int .u64 (y.dflt.cats:Int)])<|an (ef (bZ XI.below hc) rfl)<|gX 1 XI rfl (fun M=>Er (l:=y.dflt) M rO.dflt.cats (by(try simp only[akB]);omega)) fun v23 w23 UM=>lb 0<|an rfl<|ia<|an ⟨e1,rfl,hlt⟩<|lc (x:=[.int .i64 y.rng.low.ak,.int .u64 (y.rng.low.cats:Int),.int .i64 y.rng.high.ak,.int .u64 (y.rng.high.cats:Int)])<|an (ef (bZ UM.below hc) rfl)<|gX 1 UM rfl (fun M=>IG (r:=y.rng) M rO.rng.low.cats rO.rng.high.cats (by(try simp only[akB]);omega)) fun v24 w24 M24=>an (by omega)<|bk (j+1,_) ⟨rfl,trivial⟩ (fun M=>⟨(M.only (.refl _) (.refl _)).cast rfl (by rw[List.take_add_one,hy,akF,Option.toList_some,List.flatMap_cons,List.flatMap_nil,List.append_nil,kF];simp only[List.append_assoc,List.append_nil,List.nil_append]),hlt⟩) (by dsimp only;omega)
 have hge:j=p.users.length:=Nat.le_antisymm hj (Nat.le_of_not_lt fun h2=>of_decide_eq_false h (Int.ofNat_lt.2 h2));subst hge;obtain⟨s4,yC⟩:∃ a,a=s3++eL kF p.users:=⟨_,rfl⟩;have hS4:s4.length=s3.length+(eL kF p.users).length:=by rw[yC,akB]
 have hT4:s3++(eN (p.users.length:Int)++(p.users.take p.users.length).flatMap kF)=s4:=by rw[akG,yC];rfl
 have hU4:=congrArg List.length hT4;simp only[akB] at hU4;refine lb 0<|an rfl<|gX (l:=s4++eN (p.bools.length:Int)) 1 TQ rfl (fun M=>by rw[← hT4];exact bJ (n:=(p.bools.length:Int)) M (by(try simp only[akB]);omega)) fun v25 w25 XH=>lp (ι:=Nat×Value) (fun z=>[(9,.int .i64 (z.1:Int))]) (fun z=>(g1,39,#[.slice a0 p.classes.length k0,.slice a1 p.types.length k1,.slice a2 p.attrs.length k2,.slice a3 p.roles.length k3,.slice a4 p.users.length k4,.slice a5 p.bools.length k5,.slice a6 p.ak.length k6,.slice a7 p.cats.length k7,.slice a8 p.conds.length k8,.slice a9 p.rules.length k9,.slice rF p.trans.length k10,.slice rE p.ay.length k11,.slice a12 p.ranges.length k12,.slice rD p.cons.length k13,.slice rC p.bg.length k14,.slice rB p.files.length k15,.slice rA p.asserts.length k16])::iY W z.2 (v:Int)::bs) (fun z=>bf z.2 (s4++(eN (p.bools.length:Int)++(p.bools.take z.1).flatMap jx))::rs) (fun z _=>z.1≤p.bools.length) (fun z=>p.bools.length-z.1) (0,v25)<|an ⟨⟨rfl,trivial⟩,fun M=>⟨M.cast rfl (by simp),akC _⟩⟩ ?_
 rintro⟨j,u26⟩ w26 Xd hj;have hj:j≤p.bools.length:=hj;refine lb 0<|an rfl<|an (fun h=>?_) fun h=>?_
 ·have hlt:j<p.bools.length:=Int.ofNat_lt.1 (of_decide_eq_true h);obtain⟨y,hy⟩:∃ y,p.bools[j]?=some y:=⟨_,akD hlt⟩;have iZ:=fZ jx hy;have iK:=akE hy;have rO:=hok.bools y iK;have Nt:(jx y).length=(eS y.name).length+((eB y.val).length):=by unfold jx;simp only[akB]
  have kX:(s4++(eN (p.bools.length:Int)++(p.bools.take j).flatMap jx)).length+(jx y).length+300≤aT:=by simp only[akB];omega
  simp only[akB] at kX;obtain⟨b,off,e1,hc⟩:=SliceAt.elt hp.bools (f:=fN.cells) (fun _=>rfl) (by decide) hy hlt;exact lb 0<|an rfl<|ia<|an ⟨e1,rfl,hlt⟩<|lc (x:=.string y.name)<|an (bZ Xd.below hc 0 _ rfl)<|gX 1 Xd rfl (fun M=>qJ (s:=y.name) M (by(try simp only[akB]);omega)) fun v27 w27 TN=>lb 0<|an rfl<|ia<|an ⟨e1,rfl,hlt⟩<|lc (x:=.bool y.val)<|an (bZ TN.below hc 1 _ rfl)<|gX 1 TN rfl (fun M=>Et (b:=y.val) M (by(try simp only[akB]);omega)) fun v28 w28 M28=>an (by omega)<|bk (j+1,_) ⟨rfl,trivial⟩ (fun M=>⟨(M.only (.refl _) (.refl _)).cast rfl (by rw[List.take_add_one,hy,akF,Option.toList_some,List.flatMap_cons,List.flatMap_nil,List.append_nil,jx];simp only[List.append_assoc,List.append_nil,List.nil_append]),hlt⟩) (by dsimp only;omega)
 have hge:j=p.bools.length:=Nat.le_antisymm hj (Nat.le_of_not_lt fun h2=>of_decide_eq_false h (Int.ofNat_lt.2 h2));subst hge;obtain⟨s5,Nk⟩:∃ a,a=s4++eL jx p.bools:=⟨_,rfl⟩;have hS5:s5.length=s4.length+(eL jx p.bools).length:=by rw[Nk,akB]
 have hT5:s4++(eN (p.bools.length:Int)++(p.bools.take p.bools.length).flatMap jx)=s5:=by rw[akG,Nk];rfl
 have hU5:=congrArg List.length hT5;simp only[akB] at hU5;obtain⟨s6,Nj⟩:∃ a,a=s5++eL eS p.ak:=⟨_,rfl⟩;have hS6:s6.length=s5.length+(eL eS p.ak).length:=by rw[Nj,akB]
 refine lb 0<|an rfl<|gX (l:=s6) 1 Xd rfl (fun M=>by rw[Nj,← hT5];exact AB M hp.ak (by(try simp only[akB]);omega)) fun v29 w29 UL=>?_
 obtain⟨s7,S6⟩:∃ a,a=s6++eL eS p.cats:=⟨_,rfl⟩;have hS7:s7.length=s6.length+(eL eS p.cats).length:=by rw[S6,akB]
 refine lb 0<|an rfl<|gX (l:=s7) 1 UL rfl (fun M=>by rw[S6];exact AB M hp.cats (by(try simp only[akB]);omega)) fun v30 w30 M30=>?_
 refine lb 0<|an rfl<|gX (l:=s7++eN (p.conds.length:Int)) 1 M30 rfl (fun M=>bJ (n:=(p.conds.length:Int)) M (by(try simp only[akB]);omega)) fun v31 w31 UK=>lp (ι:=Nat×Value) (fun z=>[(10,.int .i64 (z.1:Int))]) (fun z=>(g1,39,#[.slice a0 p.classes.length k0,.slice a1 p.types.length k1,.slice a2 p.attrs.length k2,.slice a3 p.roles.length k3,.slice a4 p.users.length k4,.slice a5 p.bools.length k5,.slice a6 p.ak.length k6,.slice a7 p.cats.length k7,.slice a8 p.conds.length k8,.slice a9 p.rules.length k9,.slice rF p.trans.length k10,.slice rE p.ay.length k11,.slice a12 p.ranges.length k12,.slice rD p.cons.length k13,.slice rC p.bg.length k14,.slice rB p.files.length k15,.slice rA p.asserts.length k16])::iY W z.2 (v:Int)::bs) (fun z=>bf z.2 (s7++(eN (p.conds.length:Int)++(p.conds.take z.1).flatMap eE))::rs) (fun z _=>z.1≤p.conds.length) (fun z=>p.conds.length-z.1) (0,v31)<|an ⟨⟨rfl,trivial⟩,fun M=>⟨M.cast rfl (by simp),akC _⟩⟩ ?_
 rintro⟨j,u32⟩ w32 Xc hj;have hj:j≤p.conds.length:=hj;refine lb 0<|an rfl<|an (fun h=>?_) fun h=>?_
 ·have hlt:j<p.conds.length:=Int.ofNat_lt.1 (of_decide_eq_true h);obtain⟨y,hy⟩:∃ y,p.conds[j]?=some y:=⟨_,akD hlt⟩;have iZ:=fZ eE hy;have iK:=akE hy;have rO:=hok.conds y iK;have kX:(s7++(eN (p.conds.length:Int)++(p.conds.take j).flatMap eE)).length+(eE y).length+300≤aT:=by simp only[akB];omega
  simp only[akB] at kX;obtain⟨b,off,x,e1,Zi,hc⟩:=aj.elt hp.conds (by decide) hy;have Wv:=Zi;obtain⟨nv,kv,rfl,uH,hkv⟩:=Wv.open;obtain⟨_,_,rfl,-⟩:=aN.get uH;obtain⟨_,_,rfl,-,-,-⟩:=aj.form hkv (by decide);exact lb 0<|an rfl<|ia<|an ⟨e1,rfl,hlt⟩<|lc<|an (bZ Xc.below hc)<|gX 1 Xc rfl (fun M=>Pm y w0 _ _ _ _ _ _ Zi rO M (by(try simp only[akB]);omega)) fun v33 w33 UJ=>an (by omega)<|bk (j+1,_) ⟨rfl,trivial⟩ (fun M=>⟨(M.only (.refl _) (.refl _)).cast rfl (by rw[List.take_add_one,hy,akF,Option.toList_some,List.flatMap_cons,List.flatMap_nil,List.append_nil];simp only[List.append_assoc,List.append_nil,List.nil_append]),hlt⟩) (by dsimp only;omega)
 have hge:j=p.conds.length:=Nat.le_antisymm hj (Nat.le_of_not_lt fun h2=>of_decide_eq_false h (Int.ofNat_lt.2 h2));subst hge;obtain⟨s8,YH⟩:∃ a,a=s7++eL eE p.conds:=⟨_,rfl⟩;have hS8:s8.length=s7.length+(eL eE p.conds).length:=by rw[YH,akB]
 have hT8:s7++(eN (p.conds.length:Int)++(p.conds.take p.conds.length).flatMap eE)=s8:=by rw[akG,YH];rfl
 have hU8:=congrArg List.length hT8;simp only[akB] at hU8;exact fun M=>⟨rfl,_,(M.only (.cons _ (.refl _)) (.refl _)).cast rfl (by dsimp only;rw[hT8,Ut];simp only[hs0,hs1,eH,lU,yC,Nk,Nj,S6,YH,List.append_assoc])⟩
def Tv(v:Nat)(p:aD):List Nat:=eL kH p.rules++(eL (jX v) p.trans++(eL kI p.ay++((if 2≤v then eL jR p.ranges else []))))
theorem Sp{p:aD}{c0 c1 c2 c3 c4 c5 c6 c7 c8 c9 c10 c11 c12 c13 c14 c15 c16:Value}(hp:aA w0 c0 c1 c2 c3 c4 c5 c6 c7 c8 c9 c10 c11 c12 c13 c14 c15 c16 p)(hok:p.Ok)(M:Mm w0 w (iY W v1 (v:Int)::bs) (bf v1 xs::rs))(hb:xs.length+(Tv v p).length+700≤aT):
 Calls Tryz.prog 131 #[.pointer (some ⟨W,0,none⟩),.agg #[c0,c1,c2,c3,c4,c5,c6,c7,c8,c9,c10,c11,c12,c13,c14,c15,c16]] w (H6 w0.heap.size w0 bs rs W (v:Int) (xs++Tv v p)):=by
 obtain⟨a0,a1,a2,a3,a4,a5,a6,a7,a8,a9,rF,rE,a12,rD,rC,rB,rA,k0,k1,k2,k3,k4,k5,k6,k7,k8,k9,k10,k11,k12,k13,k14,k15,k16,rfl,rfl,rfl,rfl,rfl,rfl,rfl,rfl,rfl,rfl,rfl,rfl,rfl,rfl,rfl,rfl,rfl⟩:=hp.open;have hl:(Tv v p).length=(eL kH p.rules).length+((eL (jX v) p.trans).length+((eL kI p.ay).length+(((if 2≤v then eL jR p.ranges else [])).length))):=by unfold Tv;simp only[akB]
 have hL9:(eL kH p.rules).length=(eN (p.rules.length:Int)).length+(p.rules.flatMap kH).length:=by unfold eL;rw[akB]
 have hN9:=aV (p.rules.length:Int);have hB9:p.rules.length≤9223372036854775807:=by obtain⟨_,_,_,_,h,_⟩:=SliceAt.form hp.rules (by decide);exact h
 have ag1:(eL (jX v) p.trans).length=(eN (p.trans.length:Int)).length+(p.trans.flatMap (jX v)).length:=by unfold eL;rw[akB]
 have agU:=aV (p.trans.length:Int);have aha:p.trans.length≤9223372036854775807:=by obtain⟨_,_,_,_,h,_⟩:=SliceAt.form hp.trans (by decide);exact h
 have ag0:(eL kI p.ay).length=(eN (p.ay.length:Int)).length+(p.ay.flatMap kI).length:=by unfold eL;rw[akB]
 have agT:=aV (p.ay.length:Int);have ag_:p.ay.length≤9223372036854775807:=by obtain⟨_,_,_,_,h,_⟩:=SliceAt.form hp.ay (by decide);exact h
 have agZ:(eL jR p.ranges).length=(eN (p.ranges.length:Int)).length+(p.ranges.flatMap jR).length:=by unfold eL;rw[akB]
 have agS:=aV (p.ranges.length:Int);have ag9:p.ranges.length≤9223372036854775807:=by obtain⟨_,_,_,_,h,_⟩:=SliceAt.form hp.ranges (by decide);exact h
 refine d_ M [] (fn:=Tryz.f131) Tryz.func131 rfl Tryz.ntmps131 rfl<|fun g1 w1 M1=>?_
 refine lb 0<|an rfl<|gX (l:=xs++eN (p.rules.length:Int)) 1 M1 rfl (fun M=>bJ (n:=(p.rules.length:Int)) M (by(try simp only[akB]);omega)) fun v1 w1 M1=>lp (ι:=Nat×Value) (fun z=>[(4,.int .i64 (z.1:Int))]) (fun z=>(g1,39,#[.slice a0 p.classes.length k0,.slice a1 p.types.length k1,.slice a2 p.attrs.length k2,.slice a3 p.roles.length k3,.slice a4 p.users.length k4,.slice a5 p.bools.length k5,.slice a6 p.ak.length k6,.slice a7 p.cats.length k7,.slice a8 p.conds.length k8,.slice a9 p.rules.length k9,.slice rF p.trans.length k10,.slice rE p.ay.length k11,.slice a12 p.ranges.length k12,.slice rD p.cons.length k13,.slice rC p.bg.length k14,.slice rB p.files.length k15,.slice rA p.asserts.length k16])::iY W z.2 (v:Int)::bs) (fun z=>bf z.2 (xs++(eN (p.rules.length:Int)++(p.rules.take z.1).flatMap kH))::rs) (fun z _=>z.1≤p.rules.length) (fun z=>p.rules.length-z.1) (0,v1)<|an ⟨⟨rfl,trivial⟩,fun M=>⟨M.cast rfl (by simp),akC _⟩⟩ ?_
 rintro⟨j,u2⟩ w2 M2 hj;have hj:j≤p.rules.length:=hj;refine lb 0<|an rfl<|an (fun h=>?_) fun h=>?_
 ·have hlt:j<p.rules.length:=Int.ofNat_lt.1 (of_decide_eq_true h);obtain⟨y,hy⟩:∃ y,p.rules[j]?=some y:=⟨_,akD hlt⟩;have iZ:=fZ kH hy;have iK:=akE hy;have rO:=hok.rules y iK;have Nt:(kH y).length=(eN y.kind).length+((eT y.src).length+((eT y.tgt).length+((eB y.self).length+((eN y.cls).length+((eN y.perms).length+((eC y.cond).length)))))):=by unfold kH;simp only[akB]
  have kX:(xs++(eN (p.rules.length:Int)++(p.rules.take j).flatMap kH)).length+(kH y).length+300≤aT:=by simp only[akB];omega
  simp only[akB] at kX;have:=aV y.kind;have:=aV y.cls;obtain⟨b,off,e1,hc⟩:=SliceAt.elt hp.rules (f:=bY.cells) (fun _=>rfl) (by decide) hy hlt;exact lb 0<|an rfl<|ia<|an ⟨e1,rfl,hlt⟩<|lc (x:=y.cells)<|an (bZ M2.below hc)<|ei<|an zH fun g10 pT j3=>lb 0<|an ⟨rfl,rfl⟩ fun afp aea=>lb 0<|an rfl<|gX 2 aea rfl (fun M=>bJ (n:=y.kind) M (by(try simp only[akB]);omega)) fun v3 w3 M3=>lb 0<|an rfl<|gX 2 M3 rfl (fun M=>qK (s:=y.src) M rO.src (by(try simp only[akB]);omega)) fun v4 w4 M4=>lb 0<|an rfl<|gX 2 M4 rfl (fun M=>qK (s:=y.tgt) M rO.tgt (by(try simp only[akB]);omega)) fun v5 w5 M5=>lb 0<|an rfl<|gX 2 M5 rfl (fun M=>Et (b:=y.self) M (by(try simp only[akB]);omega)) fun v6 w6 M6=>lb 0<|an rfl<|gX 2 M6 rfl (fun M=>bJ (n:=y.cls) M (by(try simp only[akB]);omega)) fun v7 w7 M7=>lb 0<|an rfl<|gX 2 M7 rfl (fun M=>Pj (n:=y.perms) M rO.perms (by(try simp only[akB]);omega)) fun v8 w8 M8=>lb 0<|an rfl<|gX 2 M8 rfl (fun M=>II (m:=y.cond) M rO.cond (by(try simp only[akB]);omega)) fun v9 w9 M9=>an (by omega)<|bk (j+1,_) ⟨rfl,trivial⟩ (fun M=>⟨(M.only (.cons _ (.refl _)) (.refl _)).cast rfl (by rw[List.take_add_one,hy,akF,Option.toList_some,List.flatMap_cons,List.flatMap_nil,List.append_nil,kH];simp only[List.append_assoc,List.append_nil,List.nil_append]),hlt⟩) (by dsimp only;omega)
 have hge:j=p.rules.length:=Nat.le_antisymm hj (Nat.le_of_not_lt fun h2=>of_decide_eq_false h (Int.ofNat_lt.2 h2));subst hge;obtain⟨s9,Xv⟩:∃ a,a=xs++eL kH p.rules:=⟨_,rfl⟩;have hS9:s9.length=xs.length+(eL kH p.rules).length:=by rw[Xv,akB]
 have QI:xs++(eN (p.rules.length:Int)++(p.rules.take p.rules.length).flatMap kH)=s9:=by rw[akG,Xv];rfl
 have hU9:=congrArg List.length QI;simp only[akB] at hU9;refine lb 0<|an rfl<|gX (l:=s9++eN (p.trans.length:Int)) 1 M2 rfl (fun M=>by rw[← QI];exact bJ (n:=(p.trans.length:Int)) M (by(try simp only[akB]);omega)) fun v11 yY M11=>lp (ι:=Nat×Value) (fun z=>[(6,.int .i64 (z.1:Int))]) (fun z=>(g1,39,#[.slice a0 p.classes.length k0,.slice a1 p.types.length k1,.slice a2 p.attrs.length k2,.slice a3 p.roles.length k3,.slice a4 p.users.length k4,.slice a5 p.bools.length k5,.slice a6 p.ak.length k6,.slice a7 p.cats.length k7,.slice a8 p.conds.length k8,.slice a9 p.rules.length k9,.slice rF p.trans.length k10,.slice rE p.ay.length k11,.slice a12 p.ranges.length k12,.slice rD p.cons.length k13,.slice rC p.bg.length k14,.slice rB p.files.length k15,.slice rA p.asserts.length k16])::iY W z.2 (v:Int)::bs) (fun z=>bf z.2 (s9++(eN (p.trans.length:Int)++(p.trans.take z.1).flatMap (jX v)))::rs) (fun z _=>z.1≤p.trans.length) (fun z=>p.trans.length-z.1) (0,v11)<|an ⟨⟨rfl,trivial⟩,fun M=>⟨M.cast rfl (by simp),akC _⟩⟩ ?_
 rintro⟨j,u12⟩ Dh y9 hj;have hj:j≤p.trans.length:=hj;refine lb 0<|an rfl<|an (fun h=>?_) fun h=>?_
 ·have hlt:j<p.trans.length:=Int.ofNat_lt.1 (of_decide_eq_true h);obtain⟨y,hy⟩:∃ y,p.trans[j]?=some y:=⟨_,akD hlt⟩;have iZ:=fZ (jX v) hy;have iK:=akE hy;have rO:=hok.trans y iK;have Nt:(jX v y).length=(eN y.kind).length+((eT y.src).length+((eT y.tgt).length+((eN y.cls).length+((if 2≤v then eS y.name else []).length+((eN y.res).length+((eC y.cond).length)))))):=by unfold jX;simp only[akB]
  have kX:(s9++(eN (p.trans.length:Int)++(p.trans.take j).flatMap (jX v))).length+(jX v y).length+300≤aT:=by simp only[akB];omega
  simp only[akB] at kX;have:=aV y.kind;have:=aV y.cls;have:=aV y.res;obtain⟨b,off,e1,hc⟩:=SliceAt.elt hp.trans (f:=dH.cells) (fun _=>rfl) (by decide) hy hlt;exact lb 0<|an rfl<|ia<|an ⟨e1,rfl,hlt⟩<|lc (x:=y.cells)<|an (bZ y9.below hc)<|ei<|an FG fun g22 w22 XI=>lb 0<|an ⟨rfl,rfl⟩ fun afo ad_=>lb 0<|an rfl<|gX 2 ad_ rfl (fun M=>bJ (n:=y.kind) M (by(try simp only[akB]);omega)) fun KF RW FD=>lb 0<|an rfl<|gX 2 FD rfl (fun M=>qK (s:=y.src) M rO.src (by(try simp only[akB]);omega)) fun HY RV H7=>lb 0<|an rfl<|gX 2 H7 rfl (fun M=>qK (s:=y.tgt) M rO.tgt (by(try simp only[akB]);omega)) fun KE RU CQ=>lb 0<|an rfl<|gX 2 CQ rfl (fun M=>bJ (n:=y.cls) M (by(try simp only[akB]);omega)) fun HV Rx CK=>lb 2<|an rfl<|an (fun h=>have hv:2≤v:=(by { have:=of_decide_eq_true h;omega });have hif:(if 2≤v then eS y.name else []).length=(eS y.name).length:=(by rw[if_pos hv]);lb 0<|an rfl<|gX 2 CK rfl (fun M=>qJ (s:=y.name) M (by(try simp only[akB]);omega)) fun v17 TV Ft=>lb 0<|an rfl<|gX 2 Ft rfl (fun M=>bJ (n:=y.res) M (by(try simp only[akB]);omega)) fun v18 TU Ob=>lb 0<|an rfl<|gX 2 Ob rfl (fun M=>II (m:=y.cond) M rO.cond (by(try simp only[akB]);omega)) fun X1 Xg TR=>an (by omega)<|bk (j+1,_) ⟨rfl,trivial⟩ (fun M=>⟨(M.only (.cons _ (.refl _)) (.refl _)).cast rfl (by rw[List.take_add_one,hy,akF,Option.toList_some,List.flatMap_cons,List.flatMap_nil,List.append_nil,jX,if_pos hv];simp only[List.append_assoc,List.append_nil,List.nil_append]),hlt⟩) (by dsimp only;omega)) fun h=>have hv:¬ 2≤v:=(by { have:=of_decide_eq_false h;omega });lb 0<|an rfl<|gX 2 CK rfl (fun M=>bJ (n:=y.res) M (by(try simp only[akB]);omega)) fun v20 w20 TQ=>lb 0<|an rfl<|gX 2 TQ rfl (fun M=>II (m:=y.cond) M rO.cond (by(try simp only[akB]);omega)) fun v21 w21 TP=>an (by omega)<|bk (j+1,_) ⟨rfl,trivial⟩ (fun M=>⟨(M.only (.cons _ (.refl _)) (.refl _)).cast rfl (by rw[List.take_add_one,hy,akF,Option.toList_some,List.flatMap_cons,List.flatMap_nil,List.append_nil,jX,if_neg hv];simp only[List.append_assoc,List.append_nil,List.nil_append]),hlt⟩) (by dsimp only;omega)
 have hge:j=p.trans.length:=Nat.le_antisymm hj (Nat.le_of_not_lt fun h2=>of_decide_eq_false h (Int.ofNat_lt.2 h2));subst hge;obtain⟨s10,Np⟩:∃ a,a=s9++eL (jX v) p.trans:=⟨_,rfl⟩;have agN:s10.length=s9.length+(eL (jX v) p.trans).length:=by rw[Np,akB]
 have Zc:s9++(eN (p.trans.length:Int)++(p.trans.take p.trans.length).flatMap (jX v))=s10:=by rw[akG,Np];rfl
 have ac8:=congrArg List.length Zc;simp only[akB] at ac8;refine lb 0<|an rfl<|gX (l:=s10++eN (p.ay.length:Int)) 1 y9 rfl (fun M=>by rw[← Zc];exact bJ (n:=(p.ay.length:Int)) M (by(try simp only[akB]);omega)) fun v23 w23 UM=>lp (ι:=Nat×Value) (fun z=>[(8,.int .i64 (z.1:Int))]) (fun z=>(g1,39,#[.slice a0 p.classes.length k0,.slice a1 p.types.length k1,.slice a2 p.attrs.length k2,.slice a3 p.roles.length k3,.slice a4 p.users.length k4,.slice a5 p.bools.length k5,.slice a6 p.ak.length k6,.slice a7 p.cats.length k7,.slice a8 p.conds.length k8,.slice a9 p.rules.length k9,.slice rF p.trans.length k10,.slice rE p.ay.length k11,.slice a12 p.ranges.length k12,.slice rD p.cons.length k13,.slice rC p.bg.length k14,.slice rB p.files.length k15,.slice rA p.asserts.length k16])::iY W z.2 (v:Int)::bs) (fun z=>bf z.2 (s10++(eN (p.ay.length:Int)++(p.ay.take z.1).flatMap kI))::rs) (fun z _=>z.1≤p.ay.length) (fun z=>p.ay.length-z.1) (0,v23)<|an ⟨⟨rfl,trivial⟩,fun M=>⟨M.cast rfl (by simp),akC _⟩⟩ ?_
 rintro⟨j,u24⟩ w24 M24 hj;have hj:j≤p.ay.length:=hj;refine lb 0<|an rfl<|an (fun h=>?_) fun h=>?_
 ·have hlt:j<p.ay.length:=Int.ofNat_lt.1 (of_decide_eq_true h);obtain⟨y,hy⟩:∃ y,p.ay[j]?=some y:=⟨_,akD hlt⟩;have iZ:=fZ kI hy;have iK:=akE hy;have rO:=hok.ay y iK;have Nt:(kI y).length=(eT y.roles).length+((eT y.types).length+((eN y.cls).length+((eN y.res).length))):=by unfold kI;simp only[akB]
  have kX:(s10++(eN (p.ay.length:Int)++(p.ay.take j).flatMap kI)).length+(kI y).length+300≤aT:=by simp only[akB];omega
  simp only[akB] at kX;have:=aV y.cls;have:=aV y.res;obtain⟨b,off,e1,hc⟩:=SliceAt.elt hp.ay (f:=fE.cells) (fun _=>rfl) (by decide) hy hlt;exact lb 0<|an rfl<|ia<|an ⟨e1,rfl,hlt⟩<|lc (x:=y.cells)<|an (bZ M24.below hc)<|ei<|an Bb fun g29 w29 UL=>lb 0<|an ⟨rfl,rfl⟩ fun afm ad8=>lb 0<|an rfl<|gX 2 ad8 rfl (fun M=>qK (s:=y.roles) M rO.roles (by(try simp only[akB]);omega)) fun v25 w25 XH=>lb 0<|an rfl<|gX 2 XH rfl (fun M=>qK (s:=y.types) M rO.types (by(try simp only[akB]);omega)) fun v26 w26 Xd=>lb 0<|an rfl<|gX 2 Xd rfl (fun M=>bJ (n:=y.cls) M (by(try simp only[akB]);omega)) fun v27 w27 TN=>lb 0<|an rfl<|gX 2 TN rfl (fun M=>bJ (n:=y.res) M (by(try simp only[akB]);omega)) fun v28 w28 M28=>an (by omega)<|bk (j+1,_) ⟨rfl,trivial⟩ (fun M=>⟨(M.only (.cons _ (.refl _)) (.refl _)).cast rfl (by rw[List.take_add_one,hy,akF,Option.toList_some,List.flatMap_cons,List.flatMap_nil,List.append_nil,kI];simp only[List.append_assoc,List.append_nil,List.nil_append]),hlt⟩) (by dsimp only;omega)
 have hge:j=p.ay.length:=Nat.le_antisymm hj (Nat.le_of_not_lt fun h2=>of_decide_eq_false h (Int.ofNat_lt.2 h2));subst hge;obtain⟨FC,Nn⟩:∃ a,a=s10++eL kI p.ay:=⟨_,rfl⟩;have agM:FC.length=s10.length+(eL kI p.ay).length:=by rw[Nn,akB]
 have Ws:s10++(eN (p.ay.length:Int)++(p.ay.take p.ay.length).flatMap kI)=FC:=by rw[akG,Nn];rfl
 have ac7:=congrArg List.length Ws;simp only[akB] at ac7;refine lb 1<|an rfl<|an (fun h=>?_) fun h=>?_
 ·have hv:¬ 2≤v:=(by have:=of_decide_eq_true h;omega);exact fun M=>⟨rfl,_,(M.only (.cons _ (.refl _)) (.refl _)).cast rfl (by dsimp only;rw[Ws,Tv,if_neg hv];simp only[Xv,Np,Nn,List.append_assoc,List.append_nil])⟩
 have hv:2≤v:=(by have:=of_decide_eq_false h;omega);rw[if_pos hv] at hl;refine lb 0<|an rfl<|gX (l:=FC++eN (p.ranges.length:Int)) 1 M24 rfl (fun M=>by rw[← Ws];exact bJ (n:=(p.ranges.length:Int)) M (by(try simp only[akB]);omega)) fun v30 w30 M30=>lp (ι:=Nat×Value) (fun z=>[(10,.int .i64 (z.1:Int))]) (fun z=>(g1,39,#[.slice a0 p.classes.length k0,.slice a1 p.types.length k1,.slice a2 p.attrs.length k2,.slice a3 p.roles.length k3,.slice a4 p.users.length k4,.slice a5 p.bools.length k5,.slice a6 p.ak.length k6,.slice a7 p.cats.length k7,.slice a8 p.conds.length k8,.slice a9 p.rules.length k9,.slice rF p.trans.length k10,.slice rE p.ay.length k11,.slice a12 p.ranges.length k12,.slice rD p.cons.length k13,.slice rC p.bg.length k14,.slice rB p.files.length k15,.slice rA p.asserts.length k16])::iY W z.2 (v:Int)::bs) (fun z=>bf z.2 (FC++(eN (p.ranges.length:Int)++(p.ranges.take z.1).flatMap jR))::rs) (fun z _=>z.1≤p.ranges.length) (fun z=>p.ranges.length-z.1) (0,v30)<|an ⟨⟨rfl,trivial⟩,fun M=>⟨M.cast rfl (by simp),akC _⟩⟩ ?_
 rintro⟨j,u31⟩ w31 UK hj;have hj:j≤p.ranges.length:=hj;refine lb 0<|an rfl<|an (fun h=>?_) fun h=>?_
 ·have hlt:j<p.ranges.length:=Int.ofNat_lt.1 (of_decide_eq_true h);obtain⟨y,hy⟩:∃ y,p.ranges[j]?=some y:=⟨_,akD hlt⟩;have iZ:=fZ jR hy;have iK:=akE hy;have rO:=hok.ranges y iK;have Nt:(jR y).length=(eT y.src).length+((eT y.tgt).length+((eN y.cls).length+((uy y.rng).length))):=by unfold jR;simp only[akB]
  have kX:(FC++(eN (p.ranges.length:Int)++(p.ranges.take j).flatMap jR)).length+(jR y).length+300≤aT:=by simp only[akB];omega
  simp only[akB] at kX;have:=aV y.cls;obtain⟨b,off,e1,hc⟩:=SliceAt.elt hp.ranges (f:=fF.cells) (fun _=>rfl) (by decide) hy hlt;exact lb 0<|an rfl<|ia<|an ⟨e1,rfl,hlt⟩<|lc (x:=y.cells)<|an (bZ UK.below hc)<|ei<|an Ba fun g36 w36 M36=>lb 0<|an ⟨rfl,rfl⟩ fun afl ad7=>lb 0<|an rfl<|gX 2 ad7 rfl (fun M=>qK (s:=y.src) M rO.src (by(try simp only[akB]);omega)) fun v32 w32 Xc=>lb 0<|an rfl<|gX 2 Xc rfl (fun M=>qK (s:=y.tgt) M rO.tgt (by(try simp only[akB]);omega)) fun v33 w33 UJ=>lb 0<|an rfl<|gX 2 UJ rfl (fun M=>bJ (n:=y.cls) M (by(try simp only[akB]);omega)) fun v34 w34 M34=>lb 0<|an rfl<|gX 2 M34 rfl (fun M=>IG (r:=y.rng) M rO.rng.low.cats rO.rng.high.cats (by(try simp only[akB]);omega)) fun v35 w35 M35=>an (by omega)<|bk (j+1,_) ⟨rfl,trivial⟩ (fun M=>⟨(M.only (.cons _ (.refl _)) (.refl _)).cast rfl (by rw[List.take_add_one,hy,akF,Option.toList_some,List.flatMap_cons,List.flatMap_nil,List.append_nil,jR];simp only[List.append_assoc,List.append_nil,List.nil_append]),hlt⟩) (by dsimp only;omega)
 have hge:j=p.ranges.length:=Nat.le_antisymm hj (Nat.le_of_not_lt fun h2=>of_decide_eq_false h (Int.ofNat_lt.2 h2));subst hge;obtain⟨s12,Nl⟩:∃ a,a=FC++eL jR p.ranges:=⟨_,rfl⟩;have agL:s12.length=FC.length+(eL jR p.ranges).length:=by rw[Nl,akB]
 have Zb:FC++(eN (p.ranges.length:Int)++(p.ranges.take p.ranges.length).flatMap jR)=s12:=by rw[akG,Nl];rfl
 have ac6:=congrArg List.length Zb;simp only[akB] at ac6;exact fun M=>⟨rfl,_,(M.only (.cons _ (.refl _)) (.refl _)).cast rfl (by dsimp only;rw[Zb,Tv,if_pos hv];simp only[Xv,Np,Nn,Nl,List.append_assoc])⟩
def Tt(v:Nat)(p:aD):List Nat:=eL kK p.cons++(eL kG p.bg++((if 3≤v then eL jc p.files else [])++((if 3≤v then eL jd p.asserts else []))))
theorem Pk{p:aD}{c0 c1 c2 c3 c4 c5 c6 c7 c8 c9 c10 c11 c12 c13 c14 c15 c16:Value}(hp:aA w0 c0 c1 c2 c3 c4 c5 c6 c7 c8 c9 c10 c11 c12 c13 c14 c15 c16 p)(hok:p.Ok)(M:Mm w0 w (iY W v1 (v:Int)::bs) (bf v1 xs::rs))(hb:xs.length+(Tt v p).length+700≤aT):
 Calls Tryz.prog 132 #[.pointer (some ⟨W,0,none⟩),.agg #[c0,c1,c2,c3,c4,c5,c6,c7,c8,c9,c10,c11,c12,c13,c14,c15,c16]] w (H6 w0.heap.size w0 bs rs W (v:Int) (xs++Tt v p)):=by
 obtain⟨a0,a1,a2,a3,a4,a5,a6,a7,a8,a9,rF,rE,a12,rD,rC,rB,rA,k0,k1,k2,k3,k4,k5,k6,k7,k8,k9,k10,k11,k12,k13,k14,k15,k16,rfl,rfl,rfl,rfl,rfl,rfl,rfl,rfl,rfl,rfl,rfl,rfl,rfl,rfl,rfl,rfl,rfl⟩:=hp.open;have hl:(Tt v p).length=(eL kK p.cons).length+((eL kG p.bg).length+(((if 3≤v then eL jc p.files else [])).length+(((if 3≤v then eL jd p.asserts else [])).length))):=by unfold Tt;simp only[akB]
 have agY:(eL kK p.cons).length=(eN (p.cons.length:Int)).length+(p.cons.flatMap kK).length:=by unfold eL;rw[akB]
 have agR:=aV (p.cons.length:Int);have ag8:p.cons.length≤9223372036854775807:=by obtain⟨_,_,_,_,h,_⟩:=aj.form hp.cons (by decide);exact h
 have agX:(eL kG p.bg).length=(eN (p.bg.length:Int)).length+(p.bg.flatMap kG).length:=by unfold eL;rw[akB]
 have agQ:=aV (p.bg.length:Int);have ag7:p.bg.length≤9223372036854775807:=by obtain⟨_,_,_,_,h,_⟩:=SliceAt.form hp.bg (by decide);exact h
 have agW:(eL jc p.files).length=(eN (p.files.length:Int)).length+(p.files.flatMap jc).length:=by unfold eL;rw[akB]
 have agP:=aV (p.files.length:Int);have ag6:p.files.length≤9223372036854775807:=by obtain⟨_,_,_,_,h,_⟩:=SliceAt.form hp.files (by decide);exact h
 have agV:(eL jd p.asserts).length=(eN (p.asserts.length:Int)).length+(p.asserts.flatMap jd).length:=by unfold eL;rw[akB]
 have agO:=aV (p.asserts.length:Int);have ag5:p.asserts.length≤9223372036854775807:=by obtain⟨_,_,_,_,h,_⟩:=SliceAt.form hp.asserts (by decide);exact h
 refine d_ M [] (fn:=Tryz.f132) Tryz.func132 rfl Tryz.ntmps132 rfl<|fun g1 w1 M1=>?_
 refine lb 0<|an rfl<|gX (l:=xs++eN (p.cons.length:Int)) 1 M1 rfl (fun M=>bJ (n:=(p.cons.length:Int)) M (by(try simp only[akB]);omega)) fun v1 w1 M1=>lp (ι:=Nat×Value) (fun z=>[(4,.int .i64 (z.1:Int))]) (fun z=>(g1,39,#[.slice a0 p.classes.length k0,.slice a1 p.types.length k1,.slice a2 p.attrs.length k2,.slice a3 p.roles.length k3,.slice a4 p.users.length k4,.slice a5 p.bools.length k5,.slice a6 p.ak.length k6,.slice a7 p.cats.length k7,.slice a8 p.conds.length k8,.slice a9 p.rules.length k9,.slice rF p.trans.length k10,.slice rE p.ay.length k11,.slice a12 p.ranges.length k12,.slice rD p.cons.length k13,.slice rC p.bg.length k14,.slice rB p.files.length k15,.slice rA p.asserts.length k16])::iY W z.2 (v:Int)::bs) (fun z=>bf z.2 (xs++(eN (p.cons.length:Int)++(p.cons.take z.1).flatMap kK))::rs) (fun z _=>z.1≤p.cons.length) (fun z=>p.cons.length-z.1) (0,v1)<|an ⟨⟨rfl,trivial⟩,fun M=>⟨M.cast rfl (by simp),akC _⟩⟩ ?_
 rintro⟨j,u2⟩ w2 M2 hj;have hj:j≤p.cons.length:=hj;refine lb 0<|an rfl<|an (fun h=>?_) fun h=>?_
 ·have hlt:j<p.cons.length:=Int.ofNat_lt.1 (of_decide_eq_true h);obtain⟨y,hy⟩:∃ y,p.cons[j]?=some y:=⟨_,akD hlt⟩;have iZ:=fZ kK hy;have iK:=akE hy;have rO:=hok.cons y iK;have Nt:(kK y).length=(eN y.cls).length+((eN y.perms).length+((eB y.val).length+((eE y.expr).length))):=by unfold kK;simp only[akB]
  have kX:(xs++(eN (p.cons.length:Int)++(p.cons.take j).flatMap kK)).length+(kK y).length+300≤aT:=by simp only[akB];omega
  simp only[akB] at kX;have:=aV y.cls;obtain⟨b,off,x,e1,hx,hc⟩:=aj.elt hp.cons (by decide) hy;obtain⟨es,rfl,Zi⟩:=hx;have Wv:=Zi;obtain⟨nv,kv,rfl,uH,hkv⟩:=Wv.open;obtain⟨_,_,rfl,-⟩:=aN.get uH;obtain⟨_,_,rfl,-,-,-⟩:=aj.form hkv (by decide);exact lb 0<|an rfl<|ia<|an ⟨e1,rfl,hlt⟩<|lc<|an (bZ M2.below hc)<|ei<|an FE fun g7 w7 M7=>lb 0<|an ⟨rfl,rfl⟩ fun w7b M7b=>lb 0<|an rfl<|gX 2 M7b rfl (fun M=>bJ (n:=y.cls) M (by(try simp only[akB]);omega)) fun v3 w3 M3=>lb 0<|an rfl<|gX 2 M3 rfl (fun M=>Pj (n:=y.perms) M rO.perms (by(try simp only[akB]);omega)) fun v4 w4 M4=>lb 0<|an rfl<|gX 2 M4 rfl (fun M=>Et (b:=y.val) M (by(try simp only[akB]);omega)) fun v5 w5 M5=>lb 0<|an rfl<|gX 2 M5 rfl (fun M=>Pm y.expr w0 _ _ _ _ _ _ Zi rO.expr M (by(try simp only[akB]);omega)) fun v6 w6 M6=>an (by omega)<|bk (j+1,_) ⟨rfl,trivial⟩ (fun M=>⟨(M.only (.cons _ (.refl _)) (.refl _)).cast rfl (by rw[List.take_add_one,hy,akF,Option.toList_some,List.flatMap_cons,List.flatMap_nil,List.append_nil,kK];simp only[List.append_assoc,List.append_nil,List.nil_append]),hlt⟩) (by dsimp only;omega)
 have hge:j=p.cons.length:=Nat.le_antisymm hj (Nat.le_of_not_lt fun h2=>of_decide_eq_false h (Int.ofNat_lt.2 h2));subst hge;obtain⟨FA,GX⟩:∃ a,a=xs++eL kK p.cons:=⟨_,rfl⟩;have agK:FA.length=xs.length+(eL kK p.cons).length:=by rw[GX,akB]
 have Za:xs++(eN (p.cons.length:Int)++(p.cons.take p.cons.length).flatMap kK)=FA:=by rw[akG,GX];rfl
 have ac5:=congrArg List.length Za;simp only[akB] at ac5;refine lb 0<|an rfl<|gX (l:=FA++eN (p.bg.length:Int)) 1 M2 rfl (fun M=>by rw[← Za];exact bJ (n:=(p.bg.length:Int)) M (by(try simp only[akB]);omega)) fun v8 w8 M8=>lp (ι:=Nat×Value) (fun z=>[(6,.int .i64 (z.1:Int))]) (fun z=>(g1,39,#[.slice a0 p.classes.length k0,.slice a1 p.types.length k1,.slice a2 p.attrs.length k2,.slice a3 p.roles.length k3,.slice a4 p.users.length k4,.slice a5 p.bools.length k5,.slice a6 p.ak.length k6,.slice a7 p.cats.length k7,.slice a8 p.conds.length k8,.slice a9 p.rules.length k9,.slice rF p.trans.length k10,.slice rE p.ay.length k11,.slice a12 p.ranges.length k12,.slice rD p.cons.length k13,.slice rC p.bg.length k14,.slice rB p.files.length k15,.slice rA p.asserts.length k16])::iY W z.2 (v:Int)::bs) (fun z=>bf z.2 (FA++(eN (p.bg.length:Int)++(p.bg.take z.1).flatMap kG))::rs) (fun z _=>z.1≤p.bg.length) (fun z=>p.bg.length-z.1) (0,v8)<|an ⟨⟨rfl,trivial⟩,fun M=>⟨M.cast rfl (by simp),akC _⟩⟩ ?_
 rintro⟨j,u9⟩ w9 M9 hj;have hj:j≤p.bg.length:=hj;refine lb 0<|an rfl<|an (fun h=>?_) fun h=>?_
 ·have hlt:j<p.bg.length:=Int.ofNat_lt.1 (of_decide_eq_true h);obtain⟨y,hy⟩:∃ y,p.bg[j]?=some y:=⟨_,akD hlt⟩;have iZ:=fZ kG hy;have iK:=akE hy;have rO:=hok.bg y iK;have Nt:(kG y).length=(eS y.name).length+((vD y.ctx).length):=by unfold kG;simp only[akB]
  have kX:(FA++(eN (p.bg.length:Int)++(p.bg.take j).flatMap kG)).length+(kG y).length+300≤aT:=by simp only[akB];omega
  simp only[akB] at kX;obtain⟨b,off,e1,hc⟩:=SliceAt.elt hp.bg (f:=fC.cells) (fun _=>rfl) (by decide) hy hlt;exact lb 0<|an rfl<|ia<|an ⟨e1,rfl,hlt⟩<|lc (x:=.string y.name)<|an (bZ M9.below hc 0 _ rfl)<|gX 1 M9 rfl (fun M=>qJ (s:=y.name) M (by(try simp only[akB]);omega)) fun v10 pT j3=>lb 0<|an rfl<|ia<|an ⟨e1,rfl,hlt⟩<|lc (x:=y.ctx.cells)<|an (ef (bZ j3.below hc) rfl)<|gX 1 j3 rfl (fun M=>Dr (c:=y.ctx) M rO.ctx.rng.low.cats rO.ctx.rng.high.cats (by(try simp only[akB]);omega)) fun v11 yY M11=>an (by omega)<|bk (j+1,_) ⟨rfl,trivial⟩ (fun M=>⟨(M.only (.refl _) (.refl _)).cast rfl (by rw[List.take_add_one,hy,akF,Option.toList_some,List.flatMap_cons,List.flatMap_nil,List.append_nil,kG];simp only[List.append_assoc,List.append_nil,List.nil_append]),hlt⟩) (by dsimp only;omega)
 have hge:j=p.bg.length:=Nat.le_antisymm hj (Nat.le_of_not_lt fun h2=>of_decide_eq_false h (Int.ofNat_lt.2 h2));subst hge;obtain⟨Fz,ER⟩:∃ a,a=FA++eL kG p.bg:=⟨_,rfl⟩;have agJ:Fz.length=FA.length+(eL kG p.bg).length:=by rw[ER,akB]
 have Wr:FA++(eN (p.bg.length:Int)++(p.bg.take p.bg.length).flatMap kG)=Fz:=by rw[akG,ER];rfl
 have ac4:=congrArg List.length Wr;simp only[akB] at ac4;refine lb 1<|an rfl<|an (fun h=>?_) fun h=>?_
 ·have hv:¬ 3≤v:=(by have:=of_decide_eq_true h;omega);exact fun M=>⟨rfl,_,(M.only (.cons _ (.refl _)) (.refl _)).cast rfl (by dsimp only;rw[Wr,Tt,if_neg hv,if_neg hv];simp only[GX,ER,List.append_assoc,List.append_nil])⟩
 have hv:3≤v:=(by have:=of_decide_eq_false h;omega);rw[if_pos hv,if_pos hv] at hl;refine lb 0<|an rfl<|gX (l:=Fz++eN (p.files.length:Int)) 1 M9 rfl (fun M=>by rw[← Wr];exact bJ (n:=(p.files.length:Int)) M (by(try simp only[akB]);omega)) fun v12 Dh y9=>lp (ι:=Nat×Value) (fun z=>[(7,.int .i64 (z.1:Int))]) (fun z=>(g1,39,#[.slice a0 p.classes.length k0,.slice a1 p.types.length k1,.slice a2 p.attrs.length k2,.slice a3 p.roles.length k3,.slice a4 p.users.length k4,.slice a5 p.bools.length k5,.slice a6 p.ak.length k6,.slice a7 p.cats.length k7,.slice a8 p.conds.length k8,.slice a9 p.rules.length k9,.slice rF p.trans.length k10,.slice rE p.ay.length k11,.slice a12 p.ranges.length k12,.slice rD p.cons.length k13,.slice rC p.bg.length k14,.slice rB p.files.length k15,.slice rA p.asserts.length k16])::iY W z.2 (v:Int)::bs) (fun z=>bf z.2 (Fz++(eN (p.files.length:Int)++(p.files.take z.1).flatMap jc))::rs) (fun z _=>z.1≤p.files.length) (fun z=>p.files.length-z.1) (0,v12)<|an ⟨⟨rfl,trivial⟩,fun M=>⟨M.cast rfl (by simp),akC _⟩⟩ ?_
 rintro⟨j,u13⟩ RW FD hj;have hj:j≤p.files.length:=hj;refine lb 0<|an rfl<|an (fun h=>?_) fun h=>?_
 ·have hlt:j<p.files.length:=Int.ofNat_lt.1 (of_decide_eq_true h);obtain⟨y,hy⟩:∃ y,p.files[j]?=some y:=⟨_,akD hlt⟩;have iZ:=fZ jc hy;have iK:=akE hy;have rO:=hok.files y iK;have Nt:(jc y).length=(eS y.pat).length+((eN y.kind).length+((vD y.ctx).length)):=by unfold jc;simp only[akB]
  have kX:(Fz++(eN (p.files.length:Int)++(p.files.take j).flatMap jc)).length+(jc y).length+300≤aT:=by simp only[akB];omega
  simp only[akB] at kX;have:=aV y.kind;obtain⟨b,off,e1,hc⟩:=SliceAt.elt hp.files (f:=fG.cells) (fun _=>rfl) (by decide) hy hlt;exact lb 0<|an rfl<|ia<|an ⟨e1,rfl,hlt⟩<|lc (x:=.string y.pat)<|an (bZ FD.below hc 0 _ rfl)<|gX 1 FD rfl (fun M=>qJ (s:=y.pat) M (by(try simp only[akB]);omega)) fun HY RV H7=>lb 0<|an rfl<|ia<|an ⟨e1,rfl,hlt⟩<|lc (x:=.int .i64 y.kind)<|an (bZ H7.below hc 1 _ rfl)<|gX 1 H7 rfl (fun M=>bJ (n:=y.kind) M (by(try simp only[akB]);omega)) fun KE RU CQ=>lb 0<|an rfl<|ia<|an ⟨e1,rfl,hlt⟩<|lc (x:=y.ctx.cells)<|an (ef (bZ CQ.below hc) rfl)<|gX 1 CQ rfl (fun M=>Dr (c:=y.ctx) M rO.ctx.rng.low.cats rO.ctx.rng.high.cats (by(try simp only[akB]);omega)) fun HV Rx CK=>an (by omega)<|bk (j+1,_) ⟨rfl,trivial⟩ (fun M=>⟨(M.only (.refl _) (.refl _)).cast rfl (by rw[List.take_add_one,hy,akF,Option.toList_some,List.flatMap_cons,List.flatMap_nil,List.append_nil,jc];simp only[List.append_assoc,List.append_nil,List.nil_append]),hlt⟩) (by dsimp only;omega)
 have hge:j=p.files.length:=Nat.le_antisymm hj (Nat.le_of_not_lt fun h2=>of_decide_eq_false h (Int.ofNat_lt.2 h2));subst hge;obtain⟨Eh,GW⟩:∃ a,a=Fz++eL jc p.files:=⟨_,rfl⟩;have agI:Eh.length=Fz.length+(eL jc p.files).length:=by rw[GW,akB]
 have Y_:Fz++(eN (p.files.length:Int)++(p.files.take p.files.length).flatMap jc)=Eh:=by rw[akG,GW];rfl
 have ac3:=congrArg List.length Y_;simp only[akB] at ac3;refine lb 0<|an rfl<|gX (l:=Eh++eN (p.asserts.length:Int)) 1 FD rfl (fun M=>by rw[← Y_];exact bJ (n:=(p.asserts.length:Int)) M (by(try simp only[akB]);omega)) fun v17 TV Ft=>lp (ι:=Nat×Value) (fun z=>[(8,.int .i64 (z.1:Int))]) (fun z=>(g1,39,#[.slice a0 p.classes.length k0,.slice a1 p.types.length k1,.slice a2 p.attrs.length k2,.slice a3 p.roles.length k3,.slice a4 p.users.length k4,.slice a5 p.bools.length k5,.slice a6 p.ak.length k6,.slice a7 p.cats.length k7,.slice a8 p.conds.length k8,.slice a9 p.rules.length k9,.slice rF p.trans.length k10,.slice rE p.ay.length k11,.slice a12 p.ranges.length k12,.slice rD p.cons.length k13,.slice rC p.bg.length k14,.slice rB p.files.length k15,.slice rA p.asserts.length k16])::iY W z.2 (v:Int)::bs) (fun z=>bf z.2 (Eh++(eN (p.asserts.length:Int)++(p.asserts.take z.1).flatMap jd))::rs) (fun z _=>z.1≤p.asserts.length) (fun z=>p.asserts.length-z.1) (0,v17)<|an ⟨⟨rfl,trivial⟩,fun M=>⟨M.cast rfl (by simp),akC _⟩⟩ ?_
 rintro⟨j,u18⟩ TU Ob hj;have hj:j≤p.asserts.length:=hj;refine lb 0<|an rfl<|an (fun h=>?_) fun h=>?_
 ·have hlt:j<p.asserts.length:=Int.ofNat_lt.1 (of_decide_eq_true h);obtain⟨y,hy⟩:∃ y,p.asserts[j]?=some y:=⟨_,akD hlt⟩;have iZ:=fZ jd hy;have iK:=akE hy;have rO:=hok.asserts y iK;have Nt:(jd y).length=(eS y.name).length+((eN y.kind).length+((eT y.src).length+((eT y.tgt).length))):=by unfold jd;simp only[akB]
  have kX:(Eh++(eN (p.asserts.length:Int)++(p.asserts.take j).flatMap jd)).length+(jd y).length+300≤aT:=by simp only[akB];omega
  simp only[akB] at kX;have:=aV y.kind;obtain⟨b,off,e1,hc⟩:=SliceAt.elt hp.asserts (f:=fI.cells) (fun _=>rfl) (by decide) hy hlt;exact lb 0<|an rfl<|ia<|an ⟨e1,rfl,hlt⟩<|lc (x:=y.cells)<|an (bZ Ob.below hc)<|ei<|an A_ fun g23 w23 UM=>lb 0<|an ⟨rfl,rfl⟩ fun afn ad9=>lb 0<|an rfl<|gX 2 ad9 rfl (fun M=>qJ (s:=y.name) M (by(try simp only[akB]);omega)) fun X1 Xg TR=>lb 0<|an rfl<|gX 2 TR rfl (fun M=>bJ (n:=y.kind) M (by(try simp only[akB]);omega)) fun v20 w20 TQ=>lb 0<|an rfl<|gX 2 TQ rfl (fun M=>qK (s:=y.src) M rO.src (by(try simp only[akB]);omega)) fun v21 w21 TP=>lb 0<|an rfl<|gX 2 TP rfl (fun M=>qK (s:=y.tgt) M rO.tgt (by(try simp only[akB]);omega)) fun v22 w22 XI=>an (by omega)<|bk (j+1,_) ⟨rfl,trivial⟩ (fun M=>⟨(M.only (.cons _ (.refl _)) (.refl _)).cast rfl (by rw[List.take_add_one,hy,akF,Option.toList_some,List.flatMap_cons,List.flatMap_nil,List.append_nil,jd];simp only[List.append_assoc,List.append_nil,List.nil_append]),hlt⟩) (by dsimp only;omega)
 have hge:j=p.asserts.length:=Nat.le_antisymm hj (Nat.le_of_not_lt fun h2=>of_decide_eq_false h (Int.ofNat_lt.2 h2));subst hge;obtain⟨Mq,Ca⟩:∃ a,a=Eh++eL jd p.asserts:=⟨_,rfl⟩;have agH:Mq.length=Eh.length+(eL jd p.asserts).length:=by rw[Ca,akB]
 have Y9:Eh++(eN (p.asserts.length:Int)++(p.asserts.take p.asserts.length).flatMap jd)=Mq:=by rw[akG,Ca];rfl
 have ac2:=congrArg List.length Y9;simp only[akB] at ac2;exact fun M=>⟨rfl,_,(M.only (.cons _ (.refl _)) (.refl _)).cast rfl (by dsimp only;rw[Y9,Tt,if_pos hv,if_pos hv];simp only[GX,ER,GW,Ca,List.append_assoc])⟩
theorem Cw(v:Nat)(p:aD):i_ v p=Ut v p++(Tv v p++Tt v p):=by
 unfold i_ Ut Tv Tt;simp only[List.append_assoc]
end
theorem QX{P:Program}{a:Act}{w:World}{o:Oper}{t e:TypeId}{x lo hi mx:Operand}{g off n c l k:Nat}{k1 k2 k3:IntKind}(ho:o.op=.slice t x (some lo) (some hi) (some mx))(hx:a.eval x=.slice (some ⟨g,off,none⟩) n c)(hl:a.eval lo=.int k1 (l:Int))(hh:a.eval hi=.int k2 (n:Int))(hm:a.eval mx=.int k3 (n:Int))(hln:l≤n)(hnc:n≤c)
 (hu:P.underlying t=some (.slice e)) (hs:(P.info? e).map (·.size)=some k):(execOp a.eval o).run P w=.ok (.value (.slice (if n=l then some ⟨g,off,none⟩ else some ⟨g,off+l*k,none⟩) (n-l) (n-l))) w:=by
 have hadd:(⟨g,off,none⟩:Addr).add (l*k)=⟨g,off+l*k,none⟩:=by unfold Addr.add;split<;>simp_all
 have h1:(0:Int)≤(l:Int)∧(l:Int)≤(n:Int):=by omega
 have h2:(0:Int)≤(n:Int)∧(n:Int)≤(c:Int):=by omega
 have h3:(0:Int)≤(n:Int)∧(n:Int)≤(n:Int):=by omega
 unfold execOp;simp only[ho,hx,hl,hh,hm,Option.map_some,Option.map_none,Instr.sliceAt,akH,run_underlying hu w,Result.andThen_ok,Instr.slice,Instr.sliceBounds,Instr.sliceBound,asIntOf,Sem.run_pure,h1,h2,h3,and_self,if_true,Int.toNat_natCast];by_cases h:n=l
 ·subst h;simp[run_sizeOf hs]
 ·simp[h,run_sizeOf hs,hadd]
def Ad(g off n i:Nat):Value:=.slice (if n=i then some ⟨g,off,none⟩ else some ⟨g,off+i,none⟩) (n-i) (n-i)
theorem Dk{w:World}{g off c i:Nat}{l:List Nat}(h:aq w (.slice (some ⟨g,off,none⟩) l.length c) l)(hi:i≤l.length):aq w (Ad g off l.length i) (l.drop i):=by
 unfold Ad;by_cases e:l.length=i
 ·rw[if_pos e,e,List.drop_eq_nil_of_le (by omega),Nat.sub_self];exact aq.empty w _
 ·rw[if_neg e];have h2:=h.part (i:=i) (j:=l.length) (c':=l.length-i) hi (Nat.le_refl _) (Nat.le_refl _);rw[akG] at h2;have:(⟨g,off,none⟩:Addr).add i=⟨g,off+i,none⟩:=by unfold Addr.add;split<;>simp_all
  rw[this] at h2;exact h2
theorem cs3{B:Nat}{w0 w:World}{bs:List Bx}{rs:List Rw}{ty:TypeId}{x lo hi mx:Operand}{g off n c i:Nat}{K:Value→List Bx→List Rw→World→Prop}(M:aQ B w0 w bs rs)(hi':i≤n)(hc:n≤c)(h:K (Ad g off n i) bs rs w):
 ∃ R:Value→World→Prop,(∀ (a:Act) (o':Oper),o'.op=.slice 42 x (some lo) (some hi) (some mx)→o'.type=ty→wj a (jW (.slice 42 x (some lo) (some hi) (some mx))) [.slice (some ⟨g,off,none⟩) n c,.int .i64 (i:Int),.int .i64 (n:Int),.int .i64 (n:Int)]→∃ v w',(execOp a.eval o').run Tryz.prog w=.ok (.value v) w'∧R v w')∧∀ v w',R v w'→∃ bs' rs',aQ B w0 w' bs' rs'∧K v bs' rs' w':=by
 refine⟨fun u w2=>u=Ad g off n i∧w2=w,fun a o' hop _ pW=>⟨_,_,?_,rfl,rfl⟩,?_⟩
 ·have acR:a.eval mx=.int .i64 (n:Int):=by
   cases pW with
   | cons _ h=>cases h with
    | cons _ h=>cases h with
     | cons _ h=>cases h with
      | cons h _=>exact h
  have:=QX (P:=Tryz.prog) (w:=w) (l:=i) (k:=1) hop (aY pW) (cC pW) (aec pW) acR hi' hc KG (by kernel_rfl);rw[Nat.mul_one] at this;exact this
 ·rintro v w2 ⟨rfl,rfl⟩;exact⟨_,_,M,h⟩
theorem BH{w0:World}{g off c n i:Nat}(hi:i≤n)(hc:n≤c):Calls Tryz.prog 300 #[.slice (some ⟨g,off,none⟩) n c,.int .i64 (i:Int)] w0 (fun r w'=>r=.returned (Ad g off n i)∧akI w0.heap.size w0 w'):=by
 refine bM [] (fn:=Tryz.f300) Tryz.func300 rfl Tryz.ntmps300 rfl<|cs3 (Mm.start w0) hi hc<|fun M=>⟨rfl,M.below⟩
def wG(g off n:Nat)(x:List Nat)(e:Int):Value:=if e=0 then Ad g off n (n-x.length) else .slice none 0 0
theorem Gr{l:List Nat}{n j:Nat}(hj:j<l.length)(h:number l=(n,l.drop (j+1),0)):l.length-(number l).2.1.length=j+1:=by
 rw[h];simp;omega
theorem Gq{w0:World}{g off c:Nat}{l:List Nat}(h:aq w0 (.slice (some ⟨g,off,none⟩) l.length c) l)(hc:l.length≤c):
 Calls Tryz.prog 257 #[.slice (some ⟨g,off,none⟩) l.length c] w0 (fun r w'=>r=.returned (.tuple #[.int .u64 ((number l).1:Int),wG g off l.length (number l).2.1 (number l).2.2,.int .i64 (number l).2.2])∧akI w0.heap.size w0 w'):=by
 obtain⟨a',c',e',-,hm,ha⟩:=jU h;cases e';refine bM [] (fn:=Tryz.f257) Tryz.func257 rfl Tryz.ntmps257 rfl<|lr (ι:=Nat×Nat) (fun z=>[(5,.int .u64 (z.2:Int)),(8,.int .i64 (z.1:Int))]) (fun z _=>z.1≤10∧z.1≤l.length∧z.2<128^z.1∧number l=mE z.1 z.2 (l.drop z.1)) (fun z=>10-z.1) (0,0)<|an ⟨⟨rfl,rfl,trivial⟩,fun M=>⟨M,akC _,akC _,Nat.one_pos,rfl⟩⟩ ?_;rintro⟨j,n⟩ w1 M1 ⟨hj,hjl,hn,uI⟩;dsimp only at hj hjl hn uI;refine an (fun h1=>?_) fun h1=>?_
 case refine_2=>
  have hge:j=10:=Nat.le_antisymm hj (Nat.le_of_not_lt fun h2=>of_decide_eq_false h1 (Int.ofNat_lt.2 h2));subst hge;rw[MF] at uI;exact fun M=>⟨by rw[uI];rfl,M.below⟩
 have acO:j<10:=Int.ofNat_lt.1 (of_decide_eq_true h1);refine an (fun h2=>?_) fun h2=>?_
 ·have hge:l.length≤j:=Int.ofNat_le.1 (of_decide_eq_true h2);rw[List.drop_eq_nil_of_le hge] at uI;unfold mE at uI;rw[if_pos acO] at uI;exact fun M=>⟨by rw[uI];rfl,M.below⟩
 have hlt:j<l.length:=Nat.lt_of_not_le fun h3=>of_decide_eq_false h2 (Int.ofNat_le.2 h3)
 obtain⟨y,b,off',e1,hy,VZ,hcell⟩:=ha j hlt;cases e1;rw[LP hy] at uI;unfold mE at uI;rw[if_neg (by omega)] at uI;refine ia<|an ⟨rfl,rfl,hlt⟩<|lc (x:=.int .u8 (y:Int))<|an (cell_later M1.below (by simpa using hcell))<|an (fun h3=>?_) fun h3=>?_
 ·have acZ:(j=9∧1<y)∨(0<j∧y=0):=by
   simp at h3;omega
  rw[if_pos acZ] at uI;exact fun M=>⟨by rw[uI];rfl,M.below⟩
 have hgood:¬ ((j=9∧1<y)∨(0<j∧y=0)):=by
  simp at h3;omega
 rw[if_neg hgood] at uI;have hor:=Vw j n y (128^j) rfl (by omega) hn VZ (fun e=>by omega)
 have acz:(2:Int)^((7:Int)*(j:Int)).toNat=((128^j:Nat):Int):=by
  rw[show((7:Int)*(j:Int)).toNat=7*j by omega,Int.natCast_pow,show((128:Nat):Int)=2^7 by decide,← Int.pow_mul]
 refine ei (x:=bits .andNot .u8 (y:Int) 128)<|an rfl<|ei (x:=.int .u64 (IntKind.u64.wrap (bits .andNot .u8 (y:Int) 128)))<|an (fun a w o ho hv=>eI ho (aY hv) u5 zL)<|an (by omega)<|ei (x:=.int .u64 (IntKind.u64.wrap (IntKind.u64.wrap (bits .andNot .u8 (y:Int) 128)*((128^j:Nat):Int))))<|an (fun a w o ho hv=>(DL ho (aY hv) (cC hv) (by omega) (show(7:Int)*(j:Int)≤((64:Nat):Int) by omega)).trans (by rw[acz]))<|ei (x:=((n+y%128*128^j:Nat):Int))<|an hor<|an (fun h4=>?_) fun h4=>?_
 ·have yD:y<128:=Int.ofNat_lt.1 (of_decide_eq_true h4);rw[if_pos yD] at uI;have hleft:=Gr hlt uI;refine an (by omega)<|cl<|an (BH (i:=j+1) (by omega) hc) fun w2 M2=>fun M=>⟨?_,M.below⟩
  unfold wG;rw[hleft,uI];rfl
 ·have acP:¬ y<128:=fun h5=>of_decide_eq_false h4 (Int.ofNat_lt.2 h5)
  rw[if_neg acP] at uI;exact an (by omega)<|bk (j+1,n+y%128*128^j) ⟨rfl,rfl,trivial⟩ (fun M=>⟨M,by dsimp only;omega,by dsimp only;omega,Jo hn,uI⟩) (show 10-(j+1)<10-j by omega)
theorem Dc(m:Int)(h:-9223372036854775808≤m∧m≤9223372036854775807):IntKind.i64.wrap m=m:=by
 rw[IntKind.wrap_i64];omega
theorem XO(n:Nat)(h:n<18446744073709551616):bits .xor .i64 ((n:Int)/2) (0-((n%2:Nat):Int))=RO n:=by
 unfold RO;by_cases hp:n%2=0
 ·rw[if_pos hp,hp,show(0:Int)-((0:Nat):Int)=0 from rfl,DX (by omega) (by omega)];omega
 ·rw[if_neg hp,show n%2=1 by omega,show(0:Int)-((1:Nat):Int)=-1 from rfl,DY (by omega) (by omega)];omega
theorem Px{w0:World}{g off c:Nat}{l:List Nat}(h:aq w0 (.slice (some ⟨g,off,none⟩) l.length c) l)(hc:l.length≤c):
 Calls Tryz.prog 299 #[.slice (some ⟨g,off,none⟩) l.length c] w0 (fun r w'=>r=.returned (.tuple #[.int .i64 (eA l).1,wG g off l.length (eA l).2.1 (eA l).2.2,.int .i64 (eA l).2.2])∧akI w0.heap.size w0 w'):=by
 have hlt:=oC l;have ho:=Gq h hc;unfold eA;obtain⟨n,r,e,hX⟩:∃ n r e,number l=(n,r,e):=⟨_,_,_,rfl⟩;rw[hX] at hlt ho ⊢;dsimp only at hlt ho ⊢;refine bM [] (fn:=Tryz.f299) Tryz.func299 rfl Tryz.ntmps299 rfl<|cl<|an ho fun w1 M1=>an (fun h1=>?_) fun h1=>?_
 ·have h2:¬ e=0:=by simpa using h1
  refine fun M=>⟨?_,M.below⟩
  rw[if_neg h2];unfold wG;rw[if_neg h2];rfl
 ·have h2:e=0:=by simpa using h1
  refine ei (x:=.int .u64 ((n:Int)/2))<|an (fun a w o ho hv=>(sZ ho (aY hv) (cC hv) (by omega) (by decide)).trans (by simp))<|ei (x:=.int .i64 ((n:Int)/2))<|an (fun a w o ho hv=>(eI ho (aY hv) zL u2).trans (by rw[Dc _ (by omega)]))<|ei (x:=((n%2:Nat):Int))<|an (TJ n hlt)<|ei (x:=.int .i64 ((n%2:Nat):Int))<|an (fun a w o ho hv=>(eI ho (aY hv) zL u2).trans (by rw[Dc _ (by omega)]))<|an (by omega)<|ei (x:=RO n)<|an (XO n hlt)<|fun M=>⟨?_,M.below⟩
  rw[if_pos h2,h2];rfl
theorem Me{w:World}{v:Value}{l:List Nat}(h:aq w v l):(convert 42 9 v).run Tryz.prog w=.ok (.string (strOf l)) w:=by
 rcases h.1.2.2.2 with⟨rfl,h0⟩|⟨a,c,rfl,hc,hx⟩
 ·obtain rfl:l=[]:=List.eq_nil_of_length_eq_zero h0;exact run_convert_bytes_nil w 42 5 KG u5 0 0 9 u9
 ·have:=run_convert_bytes_back (P:=Tryz.prog) w 42 9 5 a c (l.map UInt8.ofNat) KG u5 u9 (fun j hj=>by
   have hj':j<l.length:=by simpa using hj
   rw[hx j (.int .u8 (l[j]:Nat)) (by simp[byteCells,hj'])];have hb:=h.2 _ (List.getElem_mem hj');simp;omega)
  simpa[strOf] using this
theorem zD{B:Nat}{w0 w:World}{bs:List Bx}{rs:List Rw}{ty:TypeId}{x:Operand}{v:Value}{l:List Nat}{K:Value→List Bx→List Rw→World→Prop}(M:aQ B w0 w bs rs)(hv:aq w v l)(h:K (.string (strOf l)) bs rs w):
 ∃ R:Value→World→Prop,(∀ (a:Act) (o':Oper),o'.op=.convert 42 9 x→o'.type=ty→wj a (jW (.convert 42 9 x)) [v]→∃ v w',(execOp a.eval o').run Tryz.prog w=.ok (.value v) w'∧R v w')∧∀ v w',R v w'→∃ bs' rs',aQ B w0 w' bs' rs'∧K v bs' rs' w':=by
 refine⟨fun u w2=>u=.string (strOf l)∧w2=w,fun a o' hop _ pW=>⟨_,_,?_,rfl,rfl⟩,?_⟩
 ·unfold execOp;simp[hop,aY pW,Me hv,akH,Result.andThen]
 ·rintro v w2 ⟨rfl,rfl⟩;exact⟨_,_,M,h⟩
theorem chi{B:Nat}{w0 w:World}{bs:List Bx}{rs:List Rw}{ty:TypeId}{x hi:Operand}{g off n c k:Nat}{hk:IntKind}{K:Value→List Bx→List Rw→World→Prop}(M:aQ B w0 w bs rs)(hkc:k≤c)(hc:0<c)(h:K (.slice (some ⟨g,off,none⟩) k c) bs rs w):
 ∃ R:Value→World→Prop,(∀ (a:Act) (o':Oper),o'.op=.slice 42 x none (some hi) none→o'.type=ty→wj a (jW (.slice 42 x none (some hi) none)) [.slice (some ⟨g,off,none⟩) n c,.int hk (k:Int)]→∃ v w',(execOp a.eval o').run Tryz.prog w=.ok (.value v) w'∧R v w')∧∀ v w',R v w'→∃ bs' rs',aQ B w0 w' bs' rs'∧K v bs' rs' w':=by
 refine⟨fun u w2=>u=.slice (some ⟨g,off,none⟩) k c∧w2=w,fun a o' hop _ pW=>⟨_,_,qx (P:=Tryz.prog) (w:=w) (k:=1) hop (aY pW) (cC pW) hkc hc KG (by kernel_rfl),rfl,rfl⟩,?_⟩;rintro v w2 ⟨rfl,rfl⟩;exact⟨_,_,M,h⟩
theorem OL{a r l:List Nat}(h:a++r=l):∃ i,i≤l.length∧r=l.drop i:=⟨a.length,by rw[← h];simp,by rw[← h];simp⟩
theorem Jk{l:List Nat}(hb:Bytes l)(e:(number l).2.2=0):∃ i,i≤l.length∧(number l).2.1=l.drop i:=OL (qu (n:=(number l).1) (r:=(number l).2.1) hb (by rw[← e]))
theorem MP{g off c i:Nat}{l:List Nat}(hi:i≤l.length):∃ off' c',wG g off l.length (l.drop i) 0=.slice (some ⟨g,off',none⟩) (l.drop i).length c'∧(l.drop i).length≤c'∧∀ w,aq w (.slice (some ⟨g,off,none⟩) l.length c) l→aq w (.slice (some ⟨g,off',none⟩) (l.drop i).length c') (l.drop i):=by
 have e:wG g off l.length (l.drop i) 0=Ad g off l.length i:=by
  unfold wG;rw[if_pos rfl,List.length_drop,show l.length-(l.length-i)=i by omega]
 refine⟨if l.length=i then off else off+i,l.length-i,?_,by rw[List.length_drop];exact Nat.le_refl _,fun w h=>?_⟩
 ·rw[e,List.length_drop];unfold Ad;split<;>rfl
 ·have h2:=Dk h hi;rw[List.length_drop];unfold Ad at h2;split at h2<;>rename_i h3
  ·rw[if_pos h3];exact h2
  ·rw[if_neg h3];exact h2
theorem SI{g off c:Nat}{l r:List Nat}(hr:∃ i,i≤l.length∧r=l.drop i):∃ off' c',wG g off l.length r 0=.slice (some ⟨g,off',none⟩) r.length c'∧r.length≤c'∧∀ w,aq w (.slice (some ⟨g,off,none⟩) l.length c) l→aq w (.slice (some ⟨g,off',none⟩) r.length c') r:=by
 obtain⟨i,hi,rfl⟩:=hr;exact MP hi
def jP(v:Value)(l:List Nat):Prop:=∃ g off c,v=.slice (some ⟨g,off,none⟩) l.length c∧l.length≤c
def tC(v:Value)(l:List Nat)(u:Value)(r:List Nat)(e:Int):Prop:=if e=0 then jP u r∧∀ w,aq w v l→aq w u r else u=.slice none 0 0
theorem tC.ok{v u:Value}{l r:List Nat}(h:tC v l u r 0):jP u r∧∀ w,aq w v l→aq w u r:=by unfold tC at h;rwa [if_pos rfl] at h
theorem PN{g off c:Nat}{l r:List Nat}{e:Int}(h:e=0→∃ i,i≤l.length∧r=l.drop i):tC (.slice (some ⟨g,off,none⟩) l.length c) l (wG g off l.length r e) r e:=by
 unfold tC;split
 ·rename_i e0;obtain⟨off',c',h1,h2,h3⟩:=SI (g:=g) (off:=off) (c:=c) (h e0);subst e0;rw[h1];exact⟨⟨g,off',c',rfl,h2⟩,h3⟩
 ·rename_i e0;unfold wG;rw[if_neg e0]
theorem Lc{w0:World}{v:Value}{l:List Nat}(hs:jP v l)(h:aq w0 v l):Calls Tryz.prog 257 #[v] w0 (fun r w'=>∃ u,r=.returned (.tuple #[.int .u64 ((number l).1:Int),u,.int .i64 (number l).2.2])∧tC v l u (number l).2.1 (number l).2.2∧akI w0.heap.size w0 w'):=by
 obtain⟨g,off,c,rfl,hc⟩:=hs;exact(Gq h hc).mono fun _ _ ⟨h1,h2⟩=>⟨_,h1,PN (fun e=>Jk h.2 e),h2⟩
theorem X8{w0:World}{v:Value}{l:List Nat}(hs:jP v l)(h:aq w0 v l):Calls Tryz.prog 299 #[v] w0 (fun r w'=>∃ u,r=.returned (.tuple #[.int .i64 (eA l).1,u,.int .i64 (eA l).2.2])∧tC v l u (eA l).2.1 (eA l).2.2∧akI w0.heap.size w0 w'):=by
 obtain⟨g,off,c,rfl,hc⟩:=hs;exact(Px h hc).mono fun _ _ ⟨h1,h2⟩=>⟨_,h1,PN (fun e=>OL (Dm (m:=(eA l).1) (r:=(eA l).2.1) h.2 (by rw[← e])).1),h2⟩
theorem uw{P:Program}{a:Act}{w:World}{o:Oper}{t e:TypeId}{x hi:Operand}{g off n c h k:Nat}{hk:IntKind}(ho:o.op=.slice t x none (some hi) none)(hx:a.eval x=.slice (some ⟨g,off,none⟩) n c)(hh:a.eval hi=.int hk (h:Int))(hhc:h≤c)
 (hu:P.underlying t=some (.slice e)) (hs:(P.info? e).map (·.size)=some k):(execOp a.eval o).run P w=.ok (.value (.slice (some ⟨g,off,none⟩) h c)) w:=by
 by_cases hc:0<c
 ·exact qx ho hx hh hhc hc hu hs
 ·obtain rfl:c=0:=by omega
  obtain rfl:h=0:=by omega
  unfold execOp;simp[ho,hx,hh,Instr.sliceAt,akH,run_underlying hu w,Result.andThen_ok,Instr.slice,Instr.sliceBounds,Instr.sliceBound,asIntOf,Sem.run_pure,run_sizeOf hs]
theorem rR{w:World}{g off c n:Nat}{l:List Nat}(h:aq w (.slice (some ⟨g,off,none⟩) l.length c) l)(hn:n≤l.length):aq w (.slice (some ⟨g,off,none⟩) n c) (l.take n):=Dt h hn
theorem U1{g off m:Nat}{l:List Nat}(hm:m≤l.length):jP (Ad g off l.length m) (l.drop m):=by
 unfold Ad;split<;>exact⟨_,_,_,by rw[List.length_drop],by rw[List.length_drop];exact Nat.le_refl _⟩
theorem UY{w0:World}{v:Value}{l:List Nat}(hs:jP v l)(h:aq w0 v l)(hL:l.length≤aT):Calls Tryz.prog 297 #[v,.int .i64 256] w0 (fun r w'=>∃ u,r=.returned (.tuple #[.string (strOf (pY l 256).1),u,.int .i64 (pY l 256).2.2])∧tC v l u (pY l 256).2.1 (pY l 256).2.2∧akI w0.heap.size w0 w'):=by
 have ho:=Lc hs h;have hlt:=oC l;have hlen:=Jl h.2;unfold pY;obtain⟨n,r,e,hX⟩:∃ n r e,number l=(n,r,e):=⟨_,_,_,rfl⟩;rw[hX] at ho hlt hlen ⊢;dsimp only at ho hlt hlen ⊢;have s0:strOf []=⟨#[]⟩:=rfl;refine bM [] (fn:=Tryz.f297) Tryz.func297 rfl Tryz.ntmps297 rfl<|cg (R:=fun x w'=>∃ u,x=.tuple #[.int .u64 (n:Int),u,.int .i64 e]∧tC v l u r e∧akI w0.heap.size w0 w')<|an (ho.mono fun _ _ ⟨u,h1,h2⟩=>⟨_,h1,u,rfl,h2⟩) ?_;rintro _ w1 ⟨u,rfl,hl,hb⟩;refine⟨[],[],(Mm.start w0).keep hb,?_⟩;have M1:=(Mm.start w0).keep hb;by_cases he:e=0
 ·subst he;obtain⟨⟨g,off,c,rfl,hc⟩,hby⟩:=hl.ok;rw[if_neg (by decide)];refine an (fun h1=>absurd h1 (by decide)) fun _=>ei (x:=.int .u64 256)<|an (fun _ a w o ho hv=>(eI ho (aY hv) u3 zL).trans (by rw[show IntKind.u64.wrap 256=256 from rfl]))<|an (fun h2 M=>⟨.slice none 0 0,?_,?_,M.below⟩) fun h2=>?_
  ·have h3:(256:Int)<(n:Int):=by simpa using h2
   rw[if_pos (.inr h3)];rfl
  ·have h3:(256:Int)<(n:Int):=by simpa using h2
   rw[if_pos (.inr h3)];unfold tC;rw[if_neg (by decide)]
  have h3:¬ ((256:Int)<0∨(256:Int)<(n:Int)):=by have h4:¬ (256:Int)<(n:Int):=by simpa using h2
                                                omega
  rw[if_neg h3];refine ei (x:=.int .u64 (r.length:Int))<|an (fun a w o ho hv=>(eI ho (aY hv) u3 zL).trans (by rw[Bg (by unfold fA;unfold aT at hL;omega)]))<|an (fun h4 M=>⟨.slice none 0 0,?_,?_,M.below⟩) fun h4=>?_
  ·rw[if_pos (by simpa using h4)];rfl
  ·rw[if_pos (by simpa using h4)];unfold tC;rw[if_neg (by decide)]
  have h5:¬ r.length<n:=by simpa using h4
  rw[if_neg h5];have acW:=hby w1 (h.keep hb)
  have fin:tC v l (Ad g off r.length n) (r.drop n) 0:=by
   unfold tC;rw[if_pos rfl];exact⟨U1 (by omega),fun w hw=>Dk (hby w hw) (by omega)⟩
  refine sp [0,1,2,4,5,6] (.alt (.step 3 (.step 7 (.step 8 (.step 9 (.step 10 .done))))) (.step 7 (.step 3 (.step 8 (.step 9 (.step 10 .done)))))) [] (by kernel_rfl)<|ei (x:=.slice (some ⟨g,off,none⟩) n c)<|an (fun a w o ho hv=>uw ho (aY hv) (cC hv) (by omega) KG X4)<|ei (x:=.int .i64 (n:Int))<|an (fun a w o ho hv=>(eI ho (aY hv) zL u3).trans (by rw[Dc _ (by omega)]))<|fun w2 hb2 M2=>an ?_ ?_
  ·exact zD M2 (rR (acW.keep hb2) (by omega))<|an rfl<|cl<|an (BH (by omega) hc) fun w3 M3=>an rfl<|an rfl<|an rfl<|an rfl<|fun M=>⟨_,rfl,fin,M.below⟩
  ·exact cl<|an (BH (by omega) hc) fun w3 M3=>an rfl<|zD M3 (rR (hby w3 (h.keep M3.below)) (by omega))<|an rfl<|an rfl<|an rfl<|an rfl<|fun M=>⟨_,rfl,fin,M.below⟩
 ·rw[if_pos he];exact an (fun _=>fun M=>⟨.slice none 0 0,rfl,by unfold tC;rw[if_neg he],M.below⟩) fun h1=>absurd h1 (by simpa using he)
theorem Yq:∀ xs:List Nat,xs.length≤4→xs=[]∨(∃ a,xs=[a])∨(∃ a b,xs=[a,b])∨(∃ a b c,xs=[a,b,c])∨∃ a b c d,xs=[a,b,c,d]
 | [],_=>.inl rfl
 | [a],_=>.inr (.inl ⟨a,rfl⟩)
 | [a,b],_=>.inr (.inr (.inl ⟨a,b,rfl⟩))
 | [a,b,c],_=>.inr (.inr (.inr (.inl ⟨a,b,c,rfl⟩)))
 | [a,b,c,d],_=>.inr (.inr (.inr (.inr ⟨a,b,c,d,rfl⟩)))
 | _::_::_::_::_::_,h=>by simp at h
def Mk(l:List Nat):aE:=⟨(rH l).1.getD 0 0,(rH l).1.getD 1 0,(rH l).1.getD 2 0,(rH l).1.getD 3 0⟩
def q4(xs:List Nat):Array Value:=#[.int .u64 ((xs.getD 0 0:Nat):Int),.int .u64 ((xs.getD 1 0:Nat):Int),.int .u64 ((xs.getD 2 0:Nat):Int),.int .u64 ((xs.getD 3 0:Nat):Int)]
def Sj(B:Nat)(w0:World)(R:Ending→World→Prop)(l:Slots)(bs:List Bx)(rs:List Rw)(w:World):List ResultVar→Prop
 | [.cell s ty,.tmp u,.tmp t]=>(match look u l with|some v=>(match look t l with|some v2=>Hs l bs s ty fun cs=>aQ B w0 w bs rs→R (.returned (.tuple #[.agg cs.toArray,v,v2])) w|none=>False)|none=>False)
 | _=>False
def Yb(fn:Func)(B:Nat)(w0:World)(R:Ending→World→Prop):KK:=fun e l bs rs w=>match e with
 | .normal=>Sj B w0 R l bs rs w fn.results.toList
 | .ret=>Sj B w0 R l bs rs w fn.results.toList
 | _=>False
theorem KS{fn:Func}{R:Ending→World→Prop}{a:Act}{N:Nat}{l:Slots}{bs:List Bx}{rs:List Rw}{B:Nat}{w0 w:World}(F:Fs a N l)(M:aQ B w0 w bs rs)(h:Sj B w0 R l bs rs w fn.results.toList):bodyPost Tryz.prog fn R .ret a w:=by
 generalize hL:fn.results.toList=L at h;unfold Sj at h;split at h
 ·rename_i s ty u t;have hr:fn.results=#[.cell s ty,.tmp u,.tmp t]:=by rw[← Array.toList_inj,hL]
  split at h
  ·rename_i v hv2;split at h
   ·rename_i v3 RB;obtain⟨g,cs,hv,hl,h⟩:=CD M h;refine⟨F.fr.defers,_,?_,h M⟩;have h2:a.tmps.getD s undef=.pointer (some ⟨g,0,none⟩):=F.e s hv;have k2:a.tmps.getD u undef=v:=F.e u hv2;have k3:a.tmps.getD t undef=v3:=F.e t RB;rw[Array.getD_eq_getD_getElem?] at h2 k2 k3;simp[results,hr,h2,k2,k3,asAddr,hl]
   ·exact h.elim
  ·exact h.elim
 ·exact h.elim
theorem XY{f:FuncId}{fn:Func}{c:Code}{N:Nat}(J:List Nat){vs:List Value}{R:Ending→World→Prop}{w0:World}(hf:Tryz.prog.funcs[f]?=some fn)(hb:fn.body=some c)(hn:fn.ntmps=N)(hN:Nat.ble vs.length N=true)
 (h:Bn none w0.heap.size w0 N J c (HZ 0 vs) [] [] w0 (Yb fn w0.heap.size w0 R)):Calls Tryz.prog f vs.toArray w0 R:=by
 refine en hf hb hn (by simpa using hN) rfl fun a F=>jl h F (Mm.start w0) (fun _ h=>by cases h) fun e a l bs rs w F M hk=>?_
 cases e with
 | normal=>exact tK (KS F M hk)
 | ret=>exact KS F M hk
 | _=>exact hk.elim
theorem X_{w0:World}{v:Value}{l:List Nat}(hs:jP v l)(h:aq w0 v l):Calls Tryz.prog 298 #[v] w0 (fun r w'=>∃ u,r=.returned (.tuple #[.agg #[.int .u64 ((Mk l).a:Nat),.int .u64 ((Mk l).b:Nat),.int .u64 ((Mk l).c:Nat),.int .u64 ((Mk l).d:Nat)],u,.int .i64 (rH l).2.2])∧tC v l u (rH l).2.1 (rH l).2.2∧akI w0.heap.size w0 w'):=by
 have ho:=fun(w:World) (hw:aq w v l)=>Lc hs hw
 have hlt:=oC l;unfold Mk rH;obtain⟨k,r0,e,hX⟩:∃ n r e,number l=(n,r,e):=⟨_,_,_,rfl⟩;rw[hX] at hlt ⊢;simp only[hX] at ho;dsimp only at hlt ⊢;refine XY [] (fn:=Tryz.f298) Tryz.func298 rfl Tryz.ntmps298 rfl<|ei<|an m_ fun g1 w1 M1=>ei<|an m_ fun g2 w2 M2=>cg (R:=fun x w'=>∃ u,x=.tuple #[.int .u64 (k:Int),u,.int .i64 e]∧tC v l u r0 e∧akI w2.heap.size w2 w')<|an ((ho _ (h.keep M2.below)).mono fun _ _ ⟨u,h1,h2⟩=>⟨_,h1,u,rfl,h2⟩) ?_
 rintro _ w3 ⟨u,rfl,hl,hb⟩;have M3:=M2.keep hb;refine⟨_,_,M3,?_⟩;have Vy:∀ {e:Int},e≠0→tC v l (.slice none 0 0) [] e:=fun he=>by unfold tC;rw[if_neg he]
 by_cases he:e=0
 rotate_left
 ·rw[if_pos he];exact an (fun _=>ei (x:=.agg #[.int .u64 0,.int .u64 0,.int .u64 0,.int .u64 0])<|an (bd (by kernel_rfl))<|lb 1<|an ⟨rfl,rfl⟩ fun w4 M4=>ei (x:=1)<|an rfl fun M=>⟨.slice none 0 0,rfl,Vy he,M.below⟩) fun h1=>absurd h1 (by simpa using he)
 subst he;obtain⟨hs0,acX⟩:=hl.ok;refine an (fun h1=>absurd h1 (by decide)) fun _=>?_
 rw[if_neg (by decide)];refine an (fun h2=>?_) fun h2=>?_
 ·rw[if_pos (by have:=of_decide_eq_true h2;omega)];exact ei (x:=.agg #[.int .u64 0,.int .u64 0,.int .u64 0,.int .u64 0])<|an (bd (by kernel_rfl))<|lb 1<|an ⟨rfl,rfl⟩ fun w4 M4=>ei (x:=1)<|an rfl fun M=>⟨.slice none 0 0,rfl,Vy (by decide),M.below⟩
 have NY:k≤4:=by have:=of_decide_eq_false h2;omega
 rw[if_neg (by omega)];refine ei (x:=.int .i64 (k:Int))<|an (fun a w o ho hv=>(eI ho (aY hv) zL u3).trans (by rw[Dc _ (by omega)]))<|lp (ι:=List Nat×List Nat×Value) (fun z=>[(7,z.2.2),(27,.int .i64 (z.1.length:Int))]) (fun z=>[(g2,77,#[.int .u64 ((z.1.getD 0 0:Nat):Int),.int .u64 ((z.1.getD 1 0:Nat):Int),.int .u64 ((z.1.getD 2 0:Nat):Int),.int .u64 ((z.1.getD 3 0:Nat):Int)]),(g1,77,#[.int .u64 0,.int .u64 0,.int .u64 0,.int .u64 0])]) (fun _=>[]) (fun z _=>z.1.length≤k∧jP z.2.2 z.2.1∧(∀ w,aq w v l→aq w z.2.2 z.2.1)∧cL k r0=(z.1++(cL (k-z.1.length) z.2.1).1,(cL (k-z.1.length) z.2.1).2.1,(cL (k-z.1.length) z.2.1).2.2)) (fun z=>k-z.1.length) ([],r0,u) (an ⟨⟨rfl,rfl,trivial⟩,fun M=>⟨M,akC _,hs0,acX,rfl⟩⟩ ?_);clear M3 M2 M1;rintro⟨xs,r,u1⟩ w M ⟨hxk,hsr,hbr,hG⟩;dsimp only at hxk hsr hbr hG;refine an (fun h3=>?_) fun h3=>?_
 ·have EP:xs.length<k:=by simp at h3;omega
  obtain⟨m,hm⟩:∃ m,k-xs.length=m+1:=⟨k-xs.length-1,by omega⟩;have hm2:k-(xs.length+1)=m:=by omega
  have hstep:cL (m+1) r=if (number r).2.2≠0 then ([],[],(number r).2.2) else ((number r).1::(cL m (number r).2.1).1,(cL m (number r).2.1).2.1,(cL m (number r).2.1).2.2):=rfl
  rw[hm] at hG;have hnr:=Lc hsr (hbr w (h.keep M.below));have YR:=oC r;obtain⟨n,r',e',hY⟩:∃ n r5 e,number r=(n,r5,e):=⟨_,_,_,rfl⟩;rw[hY] at hstep hnr YR;dsimp only at hstep hnr YR;refine cg (R:=fun x w'=>∃ u,x=.tuple #[.int .u64 (n:Int),u,.int .i64 e']∧tC u1 r u r' e'∧akI w.heap.size w w')<|an (hnr.mono fun _ _ ⟨u,h1,h2⟩=>⟨_,h1,u,rfl,h2⟩) ?_;rintro _ w4 ⟨u2,rfl,hl2,hb2⟩;have M4:=M.keep hb2;refine⟨_,_,M4,?_⟩
  have hX4:xs=[]∨(∃ a,xs=[a])∨(∃ a b,xs=[a,b])∨∃ a b c,xs=[a,b,c]:=by
   rcases Yq xs (by omega) with h|h|h|h|⟨a,b,c,d,rfl⟩
   ·exact .inl h
   ·exact .inr (.inl h)
   ·exact .inr (.inr (.inl h))
   ·exact .inr (.inr (.inr h))
   ·simp at EP;omega
  by_cases he':e'=0
  ·subst he';rw[if_neg (by decide)] at hstep;obtain⟨eH,JD⟩:=hl2.ok;rw[hstep] at hG
   have hG2:cL k r0=((xs++[n])++(cL (k-(xs++[n]).length) r').1,(cL (k-(xs++[n]).length) r').2.1,(cL (k-(xs++[n]).length) r').2.2):=by
    rw[hG,akB,List.length_singleton,hm2];simp
   rcases hX4 with rfl|⟨a,rfl⟩|⟨a,b,rfl⟩|⟨a,b,c,rfl⟩
   ·exact ei (x:=0)<|an ⟨rfl,by decide⟩<|lb 0<|an ⟨rfl,rfl⟩ fun w5 M5=>an (fun h5=>absurd h5 (by decide)) fun _=>an (by simp)<|bk ([n],r',u2) ⟨rfl,rfl,trivial⟩ (fun M=>⟨M,by simp at EP ⊢;omega,eH,fun w hw=>JD w (hbr w hw),hG2⟩) (by simp at EP ⊢;omega)
   ·exact ei (x:=1)<|an ⟨rfl,by decide⟩<|lb 0<|an ⟨rfl,rfl⟩ fun w5 M5=>an (fun h5=>absurd h5 (by decide)) fun _=>an (by simp)<|bk ([a,n],r',u2) ⟨rfl,rfl,trivial⟩ (fun M=>⟨M,by simp at EP ⊢;omega,eH,fun w hw=>JD w (hbr w hw),hG2⟩) (by simp at EP ⊢;omega)
   ·exact ei (x:=2)<|an ⟨rfl,by decide⟩<|lb 0<|an ⟨rfl,rfl⟩ fun w5 M5=>an (fun h5=>absurd h5 (by decide)) fun _=>an (by simp)<|bk ([a,b,n],r',u2) ⟨rfl,rfl,trivial⟩ (fun M=>⟨M,by simp at EP ⊢;omega,eH,fun w hw=>JD w (hbr w hw),hG2⟩) (by simp at EP ⊢;omega)
   ·exact ei (x:=3)<|an ⟨rfl,by decide⟩<|lb 0<|an ⟨rfl,rfl⟩ fun w5 M5=>an (fun h5=>absurd h5 (by decide)) fun _=>an (by simp)<|bk ([a,b,c,n],r',u2) ⟨rfl,rfl,trivial⟩ (fun M=>⟨M,by simp at EP ⊢;omega,eH,fun w hw=>JD w (hbr w hw),hG2⟩) (by simp at EP ⊢;omega)
  ·rw[if_pos he'] at hstep;rw[hstep] at hG;have hsF:(cL k r0).2.2=e':=by rw[hG]
   rw[hsF,if_pos he'];rcases hX4 with rfl|⟨a,rfl⟩|⟨a,b,rfl⟩|⟨a,b,c,rfl⟩
   ·exact ei (x:=0)<|an ⟨rfl,by decide⟩<|lb 0<|an ⟨rfl,rfl⟩ fun w5 M5=>an (fun _=>ei (x:=.agg #[.int .u64 0,.int .u64 0,.int .u64 0,.int .u64 0])<|an (bd (by kernel_rfl))<|lb 1<|an ⟨rfl,rfl⟩ fun w4 M4=>ei (x:=1)<|an rfl fun M=>⟨.slice none 0 0,rfl,Vy he',M.below⟩) fun h5=>absurd h5 (by simpa using he')
   ·exact ei (x:=1)<|an ⟨rfl,by decide⟩<|lb 0<|an ⟨rfl,rfl⟩ fun w5 M5=>an (fun _=>ei (x:=.agg #[.int .u64 0,.int .u64 0,.int .u64 0,.int .u64 0])<|an (bd (by kernel_rfl))<|lb 1<|an ⟨rfl,rfl⟩ fun w4 M4=>ei (x:=1)<|an rfl fun M=>⟨.slice none 0 0,rfl,Vy he',M.below⟩) fun h5=>absurd h5 (by simpa using he')
   ·exact ei (x:=2)<|an ⟨rfl,by decide⟩<|lb 0<|an ⟨rfl,rfl⟩ fun w5 M5=>an (fun _=>ei (x:=.agg #[.int .u64 0,.int .u64 0,.int .u64 0,.int .u64 0])<|an (bd (by kernel_rfl))<|lb 1<|an ⟨rfl,rfl⟩ fun w4 M4=>ei (x:=1)<|an rfl fun M=>⟨.slice none 0 0,rfl,Vy he',M.below⟩) fun h5=>absurd h5 (by simpa using he')
   ·exact ei (x:=3)<|an ⟨rfl,by decide⟩<|lb 0<|an ⟨rfl,rfl⟩ fun w5 M5=>an (fun _=>ei (x:=.agg #[.int .u64 0,.int .u64 0,.int .u64 0,.int .u64 0])<|an (bd (by kernel_rfl))<|lb 1<|an ⟨rfl,rfl⟩ fun w4 M4=>ei (x:=1)<|an rfl fun M=>⟨.slice none 0 0,rfl,Vy he',M.below⟩) fun h5=>absurd h5 (by simpa using he')
 ·have hx:xs.length=k:=by simp at h3;omega
  have hG0:cL k r0=(xs,r,0):=by rw[hG,hx,Nat.sub_self];simp[cL]
  rw[hG0];dsimp only;rw[if_neg (by decide)];have fin:tC v l u1 r 0:=by unfold tC;rw[if_pos rfl];exact⟨hsr,hbr⟩
  subst hx;rcases Yq xs NY with rfl|⟨a,rfl⟩|⟨a,b,rfl⟩|⟨a,b,c,rfl⟩|⟨a,b,c,d,rfl⟩
  ·rw[if_neg (by simp)];exact an (fun h=>absurd h (by decide))<|ei (x:=0)<|an (fun h=>absurd h (by decide))<|lb 0<|an (fun _=>rfl)<|an (fun h=>absurd h (by decide)) fun _=>lb 0<|an rfl<|lb 1<|an ⟨rfl,rfl⟩ fun w4 M4=>ei (x:=1)<|an rfl fun M=>⟨u1,rfl,fin,M.below⟩
  all_goals
   refine an (fun h=>by simp)<|ei<|an (fun h=>⟨rfl,by simp⟩)<|lb 0<|an (fun _=>rfl)<|an (fun h6=>?_) fun h6=>?_
   ·rw[if_pos ⟨by simp,by simp at h6 ⊢;omega⟩];exact ei (x:=.agg #[.int .u64 0,.int .u64 0,.int .u64 0,.int .u64 0])<|an (bd (by kernel_rfl))<|lb 1<|an ⟨rfl,rfl⟩ fun w4 M4=>ei (x:=1)<|an rfl fun M=>⟨.slice none 0 0,rfl,Vy (by decide),M.below⟩
   ·rw[if_neg (by simp at h6 ⊢;omega)];exact lb 0<|an rfl<|lb 1<|an ⟨rfl,rfl⟩ fun w4 M4=>ei (x:=1)<|an rfl fun M=>⟨u1,rfl,fin,M.below⟩
def Gh(k:Int):List PanicEntry:=[{ v:=.iface 43 (.int .i64 k),recovered:=false }]
theorem LI{P:Program}{a:Act}{w:World}{o:Oper}{t:TypeId}{x:Operand}{v:Value}(ho:o.op=.makeInterface t x)(hx:a.eval x=v)(hc:P.concrete t=true):(execOp a.eval o).run P w=.ok (.value (.iface t v)) w:=by
 unfold execOp;simp[ho,hx,akH,run_makeInterface w t v hc,Result.andThen_ok,Sem.run_pure]
theorem PE{w0:World}:Calls Tryz.prog 135 #[.int .i64 0] w0 (fun r w'=>r=.returned (.tuple #[])∧akI w0.heap.size w0 w'):=by
 exact bM [] (fn:=Tryz.f135) Tryz.func135 rfl Tryz.ntmps135 rfl<|an (fun h=>absurd h (by decide)) fun _=>fun M=>⟨rfl,M.below⟩
theorem VD{w0:World}{e:Int}(he:e≠0):Calls Tryz.prog 135 #[.int .i64 e] w0 (fun r w'=>r=.panicked (Gh e)∧akI w0.heap.size w0 w'):=by
 exact XV [] (fn:=Tryz.f135) Tryz.func135 rfl Tryz.ntmps135 rfl<|an (fun _=>ei (x:=.iface 43 (.int .i64 e))<|an (fun a w o ho hv=>LI ho (aY hv) (by kernel_rfl)) ⟨rfl,akI.refl _ _⟩) fun h=>absurd h (by simpa using he)
theorem LU{w0:World}{k:Int}:Calls Tryz.prog 134 #[.bool true,.int .i64 k] w0 (fun r w'=>r=.returned (.tuple #[])∧akI w0.heap.size w0 w'):=by
 exact bM [] (fn:=Tryz.f134) Tryz.func134 rfl Tryz.ntmps134 rfl<|an (fun h=>absurd h (by decide)) fun _=>fun M=>⟨rfl,M.below⟩
theorem TF{w0:World}{k:Int}:Calls Tryz.prog 134 #[.bool false,.int .i64 k] w0 (fun r w'=>r=.panicked (Gh k)∧akI w0.heap.size w0 w'):=by
 exact XV [] (fn:=Tryz.f134) Tryz.func134 rfl Tryz.ntmps134 rfl<|an (fun _=>ei (x:=.iface 43 (.int .i64 k))<|an (fun a w o ho hv=>LI ho (aY hv) (by kernel_rfl)) ⟨rfl,akI.refl _ _⟩) fun h=>absurd h (by decide)
section
variable {α β:Type} {w0 w w':World} {bs L:List Bx} {rs:List Rw} {B:Nat} {X:Prop} {KP:PK} {Pn:List PanicEntry→World→Prop} {K:Value→List Bx→List Rw→World→Prop} {e k:Int} {b:Bool}
theorem ZQ(M:aQ B w0 w bs rs)(h:∀ w',aQ B w0 w' bs rs→K (.tuple #[]) bs rs w'):X∨∃ R:Value→World→Prop,Calls Tryz.prog 135 #[.int .i64 0] w (u_ KP R)∧∀ v w',R v w'→∃ bs' rs',aQ B w0 w' bs' rs'∧K v bs' rs' w':=
 cpo PE fun w' hb=>⟨_,_,M.keep hb,h w' (M.keep hb)⟩
theorem XE(he:e≠0)(h:∀ w',akI w.heap.size w w'→Pn (Gh e) w'):X∨∃ R:Value→World→Prop,Calls Tryz.prog 135 #[.int .i64 e] w (u_ (some Pn) R)∧∀ v w',R v w'→∃ bs' rs',aQ B w0 w' bs' rs'∧K v bs' rs' w':=
 ZO ((VD he).mono fun _ _ ⟨h1,h2⟩=>⟨_,h1,h _ h2⟩)
theorem WW(hb:b=true)(M:aQ B w0 w bs rs)(h:∀ w',aQ B w0 w' bs rs→K (.tuple #[]) bs rs w'):X∨∃ R:Value→World→Prop,Calls Tryz.prog 134 #[.bool b,.int .i64 k] w (u_ KP R)∧∀ v w',R v w'→∃ bs' rs',aQ B w0 w' bs' rs'∧K v bs' rs' w':=by
 subst hb;exact cpo LU fun w' hb=>⟨_,_,M.keep hb,h w' (M.keep hb)⟩
theorem RJ(hb:b=false)(h:∀ w',akI w.heap.size w w'→Pn (Gh k) w'):X∨∃ R:Value→World→Prop,Calls Tryz.prog 134 #[.bool b,.int .i64 k] w (u_ (some Pn) R)∧∀ v w',R v w'→∃ bs' rs',aQ B w0 w' bs' rs'∧K v bs' rs' w':=by
 subst hb;exact ZO (TF.mono fun _ _ ⟨h1,h2⟩=>⟨_,h1,h _ h2⟩)
@[reducible] def cQ(R:Nat)(u:Value)(ver:Int):Bx:=(R,116,#[u,.int .i64 ver])
def UG(w0 w:World)(R:Nat)(ver:Int)(bs:List Bx)(rs:List Rw)(l:List Nat):Prop:=∃ u,jP u l∧aq w0 u l∧aQ w0.heap.size w0 w (cQ R u ver::bs) rs
def eJ(w0:World)(R:Nat)(ver:Int)(bs:List Bx)(rs:List Rw)(P:List Rw→Value→α→Prop)(res:Except Int (α×List Nat))(e:Ending)(w':World):Prop:=match res with
 | .ok (x,l)=>∃ v T,e=.returned v∧P T v x∧UG w0 w' R ver bs (rs++T) l
 | .error k=>e=.panicked (Gh k)∧akI w0.heap.size w0 w'
@[reducible] def qh(val:α→Value)(T:List Rw)(v:Value)(x:α):Prop:=T=[]∧v=val x
variable {R R0:Nat} {ver XT:Int} {P:List Rw→Value→α→Prop} {P0:List Rw→Value→β→Prop} {res:Except Int (α×List Nat)} {Ms:Except Int (β×List Nat)} {bs0:List Bx} {rs0 T:List Rw} {u v:Value} {l:List Nat} {x:α} {val:α→Value}
theorem eJ.err(h:res=.error k)(hb:akI w0.heap.size w0 w'):eJ w0 R ver bs rs P res (.panicked (Gh k)) w':=by subst h;exact⟨rfl,hb⟩
theorem eJ.fin(h:res=.ok (x,l))(hP:P T v x)(hs:jP u l)(hb:aq w0 u l)(M:aQ w0.heap.size w0 w' (cQ R u ver::bs) (rs++T)):eJ w0 R ver bs rs P res (.returned v) w':=by subst h;exact⟨v,T,rfl,hP,u,hs,hb,M⟩
theorem eJ.one(h:res=.ok (x,l))(hv:v=val x)(hs:jP u l)(hb:aq w0 u l)(M:aQ w0.heap.size w0 w' (cQ R u ver::bs) rs):eJ w0 R ver bs rs (qh val) res (.returned v) w':=by subst h;exact⟨v,[],rfl,⟨rfl,hv⟩,u,hs,hb,by rw[List.append_nil];exact M⟩
theorem wI{f:FuncId}{args:Array Value}{p:Ps α}{g:α→Ps β}(i:Nat)(hr:Ms=pb p g l)(M:aQ w0.heap.size w0 w L rs)(hi:L[i]?=some (cQ R u ver))
 (hc:aQ w0.heap.size w0 w (cQ R u ver::L.eraseIdx i) rs→Calls Tryz.prog f args w (eJ w0 R ver (L.eraseIdx i) rs P (p l)))
 (h:∀ v T x l' u' w',p l=.ok (x,l')→Ms=g x l'→P T v x→jP u' l'→aq w0 u' l'→wk L i (cQ R u' ver) fun L'=>aQ w0.heap.size w0 w' L' (rs++T)→K v L' (rs++T) w') :
 X∨∃ R:Value→World→Prop,Calls Tryz.prog f args w (u_ (some fun ch w=>eJ w0 R0 XT bs0 rs0 P0 Ms (.panicked ch) w) R)∧∀ v w',R v w'→∃ bs' rs',aQ w0.heap.size w0 w' bs' rs'∧K v bs' rs' w':=by
 have hc':=hc (M.wE (qM hi))
 cases hp:p l with
 | error k=>
  rw[hp] at hc';refine .inr ⟨fun _ _=>False,hc'.mono fun e w' ⟨h1,h2⟩=>.inr ⟨_,h1,?_⟩,fun _ _ h=>h.elim⟩;refine eJ.err ?_ h2;rw[hr];unfold pb;rw[hp]
 | ok y=>
  obtain⟨x,l'⟩:=y;rw[hp] at hc';refine .inr ⟨fun v w'=>∃ T,P T v x∧UG w0 w' R ver (L.eraseIdx i) (rs++T) l',hc'.mono fun e w' ⟨v,T,h1,h2,h3⟩=>.inl ⟨v,h1,T,h2,h3⟩,?_⟩;rintro v w' ⟨T,h2,u',hs,hb,M'⟩;have M2:=M'.wE (xZ hi);exact⟨_,_,M2,qm (h v T x l' u' w' hp (by rw[hr];unfold pb;rw[hp]) h2 hs hb) M2⟩
theorem gM{f:FuncId}{args:Array Value}{p:Ps α}{g:α→Ps β}(i:Nat)(hr:Ms=pb p g l)(M:aQ w0.heap.size w0 w L rs)(hi:L[i]?=some (cQ R u ver))
 (hc:aQ w0.heap.size w0 w (cQ R u ver::L.eraseIdx i) rs→Calls Tryz.prog f args w (eJ w0 R ver (L.eraseIdx i) rs (qh val) (p l)))
 (h:∀ x l' u' w',p l=.ok (x,l')→Ms=g x l'→jP u' l'→aq w0 u' l'→wk L i (cQ R u' ver) fun L'=>aQ w0.heap.size w0 w' L' rs→K (val x) L' rs w') :
 X∨∃ R:Value→World→Prop,Calls Tryz.prog f args w (u_ (some fun ch w=>eJ w0 R0 XT bs0 rs0 P0 Ms (.panicked ch) w) R)∧∀ v w',R v w'→∃ bs' rs',aQ w0.heap.size w0 w' bs' rs'∧K v bs' rs' w':=by
 refine wI i hr M hi hc ?_;rintro v T x l' u' w' hp hr' ⟨rfl,rfl⟩ hs hb;rw[List.append_nil];exact h x l' u' w' hp hr' hs hb
end
section
variable {w0 w:World} {bs:List Bx} {rs:List Rw} {R:Nat} {ver:Int} {u:Value} {l:List Nat}
@[reducible] def v64(n:Nat):Value:=.int .u64 (n:Int)
@[reducible] def XZ(n:Int):Value:=.int .i64 n
@[reducible] def v32(n:Nat):Value:=.int .i64 (n:Int)
@[reducible] def aa_(s:aE):Value:=.agg #[.int .u64 s.a,.int .u64 s.b,.int .u64 s.c,.int .u64 s.d]
theorem IC(M:aQ w0.heap.size w0 w (cQ R u ver::bs) rs)(hs:jP u l)(hb:aq w0 u l):Calls Tryz.prog 149 #[.pointer (some ⟨R,0,none⟩)] w (eJ w0 R ver bs rs (qh v64) (sL l)):=by
 unfold sL;have ho:=Lc hs (hb.keep M.below);obtain⟨n,r,e,hX⟩:∃ n r e,number l=(n,r,e):=⟨_,_,_,rfl⟩;rw[hX] at ho ⊢;dsimp only at ho ⊢;refine iy M [] (fn:=Tryz.f149) Tryz.func149 rfl Tryz.ntmps149 rfl<|lb 0<|an rfl<|Uy (R:=fun x w'=>∃ u1,x=.tuple #[.int .u64 (n:Int),u1,.int .i64 e]∧tC u l u1 r e∧akI w.heap.size w w') (ho.mono fun _ _ ⟨u,h1,h2⟩=>⟨_,h1,u,rfl,h2⟩) ?_;rintro _ w1 ⟨u1,rfl,hl,hb1⟩;have M1:=M.keep hb1;refine⟨_,_,M1,?_⟩;by_cases he:e=0
 ·subst he;obtain⟨⟨g,off,c,rfl,hc⟩,h2⟩:=hl.ok;exact ZQ M1 fun w2 M2=>lb 0<|an ⟨rfl,rfl⟩ fun w3 M3=>fun M=>eJ.one (if_pos rfl) rfl ⟨g,off,c,rfl,hc⟩ (h2 _ hb) M
 ·exact XE he fun w' h=>eJ.err (by rw[if_neg he]) (M1.keep h).below
theorem fQ(M:aQ w0.heap.size w0 w (cQ R u ver::bs) rs)(hs:jP u l)(hb:aq w0 u l):Calls Tryz.prog 234 #[.pointer (some ⟨R,0,none⟩)] w (eJ w0 R ver bs rs (qh v32) (Ss l)):=by
 refine iy M [] (fn:=Tryz.f234) Tryz.func234 rfl Tryz.ntmps234 rfl<|gM 0 rfl M rfl (fun M=>IC M hs hb) ?_;intro n l1 u1 w1 hp hr hs1 hb1 M1;by_cases h:n<4294967296
 ·exact WW (decide_eq_true (by omega)) M1 fun w2 M2=>ei (x:=.int .i64 (n:Int))<|an (fun a w o ho hv=>(eI ho (aY hv) zL u3).trans (by rw[Dc _ (by omega)]))<|fun M=>eJ.one (by rw[hr,if_pos h];rfl) rfl hs1 hb1 M
 ·exact RJ (decide_eq_false (by omega)) fun w' hb=>eJ.err (by rw[hr,if_neg h];rfl) (M1.keep hb).below
end
theorem aQ.GQ{B:Nat}{w0 w w':World}{bs bs':List Bx}{rs:List Rw}(M:aQ B w0 w bs rs)(N:aQ w.heap.size w w' bs' []):aQ B w0 w' (bs'++bs) rs:=by
 have M':=M.keep N.below;refine⟨M'.below,M'.le,M'.old,fun b hb=>?_,fun b hb=>?_,?_,M'.row,fun r hr b hb=>?_,M'.yZ⟩
 ·rcases List.mem_append.1 hb with hb|hb
  ·exact N.box b hb
  ·exact M'.box b hb
 ·rcases List.mem_append.1 hb with hb|hb
  ·exact Nat.le_trans M.big (N.lo b hb)
  ·exact M'.lo b hb
 ·rw[List.map_append];refine List.nodup_append.2 ⟨N.nd,M.nd,fun x hx y hy e=>?_⟩;obtain⟨b,hb,rfl⟩:=List.mem_map.1 hx;obtain⟨c,hc,rfl⟩:=List.mem_map.1 hy;have:=N.lo b hb;have:=(M.box c hc).lt;omega
 ·rcases List.mem_append.1 hb with hb|hb
  ·intro e;have:=N.lo b hb;have:=((M.row r hr).lt _ e).2;omega
  ·exact M'.far r hr b hb
def vcS(B:Nat)(w0:World)(N:Nat)(l:Slots):List Oper→Nat→List iP→List Bx→List Rw→World→(Nat→List iP→List Bx→List Rw→World→Prop)→Prop
 | [],n,m,bs,rs,w,K=>K n m bs rs w
 | o::r,n,m,bs,rs,w,K=>xO none B w0 N l o n m bs rs w fun m' bs' rs' w'=>vcS B w0 N l r (n+1) m' bs' rs' w' K
theorem OB{ops:Array Oper}{B:Nat}{w0:World}{N:Nat}{l:Slots}{Q:Exit→Act→World→Prop}{L2:List Oper}{K:Slots→List Bx→List Rw→World→List Bx→List Rw→World→Prop}:∀ {L:List Oper} {n:Nat} {a:Act} {m:List iP} {bs:List Bx} {rs:List Rw} {w:World},(∀ i o,(L++L2)[i]?=some o→ops[n+i]?=some o)→Inv ops a N l m n→aQ B w0 w bs rs→vcS B w0 N l L n m bs rs w (fun n m C4 CT w1=>vc none w1.heap.size w1 N l L2 n m [] [] w1 fun l' UD TX w2=>K l' C4 CT w1 UD TX w2) →
 (∀ a l' C4 CT w1 UD TX w2,Fs a N l'→aQ B w0 w1 C4 CT→aQ w1.heap.size w1 w2 UD TX→K l' C4 CT w1 UD TX w2→Q .normal a w2)→wpList Tryz.prog ops Q (L++L2) a w
 | [],n,_,_,_,_,w,qo,I,M,h,next=>KD (fun i o hi=>qo i o hi) I (Mm.start w) h (fun _ h=>by cases h) fun a l' UD TX w2 F M2 hk=>next a l' _ _ _ _ _ _ F M M2 hk
 | o::r,n,_,_,_,_,_,qo,I,M,h,next=>by
  refine ql I M (by simpa using qo 0 o rfl) h (fun _ h=>by cases h) fun a' m' bs' rs' w' I' M' h'=>?_
  exact OB (fun i o hi=>by have:=qo (i+1) o (by simpa using hi);rwa [show n+1+i=n+(i+1) by omega]) I' M' h' next
theorem RX{f:FuncId}{fn:Func}{x y:Code}{id:Nat}{ops:Array Oper}{N:Nat}(k:Nat)(J:List Nat){vs:List Value}{R:Ending→World→Prop}{w0:World}(hf:Tryz.prog.funcs[f]?=some fn)(hb:fn.body=some (.seq x (.seq (.region id ops false) y)))(hn:fn.ntmps=N)(hN:Nat.ble vs.length N=true)
 (h:Bn none w0.heap.size w0 N J x (HZ 0 vs) [] [] w0 fun e l bs rs w=>e=.normal∧vcS w0.heap.size w0 N l (ops.toList.take k) 0 [] bs rs w fun n m C4 CT w1=>vc none w1.heap.size w1 N l (ops.toList.drop k) n m [] [] w1 fun l' UD TX w2=>TX=[]∧(akI w1.heap.size w1 w2→Bn none w0.heap.size w0 N J y l' (UD++C4) CT w2 (F9 fn w0.heap.size w0 R))):Calls Tryz.prog f vs.toArray w0 R:=by
 refine en hf hb hn (by simpa using hN) rfl fun a F=>wp_seq (jl h F (Mm.start w0) (fun _ h=>by cases h) fun e a l bs rs w F M ⟨he,hk⟩=>?_)
 subst he;refine wp_seq (wp_region_list ?_)
 have key:wpList Tryz.prog ops (Exit.then (Code.wp Tryz.prog y (bodyPost Tryz.prog fn R)) (bodyPost Tryz.prog fn R)) (ops.toList.take k++ops.toList.drop k) a w:=by
  refine OB (fun i o hi=>?_) (Inv.start F) M hk fun a l' C4 CT w1 UD TX w2 F M1 M2 ⟨h1,h2⟩=>?_
  ·rw[Nat.zero_add];rw[List.take_append_drop] at hi;simpa using hi
  ·subst h1;refine jl (h2 M2.below) F (M1.GQ M2) (fun _ h=>by cases h) fun e a l bs rs w F M hk=>?_
   cases e with
   | normal=>exact tK (iM F M hk)
   | ret=>exact iM F M hk
   | _=>exact hk.elim
 rwa [List.take_append_drop] at key
end Go.Proofs.YtkkmjdceiocnbaaGreatDoor

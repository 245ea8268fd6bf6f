import Derived.Test.YtkkmjdceiocnbaaGreatDoorSXTA
open Bool renaming and_eq_true→ajX,eq_iff_iff→aj2
open Go.RowKit renaming Below→ajY
open List renaming getElem?_eq_getElem→ajV,mem_of_getElem?→ajZ,getElem?_eq_some_iff→aj0
open Nat renaming zero_le→ajW
open Option.some renaming inj→aj1
set_option maxRecDepth 100000
set_option maxHeartbeats 8000000
set_option linter.unusedSectionVars false
set_option linter.unusedSimpArgs false
set_option linter.unusedVariables false
namespace Go.Proofs.YtkkmjdceiocnbaaGreatDoor
open Go Go.RowKit
def bq(l:List bG)(k:Int):Nat:=(l.filter fun t=>decide (t.kind=k)).length
theorem ef(l:List bG)(t:bG)(k:Int):bq (l++[t]) k=bq l k+(if t.kind=k then 1 else 0):=by
 unfold bq;rw[List.filter_append,List.length_append];by_cases h:t.kind=k<;>simp[h]
theorem Bs(l:List bG)(m:Nat)(k:Int):bq (l.take m) k≤bq l k:=by
 have h:=bq (l.drop m) k;unfold bq
 conv=>rhs;rw[← List.take_append_drop m l,List.filter_append,List.length_append]
 omega
def rB(nT nC nK:Nat)(y:bG):Int:=
 if y.kind<1 then 13 else if 3<y.kind then 13
 else if y.src.within (aq.all nT)=false then 3 else if y.tgt.within (aq.all nT)=false then 3
 else if aE y.cls (nC:Int)=false then 3 else if aE y.res (nT:Int)=false then 3 else if nQ nK y.cond=false then 3
 else if bD y.src=false then 2 else if bD y.tgt=false then 2
 else if y.kind≠1∧ck y.name=false then 2
 else if ck y.name=false∧d_ y.name=false then 10 else 0
def lK(p:aA)(i:Nat):Int:=match p.trans[i]? with
 | some y=>rB p.types.length p.classes.length p.conds.length y
 | none=>0
def fH(p:aA):Int:=if bq p.trans 1≤1024∧bq p.trans 2≤1024∧bq p.trans 3≤1024 then ah (lK p) p.trans.length 0 else 4
theorem wT{p:aA}(h:∀ q:Int,1≤q→q≤3→bq p.trans q≤1024):fH p=ah (lK p) p.trans.length 0:=
 if_pos ⟨h 1 (by omega) (by omega),h 2 (by omega) (by omega),h 3 (by omega) (by omega)⟩
theorem mL{p:aA}{q:Int}{m:Nat}(h1:1≤q)(h2:q≤3)(h:1024<bq (p.trans.take m) q):fH p=4:=by
 have h3:=Bs p.trans m q;refine if_neg fun⟨a,b,c⟩=>?_
 rcases(show q=1∨q=2∨q=3 by omega) with rfl|rfl|rfl<;>omega
theorem IJ(w0:World)(c0 c1 c2 c3 c4 c5 c6 c7 c8 c9 c10 c11 c12 c13 c14 c15 c16:Value)(p:aA)(hp:aD w0 c0 c1 c2 c3 c4 c5 c6 c7 c8 c9 c10 c11 c12 c13 c14 c15 c16 p)(hok:p.Ok):Calls Tryz.prog 58 #[.agg #[c0,c1,c2,c3,c4,c5,c6,c7,c8,c9,c10,c11,c12,c13,c14,c15,c16]] w0 (RI w0 (fH p)):=by
 obtain⟨_,_,_,_,_,_,_,_,_,_,_,_,_,_,_,_,_,_,_,_,_,_,_,_,_,_,_,_,_,_,_,_,_,_,rfl,rfl,rfl,rfl,rfl,rfl,rfl,rfl,rfl,rfl,rfl,rfl,rfl,rfl,rfl,rfl,rfl⟩:=hp.open;obtain⟨_,_,e10,-,Z9,-⟩:=SliceAt.form hp.trans (by decide);obtain⟨_,_,e1,-,hm1,-⟩:=au.form hp.types (by decide);have tr:=fun m h=>SliceAt.elt (i:=m) hp.trans (fun _=>rfl) (by decide) (ajV h) h
 refine bU [] (fn:=Tryz.f58) Tryz.func58 rfl Tryz.ntmps58 rfl fun g1 w1 M1=>ei<|an Vf fun g2 w2 M2=>lp (ι:=Nat) (fun m=>[(4,.int .i64 (m:Int))]) (fun m=>(g2,75,#[.int .i64 0,.int .i64 ((bq (p.trans.take m) 1:Nat):Int),.int .i64 ((bq (p.trans.take m) 2:Nat):Int),.int .i64 ((bq (p.trans.take m) 3:Nat):Int)])::_) (fun _=>[]) (fun m _=>m≤p.trans.length∧∀ q:Int,1≤q→q≤3→bq (p.trans.take m) q≤1024) (fun m=>p.trans.length-m) 0 (an ⟨⟨rfl,trivial⟩,fun M=>⟨M,ajW _,fun _ _ _=>ajW _⟩⟩ ?_)
 rintro m w M ⟨hm,hle⟩;refine lb 1<|an rfl<|an (fun h2=>?_) fun h2=>?_
 ·simp only[decide_eq_true_eq] at h2;have hlt:m<p.trans.length:=by omega
  obtain⟨b,o,e,hc⟩:=tr m hlt;have hy:p.trans[m]?=some p.trans[m]:=ajV hlt;refine lb 1<|an rfl<|ia<|an ⟨e,rfl,hlt⟩<|lc<|an (cell_later M.below (hc 0 _ rfl))<|an (fun h3=>?_) fun h3=>?_
  rotate_left
  ·have hno:∀ q:Int,1≤q→q≤3→bq (p.trans.take (m+1)) q=bq (p.trans.take m) q:=fun q h1 h2=>by
    rw[ij hy,ef,if_neg (fun e=>by simp only[Bool.and_eq_false_iff,decide_eq_false_iff_not] at h3;omega)];rfl
   exact an (by omega)<|bk (m+1) ⟨rfl,trivial⟩ (fun M=>⟨by rw[hno 1 (by omega) (by omega),hno 2 (by omega) (by omega),hno 3 (by omega) (by omega)];exact M,by omega,fun q h1 h2=>by rw[hno q h1 h2];exact hle q h1 h2⟩) (by dsimp only;omega)
  simp only[ajX,decide_eq_true_eq] at h3;rcases(show p.trans[m].kind=1∨p.trans[m].kind=2∨p.trans[m].kind=3 by omega) with hk|hk|hk
  ·have hk1:bq (p.trans.take (m+1)) 1=bq (p.trans.take m) 1+1:=by rw[ij hy,ef,if_pos hk]
   have hno:∀ q:Int,q≠1→bq (p.trans.take (m+1)) q=bq (p.trans.take m) q:=fun q h1=>by rw[ij hy,ef,if_neg (by omega)];rfl
   have hq:=hle 1 (by omega) (by omega);refine ei (x:=1)<|an ⟨hk,by decide⟩<|lb 0<|an rfl<|an (by omega)<|ei (x:=1)<|an ⟨hk,by decide⟩<|lb 0<|an ⟨rfl,rfl⟩ fun w M=>ei (x:=1)<|an ⟨hk,by decide⟩<|lb 0<|an rfl<|an (fun h4 M=>⟨?_,M.below⟩) fun h4=>an (by omega)<|bk (m+1) ⟨rfl,trivial⟩ (fun M=>⟨by rw[hk1,hno 2 (by omega),hno 3 (by omega)];exact M,by omega,fun q h1 h2=>?_⟩) (by dsimp only;omega)
   ·simp only[decide_eq_true_eq] at h4;rw[mL (q:=1) (m:=m+1) (by omega) (by omega) (by rw[hk1];omega)];rfl
   ·simp only[decide_eq_false_iff_not] at h4;by_cases e:q=1
    ·subst e;rw[hk1];omega
    ·rw[hno q e];exact hle q h1 h2
  ·have hk1:bq (p.trans.take (m+1)) 2=bq (p.trans.take m) 2+1:=by rw[ij hy,ef,if_pos hk]
   have hno:∀ q:Int,q≠2→bq (p.trans.take (m+1)) q=bq (p.trans.take m) q:=fun q h1=>by rw[ij hy,ef,if_neg (by omega)];rfl
   have hq:=hle 2 (by omega) (by omega);refine ei (x:=2)<|an ⟨hk,by decide⟩<|lb 0<|an rfl<|an (by omega)<|ei (x:=2)<|an ⟨hk,by decide⟩<|lb 0<|an ⟨rfl,rfl⟩ fun w M=>ei (x:=2)<|an ⟨hk,by decide⟩<|lb 0<|an rfl<|an (fun h4 M=>⟨?_,M.below⟩) fun h4=>an (by omega)<|bk (m+1) ⟨rfl,trivial⟩ (fun M=>⟨by rw[hk1,hno 1 (by omega),hno 3 (by omega)];exact M,by omega,fun q h1 h2=>?_⟩) (by dsimp only;omega)
   ·simp only[decide_eq_true_eq] at h4;rw[mL (q:=2) (m:=m+1) (by omega) (by omega) (by rw[hk1];omega)];rfl
   ·simp only[decide_eq_false_iff_not] at h4;by_cases e:q=2
    ·subst e;rw[hk1];omega
    ·rw[hno q e];exact hle q h1 h2
  ·have hk1:bq (p.trans.take (m+1)) 3=bq (p.trans.take m) 3+1:=by rw[ij hy,ef,if_pos hk]
   have hno:∀ q:Int,q≠3→bq (p.trans.take (m+1)) q=bq (p.trans.take m) q:=fun q h1=>by rw[ij hy,ef,if_neg (by omega)];rfl
   have hq:=hle 3 (by omega) (by omega);refine ei (x:=3)<|an ⟨hk,by decide⟩<|lb 0<|an rfl<|an (by omega)<|ei (x:=3)<|an ⟨hk,by decide⟩<|lb 0<|an ⟨rfl,rfl⟩ fun w M=>ei (x:=3)<|an ⟨hk,by decide⟩<|lb 0<|an rfl<|an (fun h4 M=>⟨?_,M.below⟩) fun h4=>an (by omega)<|bk (m+1) ⟨rfl,trivial⟩ (fun M=>⟨by rw[hk1,hno 1 (by omega),hno 2 (by omega)];exact M,by omega,fun q h1 h2=>?_⟩) (by dsimp only;omega)
   ·simp only[decide_eq_true_eq] at h4;rw[mL (q:=3) (m:=m+1) (by omega) (by omega) (by rw[hk1];omega)];rfl
   ·simp only[decide_eq_false_iff_not] at h4;by_cases e:q=3
    ·subst e;rw[hk1];omega
    ·rw[hno q e];exact hle q h1 h2
 simp only[decide_eq_false_iff_not] at h2;obtain rfl:m=p.trans.length:=by omega
 rw[List.take_length] at hle;rw[wT hle];have HU:=hok.oy;refine lr (ι:=Nat) (fun m=>[(6,.int .i64 (m:Int))]) (fun i _=>i≤p.trans.length∧ah (lK p) p.trans.length 0=ah (lK p) (p.trans.length-i) i) (fun i=>p.trans.length-i) 0 (an ⟨⟨rfl,trivial⟩,fun M=>⟨M,ajW _,by rw[Nat.sub_zero]⟩⟩ ?_);rintro i w M ⟨hi,hinv⟩;refine lb 1<|an rfl<|an (fun h2=>?_) fun h2 M=>⟨?_,M.below⟩
 ·simp only[decide_eq_true_eq] at h2;have hlz:i<p.trans.length:=by omega
  obtain⟨b,o,e,hc⟩:=tr i hlz;have Ji:=hok.trans p.trans[i] (List.getElem_mem hlz);have hcf:lK p i=rB p.types.length p.classes.length p.conds.length p.trans[i]:=by unfold lK;rw[ajV hlz]
  generalize p.trans[i]=z at hc Ji hcf;have out:∀ v:Int,rB p.types.length p.classes.length p.conds.length z=v→v≠0→Ending.returned (AX [.int .i64 v])=.returned (.int .i64 (ah (lK p) p.trans.length 0)):=fun v h1 h2=>by rw[hinv,aV hlz (by rw[hcf,h1];exact h2),hcf,h1];rfl
  unfold rB at out hcf;refine lb 1<|an rfl<|ia<|an ⟨e,rfl,hlz⟩<|lc<|an (cL M.below hc)<|ei<|an Ef fun g3 w3 M3=>lb 0<|an ⟨rfl,rfl⟩ fun w4 M4=>lb 0<|an rfl<|lb 0<|an (fun _=>rfl)<|an (fun h M=>⟨out 13 ?_ (by decide),M.below⟩) fun h=>?_
  ·simp only[Bool.or_eq_true,decide_eq_true_eq] at h;by_cases h1:z.kind<1
   ·rw[if_pos h1]
   ·rw[if_neg h1,if_pos (by omega)]
  simp only[Bool.or_eq_false_iff,decide_eq_false_iff_not] at h;rw[if_neg h.1,if_neg h.2] at out hcf;refine lb 0<|an rfl<|lb 2<|an rfl<|cl<|an (gG _ z.src Ji.src _ HU) fun w5 M5=>lb 0<|an rfl<|lb 2<|an rfl<|cl<|an (gG _ z.tgt Ji.tgt _ HU) fun w6 M6=>?_
  refine lb 0<|an (fun _=>rfl)<|lb 2<|an (fun _=>rfl)<|cl<|an (fun _=>gX _ _ _) fun w7 M7=>lb 0<|an (fun _=>rfl)<|lb 2<|an (fun _=>rfl)<|cl<|an (fun _=>gX _ _ _) fun w8 M8=>lb 2<|an (fun _=>rfl)<|lb 0<|an (fun _=>rfl)<|cl<|an (fun _=>DN _ _ _ _ _ _ _ _ _ _ _ _ _ _ _ _ _ _ p (hp.keep M8.below) _) fun w9 M9=>an (fun h3 M=>⟨out 3 ?_ (by decide),M.below⟩) fun h3=>?_
  ·simp only[Bool.or_eq_true,Bool.not_eq_true'] at h3;rcases h3 with(((h3|h3)|h3)|h3)|h3<;>simp[h3]
  simp only[Bool.or_eq_false_iff,Bool.not_eq_false'] at h3;obtain⟨⟨⟨⟨a1,a2⟩,a3⟩,a4⟩,a5⟩:=h3;simp only[a1,a2,a3,a4,a5,Bool.true_eq_false,if_false] at out hcf;refine lb 0<|an (fun _=>rfl)<|lb 0<|an (fun _=>rfl)<|an (fun h4 M=>⟨out 2 ?_ (by decide),M.below⟩) fun h4=>?_
  ·change (!bD z.src||!bD z.tgt||(!decide (z.kind=1)&&!ck z.name))=true at h4
   clear out hcf;cases ha:bD z.src<;>cases hb:bD z.tgt<;>cases hc:ck z.name<;>cases hd:d_ z.name<;>by_cases hk:z.kind=1<;>simp_all
  refine lb 0<|an rfl<|lb 0<|an (fun _=>rfl)<|cl<|an (fun _=>(Fc _ z.name Ji.name).mono fun _ _ ⟨h1,h2⟩=>⟨h1,h2▸Below.refl _ _⟩) fun pE jH=>an (fun h5 M=>⟨out 10 ?_ (by decide),M.below⟩) fun h5=>an (by omega)<|bk (i+1) ⟨rfl,trivial⟩ (fun M=>⟨M.only (.cons _ (.refl _)) (.refl _),by omega,hinv.trans (aM hlz ?_)⟩) (by dsimp only;omega)
  ·change (!bD z.src||!bD z.tgt||(!decide (z.kind=1)&&!ck z.name))=false at h4
   change (!ck z.name&&!d_ z.name)=true at h5
   clear out hcf;cases ha:bD z.src<;>cases hb:bD z.tgt<;>cases hc:ck z.name<;>cases hd:d_ z.name<;>by_cases hk:z.kind=1<;>simp_all
  ·change (!bD z.src||!bD z.tgt||(!decide (z.kind=1)&&!ck z.name))=false at h4
   change (!ck z.name&&!d_ z.name)=false at h5
   rw[hcf];clear out hcf;cases ha:bD z.src<;>cases hb:bD z.tgt<;>cases hc:ck z.name<;>cases hd:d_ z.name<;>by_cases hk:z.kind=1<;>simp_all
 simp only[decide_eq_false_iff_not] at h2;obtain rfl:i=p.trans.length:=by omega
 rw[hinv,Nat.sub_self];rfl
theorem fP{i n:Int}:aE i n=true↔0≤i∧i<n:=by
 unfold aE;simp
def sO(p:aA)(c:mG):Int:=match p.users[c.user.toNat]?,p.roles[c.role.toNat]? with
 | some u,some r=>if kN c.rng.low u.rng.low=false then 19 else if kN u.rng.high c.rng.high=false then 19
  else if u.roles.mem c.role=false then 19 else if r.types.mem c.typ=false then 19 else 0
 | _,_=>0
def iL(p:aA)(c:mG):Int:=
 if aE c.user (p.users.length:Int)=false then 3 else if aE c.role (p.roles.length:Int)=false then 3 else if aE c.typ (p.types.length:Int)=false then 3
 else if iJ p.ay.length p.cats.length c.rng=false then 18 else if c.role=0 then 0 else sO p c
theorem xL{p:aA}{c:mG}{u:jr}{r:eM}(hu:p.users[c.user.toNat]?=some u)(hr:p.roles[c.role.toNat]?=some r):sO p c=if kN c.rng.low u.rng.low=false then 19 else if kN u.rng.high c.rng.high=false then 19
 else if u.roles.mem c.role=false then 19 else if r.types.mem c.typ=false then 19 else 0:=by
 unfold sO;rw[hu,hr]
theorem zW(w0:World)(c0 c1 c2 c3 c4 c5 c6 c7 c8 c9 c10 c11 c12 c13 c14 c15 c16:Value)(p:aA)(hp:aD w0 c0 c1 c2 c3 c4 c5 c6 c7 c8 c9 c10 c11 c12 c13 c14 c15 c16 p)(hok:p.Ok)(c:mG)(hc:c.Ok):Calls Tryz.prog 165 #[.agg #[c0,c1,c2,c3,c4,c5,c6,c7,c8,c9,c10,c11,c12,c13,c14,c15,c16],.agg #[.int .i64 c.user,.int .i64 c.role,.int .i64 c.typ,.int .i64 c.rng.low.ay,.int .u64 c.rng.low.cats,.int .i64 c.rng.high.ay,.int .u64 c.rng.high.cats]] w0 (fun(e:Ending) (w':World)=>e=.returned (.int .i64 (iL p c))∧ajY w0.heap.size w0 w'):=by
 obtain⟨_,_,_,_,_,_,_,_,_,_,_,_,_,_,_,_,_,_,_,_,_,_,_,_,_,_,_,_,_,_,_,_,_,_,rfl,rfl,rfl,rfl,rfl,rfl,rfl,rfl,rfl,rfl,rfl,rfl,rfl,rfl,rfl,rfl,rfl⟩:=hp.open;refine bU [] (fn:=Tryz.f165) Tryz.func165 rfl Tryz.ntmps165 rfl<|fun g1 w1 M1=>fun g2 w2 M2=>lb 0<|an rfl<|lb 1<|an rfl<|cl<|an (gX _ _ _) fun w3 M3=>lb 0<|an (fun _=>rfl)<|lb 1<|an (fun _=>rfl)<|cl<|an (fun _=>gX _ _ _) fun w4 M4=>lb 0<|an (fun _=>rfl)<|lb 1<|an (fun _=>rfl)<|cl<|an (fun _=>gX _ _ _) fun w5 M5=>an (fun h M=>⟨ri ?_,M.below⟩) fun h=>?_
 ·unfold iL;cases h5:aE c.user p.users.length<;>cases h6:aE c.role p.roles.length<;>cases h7:aE c.typ p.types.length<;>simp_all
 have hb:aE c.user p.users.length=true∧aE c.role p.roles.length=true∧aE c.typ p.types.length=true:=by cases h5:aE c.user p.users.length<;>cases h6:aE c.role p.roles.length<;>cases h7:aE c.typ p.types.length<;>simp_all
 clear h;have hpm:iL p c=if iJ p.ay.length p.cats.length c.rng=false then 18 else if c.role=0 then 0 else sO p c:=by unfold iL;rw[hb.1,hb.2.1,hb.2.2];rfl
 rw[fP,fP,fP] at hb;obtain⟨⟨hu0,hu1⟩,⟨hr0,hr1⟩,ht0,ht1⟩:=hb;refine lb 1<|an rfl<|lb 0<|an rfl<|cl<|an (t_ _ _ _ _ _ _ _ _ _ _ _ _ _ _ _ _ _ _ p (hp.keep M5.below) c.rng hc.rng) fun w6 M6=>an (fun h M=>⟨ri (by rw[hpm,if_pos (by simpa using h)]),M.below⟩) fun h=>?_
 rw[if_neg (by simpa using h)] at hpm;refine lb 0<|an rfl<|an (fun h M=>⟨ri (by rw[hpm,if_pos (by simpa using h)]),M.below⟩) fun h=>?_
 rw[if_neg (by simpa using h)] at hpm;have Z_:c.user.toNat<p.users.length:=by omega
 have hlr:c.role.toNat<p.roles.length:=by omega
 obtain⟨u,hu⟩:∃ u,p.users[c.user.toNat]?=some u:=⟨_,ajV Z_⟩;obtain⟨r,hr⟩:∃ r,p.roles[c.role.toNat]?=some r:=⟨_,ajV hlr⟩;have UU:=hok.users u (ajZ hu);have Sg:=hok.roles r (ajZ hr);obtain⟨b,o,e,Ye⟩:=SliceAt.elt hp.users (fun _=>rfl) (by decide) hu Z_;obtain⟨b',o',e',hcr⟩:=SliceAt.elt hp.roles (fun _=>rfl) (by decide) hr hlr;rw[xL hu hr] at hpm;refine lb 1<|an rfl<|lb 0<|an rfl<|ia<|an ⟨e,(Int.toNat_of_nonneg hu0).symm,Z_⟩<|lc<|an (cL M6.below Ye)<|ei<|an zF fun g3 w7 M7=>lb 0<|an ⟨rfl,rfl⟩ fun w8 M8=>lb 1<|an rfl<|lb 0<|an rfl<|cl<|an (tL _ c.rng.low u.rng.low hc.rng.low UU.rng.low) fun w9 M9=>lb 0<|an (fun _=>rfl)<|lb 1<|an (fun _=>rfl)<|cl<|an (fun _=>tL _ u.rng.high c.rng.high UU.rng.high hc.rng.high) fun pE jH=>?_
 refine dr (by kernel_rfl)<|lb 0<|an (fun _=>rfl)<|lb 1<|an (fun _=>rfl)<|cl<|an (fun _ w' hb' M'=>QN _ u.roles UU.roles _)<|lb 2<|an (fun _=>rfl)<|lb 1<|an (fun _=>rfl)<|ia<|an (fun _=>⟨e',(Int.toNat_of_nonneg hr0).symm,hlr⟩)<|lc (x:=[.int .u64 r.types.a,.int .u64 r.types.b,.int .u64 r.types.c,.int .u64 r.types.d])<|an (fun _=>fR (cL jH.below hcr) rfl)<|lb 1<|an (fun _=>rfl)<|cl<|an (fun _ w' hb' M'=>QN _ r.types Sg.types _) fun uO MZ M11=>an (fun h3 M=>⟨ri ?_,M.below⟩) fun h3 M=>⟨ri ?_,M.below⟩
 all_goals rw[hpm];clear hpm;cases h4:kN c.rng.low u.rng.low<;>cases h5:kN u.rng.high c.rng.high<;>cases h6:u.roles.mem c.role<;>cases h7:r.types.mem c.typ<;>simp_all
theorem DZ(w0:World)(x:ByteArray)(hx:cB x):Calls Tryz.prog 166 #[.agg #[.int .i64 3,.string x,.int .i64 0,.int .i64 0]] w0 (fun(e:Ending) (w':World)=>e=.returned (.bool (dQ x))∧ajY w0.heap.size w0 w'):=by
 exact bU [] (fn:=Tryz.f166) Tryz.func166 rfl Tryz.ntmps166 rfl<|fun g1 w1 M1=>lb 0<|an rfl<|an (fun h=>absurd h (by decide)) fun _=>an (fun h=>absurd h (by decide)) fun _=>an (fun h=>absurd h (by decide)) fun _=>an (fun _=>lb 0<|an rfl<|cl<|an ((EL _ x hx).mono fun _ _ ⟨h1,h2⟩=>⟨h1,h2▸Below.refl _ _⟩) fun w4 M4 M=>⟨rfl,M.below⟩) fun h=>absurd h (by decide)
def zl(p:aA)(before:List ByteArray)(y:iY):Int:=if aP [y.name] before=0 then iL p y.ctx else aP [y.name] before
def lM(p:aA)(i:Nat):Int:=match p.aN[i]? with
 | some y=>zl p ((p.aN.take i).map (·.name)) y
 | none=>0
def tA(p:aA)(y:jF):Int:=if ck y.pat=true then 10 else if dQ y.pat=false then 10 else if y.kind<0 then 13 else if 4<y.kind then 13 else iL p y.ctx
def kV(p:aA)(i:Nat):Int:=match p.files[i]? with
 | some y=>tA p y
 | none=>0
def cF(p:aA):Int:=if 1024<p.aN.length then 4 else if ah (lM p) p.aN.length 0=0 then (if 256<p.files.length then 4 else ah (kV p) p.files.length 0) else ah (lM p) p.aN.length 0
theorem Fy(w0:World)(c0 c1 c2 c3 c4 c5 c6 c7 c8 c9 c10 c11 c12 c13 c14 c15 c16:Value)(p:aA)(hp:aD w0 c0 c1 c2 c3 c4 c5 c6 c7 c8 c9 c10 c11 c12 c13 c14 c15 c16 p)(hok:p.Ok):Calls Tryz.prog 61 #[.agg #[c0,c1,c2,c3,c4,c5,c6,c7,c8,c9,c10,c11,c12,c13,c14,c15,c16]] w0 (RI w0 (cF p)):=by
 obtain⟨_,_,_,_,_,_,_,_,_,_,_,_,_,_,_,_,_,_,_,_,_,_,_,_,_,_,_,_,_,_,_,_,_,_,rfl,rfl,rfl,rfl,rfl,rfl,rfl,rfl,rfl,rfl,rfl,rfl,rfl,rfl,rfl,rfl,rfl⟩:=hp.open;refine bU [] (fn:=Tryz.f61) Tryz.func61 rfl Tryz.ntmps61 rfl<|fun g1 w1 M1=>lb 0<|an rfl<|an (fun h M=>⟨ri (by unfold cF;rw[if_pos (by simp at h;omega)]),M.below⟩) fun h=>?_
 have hr:¬ 1024<p.aN.length:=by simp at h;omega
 refine lq (ι:=Nat×Value) (fun(m,u)=>[(3,u),(4,.int .i64 (m:Int))]) (fun(m,u)=>[⟨u,9,1,m,((p.aN.take m).map (·.name)).flatMap aO⟩]) (fun(m,u) _=>m≤p.aN.length∧ah (lM p) p.aN.length 0=ah (lM p) (p.aN.length-m) m) (fun(m,u)=>p.aN.length-m) (0,.slice none 0 0) (an ⟨⟨rfl,rfl,trivial⟩,fun M=>⟨M.bE 9 1,ajW _,by rw[Nat.sub_zero]⟩⟩ ?_);rintro⟨m,u⟩ w M ⟨hm,hinv⟩;refine lb 0<|an rfl<|an (fun h2=>?_) fun h2=>?_
 have hlt:m<p.aN.length:=by simp at h2;omega
 obtain⟨y,hy⟩:∃ y,p.aN[m]?=some y:=⟨_,ajV hlt⟩;have fq:=hok.aN y (ajZ hy)
 ·obtain⟨b,o,e,hc⟩:=SliceAt.elt hp.aN (fun _=>rfl) (by decide) hy hlt;have hcf:lM p m=zl p ((p.aN.take m).map (·.name)) y:=by unfold lM;rw[hy]
  have out:∀ v:Int,zl p ((p.aN.take m).map (·.name)) y=v→v≠0→cF p=v:=fun v h1 h2=>by
   have e:ah (lM p) p.aN.length 0=v:=by rw[hinv,aV hlt (by rw[hcf,h1];exact h2),hcf,h1]
   unfold cF;rw[if_neg hr,e,if_neg h2]
  unfold zl at hcf out;refine lb 0<|an rfl<|ia<|an ⟨e,rfl,hlt⟩<|lc<|an (cL M.below hc 0 _ rfl)<|fun g2 w2 M2=>cl<|an (eY _ _ _ [y.name] ((p.aN.take m).map (·.name)) (M2.slice 0 rfl rfl rfl (by simp[maxLen])) (cP (M2.r 0 rfl) (by simp;omega) rfl) (by simpa using fq.name)) fun w3 M3=>an (fun h3 M=>⟨ri (out _ (if_neg (by simpa using h3)) (by simpa using h3)),M.below⟩) fun h3=>?_
  replace h3:aP [y.name] ((p.aN.take m).map (·.name))=0:=by simpa using h3
  rw[if_pos h3] at hcf out;exact lb 1<|an rfl<|ia<|an ⟨e,rfl,hlt⟩<|lc<|an (cL M3.below hc 0 _ rfl)<|fun g3 w4 M4=>ap 0 id rfl (M4.slice 0 rfl rfl rfl (by simp[maxLen])) ⟨by unfold maxLen;omega,by omega⟩ fun v4 w5 M5=>dr (by kernel_rfl)<|lb 2<|an rfl<|lb 2<|an rfl<|ia<|an ⟨e,rfl,hlt⟩<|lc (x:=[.int .i64 y.ctx.user,.int .i64 y.ctx.role,.int .i64 y.ctx.typ,.int .i64 y.ctx.rng.low.ay,.int .u64 y.ctx.rng.low.cats,.int .i64 y.ctx.rng.high.ay,.int .u64 y.ctx.rng.high.cats])<|an (fR (cL M5.below hc) rfl)<|cl<|an (fun w' hb' M'=>zW _ _ _ _ _ _ _ _ _ _ _ _ _ _ _ _ _ _ p (hp.keep M'.below) hok y.ctx fq.ctx) fun w6 HK M6=>an (fun h4 M=>⟨ri (out _ rfl (by simpa using h4)),M.below⟩) fun h4=>an (by omega)<|bk (m+1,v4) ⟨rfl,rfl,trivial⟩ (fun M=>⟨(M.only (.cons _ (.cons _ (.refl _))) (.refl _)).cast rfl (by dsimp only;rw[i_ hy]),by omega,hinv.trans (aM hlt (by rw[hcf];simpa using h4))⟩) (by dsimp only;omega)
 have hz:ah (lM p) p.aN.length 0=0:=by rw[hinv,show m=p.aN.length by simp at h2;omega,aT]
 clear hinv h2 hm;refine lb 0<|an rfl<|an (fun h M=>⟨ri (by unfold cF;rw[if_neg hr,if_pos hz,if_pos (by simp at h;omega)]),M.below⟩) fun h=>?_
 rw[show cF p=ah (kV p) p.files.length 0 by unfold cF;rw[if_neg hr,if_pos hz,if_neg (by simp at h;omega)]];have hfl:¬ 256<p.files.length:=by simp at h;omega
 refine lp (ι:=Nat) (fun m=>[(7,.int .i64 (m:Int))]) (fun _=>_) (fun _=>[]) (fun m _=>m≤p.files.length∧ah (kV p) p.files.length 0=ah (kV p) (p.files.length-m) m) (fun m=>p.files.length-m) 0 (an ⟨⟨rfl,trivial⟩,fun M=>⟨M.only (.refl _) (.cons _ (.refl _)),ajW _,by rw[Nat.sub_zero]⟩⟩ ?_);clear M;rintro m w M ⟨hm,hinv⟩;refine lb 0<|an rfl<|an (fun h2=>?_) fun h2 M=>⟨ri (by rw[hinv,show m=p.files.length by simp at h2;omega,aT]),M.below⟩
 have hlt:m<p.files.length:=by simp at h2;omega
 obtain⟨y,hy⟩:∃ y,p.files[m]?=some y:=⟨_,ajV hlt⟩;have fq:=hok.files y (ajZ hy);obtain⟨b,o,e,hc⟩:=SliceAt.elt hp.files (fun _=>rfl) (by decide) hy hlt;have hcf:kV p m=tA p y:=by unfold kV;rw[hy]
 have out:∀ v:Int,tA p y=v→v≠0→ah (kV p) p.files.length 0=v:=fun v h1 h2=>by rw[hinv,aV hlt (by rw[hcf,h1];exact h2),hcf,h1]
 unfold tA at hcf out;refine lb 0<|an rfl<|ia<|an ⟨e,rfl,hlt⟩<|lc<|an (cL M.below hc)<|ei<|an GL fun g5 w7 M7=>lb 0<|an ⟨rfl,rfl⟩ fun w8 M8=>lb 0<|an rfl<|lb 0<|an (fun _=>rfl)<|ei (x:=.agg #[.int .i64 3,.string y.pat,.int .i64 0,.int .i64 0])<|an (fun _=>bd (by kernel_rfl))<|cl<|an (fun _=>DZ _ y.pat fq.pat) fun w9 M9=>an (fun h3 M=>⟨ri (out 10 ?_ (by decide)),M.below⟩) fun h3=>?_
 ·change (ck y.pat||!dQ y.pat)=true at h3
  clear out hcf;cases h4:ck y.pat<;>cases h5:dQ y.pat<;>simp_all
 change (ck y.pat||!dQ y.pat)=false at h3
 rw[if_neg (by intro e;simp[e] at h3),if_neg (by intro e;simp[e] at h3)] at hcf out;refine lb 0<|an rfl<|lb 0<|an (fun _=>rfl)<|an (fun h4 M=>⟨ri (out 13 ?_ (by decide)),M.below⟩) fun h4=>?_
 ·by_cases h5:y.kind<0
  ·rw[if_pos h5]
  ·rw[if_neg h5,if_pos (by simp at h4;omega)]
 rw[if_neg (by simp at h4;omega),if_neg (by simp at h4;omega)] at hcf out;exact lb 1<|an rfl<|lb 0<|an rfl<|cl<|an (zW _ _ _ _ _ _ _ _ _ _ _ _ _ _ _ _ _ _ p (hp.keep M9.below) hok y.ctx fq.ctx) fun pE jH=>an (fun h5 M=>⟨ri (out _ rfl (by simpa using h5)),M.below⟩) fun h5=>an (by omega)<|bk (m+1) ⟨rfl,trivial⟩ (fun M=>⟨M.only (.cons _ (.refl _)) (.refl _),by omega,hinv.trans (aM hlt (by rw[hcf];simpa using h5))⟩) (by dsimp only;omega)
def O9(nT nC nR:Nat)(y:jD):Int:=
 if lN nR y.roles=false then 3 else if y.types.within (aq.all nT)=false then 3 else if aE y.cls (nC:Int)=false then 3 else if aE y.res (nR:Int)=false then 3
 else if y.res=0 then 3 else if y.roles=aq.zero then 2 else if bD y.types=false then 2 else 0
def xE(p:aA)(i:Nat):Int:=match p.ak[i]? with
 | some y=>O9 p.types.length p.classes.length p.roles.length y
 | none=>0
def O_(nT nC nS nK:Nat)(y:jE):Int:=
 if y.src.within (aq.all nT)=false then 3 else if y.tgt.within (aq.all nT)=false then 3 else if aE y.cls (nC:Int)=false then 3
 else if bD y.src=false then 2 else if bD y.tgt=false then 2 else if iJ nS nK y.rng=false then 18 else 0
def CP(p:aA)(i:Nat):Int:=match p.ranges[i]? with
 | some y=>O_ p.types.length p.classes.length p.ay.length p.cats.length y
 | none=>0
def bP(p:aA):Int:=if 1024<p.ak.length then 4 else if ah (xE p) p.ak.length 0=0 then (if 1024<p.ranges.length then 4 else ah (CP p) p.ranges.length 0) else ah (xE p) p.ak.length 0
theorem D3(w0:World)(c0 c1 c2 c3 c4 c5 c6 c7 c8 c9 c10 c11 c12 c13 c14 c15 c16:Value)(p:aA)(hp:aD w0 c0 c1 c2 c3 c4 c5 c6 c7 c8 c9 c10 c11 c12 c13 c14 c15 c16 p)(hok:p.Ok):Calls Tryz.prog 59 #[.agg #[c0,c1,c2,c3,c4,c5,c6,c7,c8,c9,c10,c11,c12,c13,c14,c15,c16]] w0 (RI w0 (bP p)):=by
 obtain⟨_,_,_,_,_,_,_,_,_,_,_,_,_,_,_,_,_,_,_,_,_,_,_,_,_,_,_,_,_,_,_,_,_,_,rfl,rfl,rfl,rfl,rfl,rfl,rfl,rfl,rfl,rfl,rfl,rfl,rfl,rfl,rfl,rfl,rfl⟩:=hp.open;have HU:=hok.oy;refine bU [] (fn:=Tryz.f59) Tryz.func59 rfl Tryz.ntmps59 rfl fun g1 w1 M1=>lb 0<|an rfl<|an (fun h M=>⟨?_,M.below⟩) fun h=>?_
 ·simp only[decide_eq_true_eq] at h;unfold bP;rw[if_pos (by omega)];rfl
 simp only[decide_eq_false_iff_not] at h;have hr:¬ 1024<p.ak.length:=by omega
 have aaW:∀ v:Int,ah (xE p) p.ak.length 0=v→v≠0→bP p=v:=fun v h1 h2=>by unfold bP;rw[if_neg hr,if_neg (by rw[h1];exact h2),h1]
 refine lr (ι:=Nat) (fun m=>[(3,.int .i64 (m:Int))]) (fun i _=>i≤p.ak.length∧ah (xE p) p.ak.length 0=ah (xE p) (p.ak.length-i) i) (fun i=>p.ak.length-i) 0 (an ⟨⟨rfl,trivial⟩,fun M=>⟨M,ajW _,by rw[Nat.sub_zero]⟩⟩ ?_);rintro i w M ⟨hi,hinv⟩;refine lb 0<|an rfl<|an (fun h2=>?_) fun h2=>?_
 ·simp only[decide_eq_true_eq] at h2;have hlz:i<p.ak.length:=by omega
  obtain⟨b,o,e,hc⟩:=SliceAt.elt (i:=i) hp.ak (fun _=>rfl) (by decide) (ajV hlz) hlz;have Ji:=hok.ak p.ak[i] (List.getElem_mem hlz);have hcf:xE p i=O9 p.types.length p.classes.length p.roles.length p.ak[i]:=by unfold xE;rw[ajV hlz]
  generalize p.ak[i]=z at hc Ji hcf
  have out:∀ v:Int,O9 p.types.length p.classes.length p.roles.length z=v→v≠0→Ending.returned (AX [.int .i64 v])=.returned (.int .i64 (bP p)):=fun v h1 h2=>by
   have e:ah (xE p) p.ak.length 0=v:=by rw[hinv,aV hlz (by rw[hcf,h1];exact h2),hcf,h1]
   rw[aaW _ e h2];rfl
  unfold O9 at out hcf;refine lb 0<|an rfl<|ia<|an ⟨e,rfl,hlz⟩<|lc<|an (cL M.below hc)<|ei<|an Ck fun g3 w3 M3=>lb 0<|an ⟨rfl,rfl⟩ fun w4 M4=>?_
  refine dr (by kernel_rfl)<|lb 0<|an rfl<|ei (x:=.agg #[.int .u64 0,.int .u64 0,.int .u64 0,.int .u64 0])<|an (bd (by kernel_rfl))<|ei<|an ⟨zx,fun w=>g_ z.roles w⟩<|lb 1<|an rfl<|lb 0<|an rfl<|cl<|an (fun w' hb' M'=>j7 w' _ _ _ _ _ _ _ _ _ _ _ _ _ _ _ _ _ p (hp.keep M'.below) hok z.roles Ji.roles) fun w5 ze M5=>?_
  refine lb 0<|an rfl<|lb 1<|an rfl<|cl<|an (gG _ z.types Ji.types _ HU) fun w6 Mw6=>lb 0<|an (fun _=>rfl)<|lb 1<|an (fun _=>rfl)<|cl<|an (fun _=>gX _ _ _) fun w7 Mw7=>lb 0<|an (fun _=>rfl)<|lb 1<|an (fun _=>rfl)<|cl<|an (fun _=>gX _ _ _) fun w8 Mw8=>lb 0<|an (fun _=>rfl)<|an (fun h3 M=>⟨out 3 ?_ (by decide),M.below⟩) fun h3=>an (fun h4 M=>⟨out 2 ?_ (by decide),M.below⟩) fun h4=>an (by omega)<|bk (i+1) ⟨rfl,trivial⟩ (fun M=>⟨M.only (.cons _ (.refl _)) (.refl _),by omega,hinv.trans (aM hlz ?_)⟩) (by dsimp only;omega)
  all_goals first|(rw[hcf];clear out hcf)|clear out hcf
  all_goals cases h5:lN p.roles.length z.roles<;>cases h6:z.types.within (aq.all p.types.length)<;>cases h7:aE z.cls (p.classes.length:Int)<;>cases h8:aE z.res (p.roles.length:Int)<;>by_cases h9:z.res=0<;>by_cases h10:z.roles=aq.zero<;>cases h11:bD z.types<;>simp_all
 simp only[decide_eq_false_iff_not] at h2;obtain rfl:i=p.ak.length:=by omega
 rw[Nat.sub_self] at hinv;replace hinv:ah (xE p) p.ak.length 0=0:=hinv;have hz:=hinv;refine lb 0<|an rfl<|an (fun h M=>⟨?_,M.below⟩) fun h=>?_
 ·simp only[decide_eq_true_eq] at h;unfold bP;rw[if_neg hr,if_pos hz,if_pos (by omega)];rfl
 simp only[decide_eq_false_iff_not] at h;have hg:¬ 1024<p.ranges.length:=by omega
 have Xu:bP p=ah (CP p) p.ranges.length 0:=by unfold bP;rw[if_neg hr,if_pos hz,if_neg hg]
 have aaV:∀ v:Int,ah (CP p) p.ranges.length 0=v→v≠0→bP p=v:=fun v h1 _=>Xu.trans h1
 clear hinv h2;refine lr (ι:=Nat) (fun m=>[(9,.int .i64 (m:Int))]) (fun i _=>i≤p.ranges.length∧ah (CP p) p.ranges.length 0=ah (CP p) (p.ranges.length-i) i) (fun i=>p.ranges.length-i) 0 (an ⟨⟨rfl,trivial⟩,fun M=>⟨M,ajW _,by rw[Nat.sub_zero]⟩⟩ ?_);rintro i w M ⟨hi,hinv⟩;refine lb 0<|an rfl<|an (fun h2=>?_) fun h2=>?_
 ·simp only[decide_eq_true_eq] at h2;have hlz:i<p.ranges.length:=by omega
  obtain⟨b,o,e,hc⟩:=SliceAt.elt (i:=i) hp.ranges (fun _=>rfl) (by decide) (ajV hlz) hlz;have Ji:=hok.ranges p.ranges[i] (List.getElem_mem hlz);have hcf:CP p i=O_ p.types.length p.classes.length p.ay.length p.cats.length p.ranges[i]:=by unfold CP;rw[ajV hlz]
  generalize p.ranges[i]=z at hc Ji hcf
  have out:∀ v:Int,O_ p.types.length p.classes.length p.ay.length p.cats.length z=v→v≠0→Ending.returned (AX [.int .i64 v])=.returned (.int .i64 (bP p)):=fun v h1 h2=>by
   have e:ah (CP p) p.ranges.length 0=v:=by rw[hinv,aV hlz (by rw[hcf,h1];exact h2),hcf,h1]
   rw[aaV _ e h2];rfl
  unfold O_ at out hcf;refine lb 0<|an rfl<|ia<|an ⟨e,rfl,hlz⟩<|lc<|an (cL M.below hc)<|ei<|an Cj fun g3 w3 M3=>lb 0<|an ⟨rfl,rfl⟩ fun w4 M4=>?_
  refine lb 0<|an rfl<|lb 1<|an rfl<|cl<|an (gG _ z.src Ji.src _ HU) fun w5 Mw5=>lb 0<|an rfl<|lb 1<|an rfl<|cl<|an (gG _ z.tgt Ji.tgt _ HU) fun w6 Mw6=>lb 0<|an (fun _=>rfl)<|lb 1<|an (fun _=>rfl)<|cl<|an (fun _=>gX _ _ _) fun w7 Mw7=>an (fun h3 M=>⟨out 3 ?_ (by decide),M.below⟩) fun h3=>an (fun h4 M=>⟨out 2 ?_ (by decide),M.below⟩) fun h4=>lb 1<|an rfl<|lb 0<|an rfl<|cl<|an (t_ _ _ _ _ _ _ _ _ _ _ _ _ _ _ _ _ _ _ p (hp.keep Mw7.below) z.rng Ji.rng) fun w8 M8=>an (fun h5 M=>⟨out 18 ?_ (by decide),M.below⟩) fun h5=>an (by omega)<|bk (i+1) ⟨rfl,trivial⟩ (fun M=>⟨M.only (.cons _ (.refl _)) (.refl _),by omega,hinv.trans (aM hlz ?_)⟩) (by dsimp only;omega)
  all_goals first|(rw[hcf];clear out hcf)|clear out hcf
  all_goals cases h6:z.src.within (aq.all p.types.length)<;>cases h7:z.tgt.within (aq.all p.types.length)<;>cases h8:aE z.cls (p.classes.length:Int)<;>cases h9:bD z.src<;>cases h10:bD z.tgt<;>cases h11:iJ p.ay.length p.cats.length z.rng<;>simp_all
 simp only[decide_eq_false_iff_not] at h2;obtain rfl:i=p.ranges.length:=by omega
 rw[Nat.sub_self] at hinv;exact fun M=>⟨by rw[Xu,hinv];rfl,M.below⟩
def ni(before:List ByteArray)(y:jU):Int:=
 if aP [y.name] before=0 then (if 32<y.perms.length then 4 else if y.perms.length=0 then 2 else aP y.perms []) else aP [y.name] before
def jm(p:aA)(i:Nat):Int:=match p.classes[i]? with
 | some y=>ni ((p.classes.take i).map (·.name)) y
 | none=>0
def bF(p:aA):Int:=if 32<p.classes.length then 4 else ah (jm p) p.classes.length 0
theorem DX(w0:World)(c0 c1 c2 c3 c4 c5 c6 c7 c8 c9 c10 c11 c12 c13 c14 c15 c16:Value)(p:aA)(hp:aD w0 c0 c1 c2 c3 c4 c5 c6 c7 c8 c9 c10 c11 c12 c13 c14 c15 c16 p)(hok:p.Ok):Calls Tryz.prog 52 #[.agg #[c0,c1,c2,c3,c4,c5,c6,c7,c8,c9,c10,c11,c12,c13,c14,c15,c16]] w0 (RI w0 (bF p)):=by
 obtain⟨_,_,_,_,_,_,_,_,_,_,_,_,_,_,_,_,_,_,_,_,_,_,_,_,_,_,_,_,_,_,_,_,_,_,rfl,rfl,rfl,rfl,rfl,rfl,rfl,rfl,rfl,rfl,rfl,rfl,rfl,rfl,rfl,rfl,rfl⟩:=hp.open;refine bU [] (fn:=Tryz.f52) Tryz.func52 rfl Tryz.ntmps52 rfl<|fun g1 w1 M1=>lb 0<|an rfl<|an (fun h M=>⟨ri (by unfold bF;rw[if_pos (by simp at h;omega)]),M.below⟩) fun h=>?_
 have hr:¬ 32<p.classes.length:=by simp at h;omega
 rw[show bF p=ah (jm p) p.classes.length 0 from if_neg hr];refine lq (ι:=Nat×Value) (fun(m,u)=>[(3,u),(4,.int .i64 (m:Int))]) (fun(m,u)=>[⟨u,9,1,m,((p.classes.take m).map (·.name)).flatMap aO⟩]) (fun(m,u) _=>m≤p.classes.length∧ah (jm p) p.classes.length 0=ah (jm p) (p.classes.length-m) m) (fun(m,u)=>p.classes.length-m) (0,.slice none 0 0) (an ⟨⟨rfl,rfl,trivial⟩,fun M=>⟨M.bE 9 1,ajW _,by rw[Nat.sub_zero]⟩⟩ ?_);rintro⟨m,u⟩ w M ⟨hm,hinv⟩;refine lb 0<|an rfl<|an (fun h2=>?_) fun h2 M=>⟨ri (by rw[hinv,show m=p.classes.length by simp at h2;omega,aT]),M.below⟩
 have hlt:m<p.classes.length:=by simp at h2;omega
 obtain⟨y,hy⟩:∃ y,p.classes[m]?=some y:=⟨_,ajV hlt⟩;have fq:=hok.classes y (ajZ hy);obtain⟨b,o,_,e,⟨v,rfl,hv⟩,hc⟩:=au.elt hp.classes (by decide) hy;obtain⟨va,vc,rfl,-⟩:=aJ.get hv;have hcf:jm p m=ni ((p.classes.take m).map (·.name)) y:=by unfold jm;rw[hy]
 have out:∀ v:Int,ni ((p.classes.take m).map (·.name)) y=v→v≠0→ah (jm p) p.classes.length 0=v:=fun v h1 h2=>by rw[hinv,aV hlt (by rw[hcf,h1];exact h2),hcf,h1]
 unfold ni at hcf out;refine lb 0<|an rfl<|ia<|an ⟨e,rfl,hlt⟩<|lc<|an (cL M.below hc)<|ei<|an GP fun g2 w2 M2=>lb 0<|an ⟨rfl,rfl⟩ fun w3 M3=>lb 0<|an rfl<|fun g3 w4 M4=>cl<|an (eY _ _ _ [y.name] ((p.classes.take m).map (·.name)) (M4.slice 0 rfl rfl rfl (by simp[maxLen])) (cP (M4.r 0 rfl) (by simp;omega) rfl) (by simpa using fq.name)) fun w5 M5=>an (fun h3 M=>⟨ri (out _ (if_neg (by simpa using h3)) (by simpa using h3)),M.below⟩) fun h3=>?_
 replace h3:aP [y.name] ((p.classes.take m).map (·.name))=0:=by simpa using h3
 rw[if_pos h3] at hcf out;refine lb 1<|an rfl<|fun g4 w6 M6=>ap 0 id rfl (M6.slice 0 rfl rfl rfl (by simp[maxLen])) ⟨by unfold maxLen;omega,by omega⟩ fun v5 w7 M7=>lb 2<|an rfl<|an (fun h4 M=>⟨ri (out _ (if_pos (by simp at h4;omega)) (by decide)),M.below⟩) fun h4=>?_
 rw[if_neg (by simp at h4;omega)] at hcf out;refine lb 2<|an rfl<|an (fun h5 M=>⟨ri (out _ (if_pos (by simp at h5;simp[h5])) (by decide)),M.below⟩) fun h5=>?_
 rw[if_neg (by simp at h5;simp[h5])] at hcf out;exact lb 2<|an rfl<|cl<|an (eY _ _ _ y.perms [] (hv.keep M7.below) (SliceAt.nil _ _) fq.perms.all) fun w8 M8=>an (fun h6 M=>⟨ri (out _ rfl (by simpa using h6)),M.below⟩) fun h6=>an (by omega)<|bk (m+1,v5) ⟨rfl,rfl,trivial⟩ (fun M=>⟨(M.only (.cons _ (.cons _ (.cons _ (.refl _)))) (.refl _)).cast rfl (by dsimp only;rw[i_ hy]),by omega,hinv.trans (aM hlt (by rw[hcf];simpa using h6))⟩) (by dsimp only;omega)
def su(nR nS nC:Nat)(before:List ByteArray)(y:jr):Int:=
 if aP [y.name] before=0 then
  (if lN nR y.roles=false then 3
   else if iJ nS nC y.rng=false then 18 else if ji nS nC y.dflt=false then 18
   else if kN y.rng.high y.dflt=false then 18 else if kN y.dflt y.rng.low=false then 18 else 0)
 else aP [y.name] before
def mK(p:aA)(i:Nat):Int:=match p.users[i]? with
 | some y=>su p.roles.length p.ay.length p.cats.length ((p.users.take i).map (·.name)) y
 | none=>0
def fF(p:aA):Int:=if 32<p.users.length then 4 else ah (mK p) p.users.length 0
theorem IE(w0:World)(c0 c1 c2 c3 c4 c5 c6 c7 c8 c9 c10 c11 c12 c13 c14 c15 c16:Value)(p:aA)(hp:aD w0 c0 c1 c2 c3 c4 c5 c6 c7 c8 c9 c10 c11 c12 c13 c14 c15 c16 p)(hok:p.Ok):Calls Tryz.prog 55 #[.agg #[c0,c1,c2,c3,c4,c5,c6,c7,c8,c9,c10,c11,c12,c13,c14,c15,c16]] w0 (RI w0 (fF p)):=by
 obtain⟨_,_,_,_,_,_,_,_,_,_,_,_,_,_,_,_,_,_,_,_,_,_,_,_,_,_,_,_,_,_,_,_,_,_,rfl,rfl,rfl,rfl,rfl,rfl,rfl,rfl,rfl,rfl,rfl,rfl,rfl,rfl,rfl,rfl,rfl⟩:=hp.open;refine bU [] (fn:=Tryz.f55) Tryz.func55 rfl Tryz.ntmps55 rfl<|fun g1 w1 M1=>lb 0<|an rfl<|an (fun h M=>⟨ri (by unfold fF;rw[if_pos (by simp at h;omega)]),M.below⟩) fun h=>?_
 have hr:¬ 32<p.users.length:=by simp at h;omega
 rw[show fF p=ah (mK p) p.users.length 0 from if_neg hr];refine lq (ι:=Nat×Value) (fun(m,u)=>[(3,u),(4,.int .i64 (m:Int))]) (fun(m,u)=>[⟨u,9,1,m,((p.users.take m).map (·.name)).flatMap aO⟩]) (fun(m,u) _=>m≤p.users.length∧ah (mK p) p.users.length 0=ah (mK p) (p.users.length-m) m) (fun(m,u)=>p.users.length-m) (0,.slice none 0 0) (an ⟨⟨rfl,rfl,trivial⟩,fun M=>⟨M.bE 9 1,ajW _,by rw[Nat.sub_zero]⟩⟩ ?_);rintro⟨m,u⟩ w M ⟨hm,hinv⟩;refine lb 0<|an rfl<|an (fun h2=>?_) fun h2 M=>⟨ri (by rw[hinv,show m=p.users.length by simp at h2;omega,aT]),M.below⟩
 have hlt:m<p.users.length:=by simp at h2;omega
 obtain⟨y,hy⟩:∃ y,p.users[m]?=some y:=⟨_,ajV hlt⟩;have fq:=hok.users y (ajZ hy);obtain⟨b,o,e,hc⟩:=SliceAt.elt hp.users (fun _=>rfl) (by decide) hy hlt;have hcf:mK p m=su p.roles.length p.ay.length p.cats.length ((p.users.take m).map (·.name)) y:=by unfold mK;rw[hy]
 have out:∀ v:Int,su p.roles.length p.ay.length p.cats.length ((p.users.take m).map (·.name)) y=v→v≠0→ah (mK p) p.users.length 0=v:=fun v h1 h2=>by rw[hinv,aV hlt (by rw[hcf,h1];exact h2),hcf,h1]
 unfold su at hcf out;refine lb 0<|an rfl<|ia<|an ⟨e,rfl,hlt⟩<|lc<|an (cL M.below hc)<|ei<|an zF fun g2 w2 M2=>lb 0<|an ⟨rfl,rfl⟩ fun w3 M3=>lb 0<|an rfl<|fun g3 w4 M4=>cl<|an (eY _ _ _ [y.name] ((p.users.take m).map (·.name)) (M4.slice 0 rfl rfl rfl (by simp[maxLen])) (cP (M4.r 0 rfl) (by simp;omega) rfl) (by simpa using fq.name)) fun w5 M5=>an (fun h3 M=>⟨ri (out _ (if_neg (by simpa using h3)) (by simpa using h3)),M.below⟩) fun h3=>?_
 replace h3:aP [y.name] ((p.users.take m).map (·.name))=0:=by simpa using h3
 rw[if_pos h3] at hcf out;refine lb 1<|an rfl<|fun g4 w6 M6=>ap 0 id rfl (M6.slice 0 rfl rfl rfl (by simp[maxLen])) ⟨by unfold maxLen;omega,by omega⟩ fun v5 w7 M7=>lb 3<|an rfl<|lb 2<|an rfl<|cl<|an (j7 _ _ _ _ _ _ _ _ _ _ _ _ _ _ _ _ _ _ p (hp.keep M7.below) hok y.roles fq.roles) fun w8 M8=>an (fun h4 M=>⟨ri (out 3 (if_pos (by simpa using h4)) (by decide)),M.below⟩) fun h4=>?_
 rw[if_neg (by simpa using h4)] at hcf out;refine lb 3<|an rfl<|lb 2<|an rfl<|cl<|an (t_ _ _ _ _ _ _ _ _ _ _ _ _ _ _ _ _ _ _ p (hp.keep M8.below) y.rng fq.rng) fun w9 M9=>lb 3<|an (fun _=>rfl)<|lb 2<|an (fun _=>rfl)<|cl<|an (fun _=>uh _ _ _ _ _ _ _ _ _ _ _ _ _ _ _ _ _ _ p (hp.keep M9.below) y.dflt fq.dflt) fun pE jH=>lb 2<|an (fun _=>rfl)<|lb 2<|an (fun _=>rfl)<|cl<|an (fun _=>tL _ y.rng.high y.dflt fq.rng.high fq.dflt) fun uO M11=>lb 2<|an (fun _=>rfl)<|lb 2<|an (fun _=>rfl)<|cl<|an (fun _=>tL _ y.dflt y.rng.low fq.dflt fq.rng.low) fun zi q5=>an (fun h5 M=>⟨ri (out 18 ?_ (by decide)),M.below⟩) fun h5=>an (by omega)<|bk (m+1,v5) ⟨rfl,rfl,trivial⟩ (fun M=>⟨(M.only (.cons _ (.cons _ (.cons _ (.refl _)))) (.refl _)).cast rfl (by dsimp only;rw[i_ hy]),by omega,hinv.trans (aM hlt ?_)⟩) (by dsimp only;omega)
 all_goals first|(rw[hcf];clear hcf out)|clear hcf out
 all_goals cases h6:iJ p.ay.length p.cats.length y.rng<;>cases h7:ji p.ay.length p.cats.length y.dflt<;>cases h8:kN y.rng.high y.dflt<;>cases h9:kN y.dflt y.rng.low<;>simp_all
def BW(nU nR nT:Nat)(cl:List jU)(y:lF):Int:=
 if h_ cl y.cls y.perms=false then 3 else if ¬ y.val=decide (y.perms=0) then 2 else eA nU nR nT y.val y.expr
def qW(p:aA)(i:Nat):Int:=match p.cons[i]? with
 | some y=>BW p.users.length p.roles.length p.types.length p.classes y
 | none=>0
def jO(p:aA):Int:=if 64<p.cons.length then 4 else ah (qW p) p.cons.length 0
theorem vE(w:World)(c0 c1 c2 c3 c4 c5 c6 c7 c8 c9 c10 c11 c12 c13 c14 c15 c16:Value)(p:aA)(hp:aD w c0 c1 c2 c3 c4 c5 c6 c7 c8 c9 c10 c11 c12 c13 c14 c15 c16 p)(hok:p.Ok):Calls Tryz.prog 60 #[.agg #[c0,c1,c2,c3,c4,c5,c6,c7,c8,c9,c10,c11,c12,c13,c14,c15,c16]] w fun e w'=>e=.returned (.int .i64 (jO p))∧ajY w.heap.size w w':=by
 obtain⟨_,_,_,_,_,_,_,_,_,_,_,_,_,_,_,_,_,_,_,_,_,_,_,_,_,_,_,_,_,_,_,_,_,_,rfl,rfl,rfl,rfl,rfl,rfl,rfl,rfl,rfl,rfl,rfl,rfl,rfl,rfl,rfl,rfl,rfl⟩:=hp.open;refine bU [] (fn:=Tryz.f60) Tryz.func60 rfl Tryz.ntmps60 rfl<|fun g1 w1 M1=>lb 0<|an rfl<|an (fun h M=>⟨ri (by unfold jO;rw[if_pos (by simp at h;omega)]),M.below⟩) fun h=>?_
 have hr:¬ 64<p.cons.length:=by simp at h;omega
 rw[show jO p=ah (qW p) p.cons.length 0 from if_neg hr];refine lr (ι:=Nat) (fun m=>[(3,.int .i64 (m:Int))]) (fun m _=>m≤p.cons.length∧ah (qW p) p.cons.length 0=ah (qW p) (p.cons.length-m) m) (fun m=>p.cons.length-m) 0 (an ⟨⟨rfl,trivial⟩,fun M=>⟨M,ajW _,by rw[Nat.sub_zero]⟩⟩ ?_);rintro m w2 M ⟨hm,hinv⟩;refine lb 0<|an rfl<|an (fun h2=>?_) fun h2 M=>⟨ri (by rw[hinv,show m=p.cons.length by simp at h2;omega,aT]),M.below⟩
 have hlt:m<p.cons.length:=by simp at h2;omega
 obtain⟨y,hy⟩:∃ y,p.cons[m]?=some y:=⟨_,ajV hlt⟩;have fq:=hok.cons y (ajZ hy);obtain⟨b,o,_,e,⟨_,rfl,hE⟩,hc⟩:=au.elt hp.cons (by decide) hy;obtain⟨nv,kv,rfl,hn,hk⟩:=hE.open;obtain⟨_,_,rfl,-⟩:=aJ.get hn;obtain⟨_,_,rfl,-⟩:=au.form hk (by decide);have hcf:qW p m=BW p.users.length p.roles.length p.types.length p.classes y:=by unfold qW;rw[hy]
 have out:∀ v:Int,BW p.users.length p.roles.length p.types.length p.classes y=v→v≠0→ah (qW p) p.cons.length 0=v:=fun v h1 h2=>by rw[hinv,aV hlt (by rw[hcf,h1];exact h2),hcf,h1]
 unfold BW at hcf out;refine lb 0<|an rfl<|ia<|an ⟨e,rfl,hlt⟩<|lc<|an (cL M.below hc)<|ei<|an KM fun g2 w2 M2=>lb 0<|an ⟨rfl,rfl⟩ fun w3 M3=>lb 1<|an rfl<|lb 0<|an rfl<|lb 0<|an rfl<|cl<|an (wR _ _ _ _ _ _ _ _ _ _ _ _ _ _ _ _ _ _ p (hp.keep M3.below) y.cls y.perms fq.perms) fun w4 M4=>an (fun h3 M=>⟨ri (out 3 (if_pos (by simpa using h3)) (by decide)),M.below⟩) fun h3=>?_
 rw[if_neg (by simpa using h3)] at hcf out;refine lb 0<|an rfl<|lb 0<|an rfl<|an (fun h4 M=>⟨ri (out 2 (if_pos (by simpa using h4)) (by decide)),M.below⟩) fun h4=>?_
 rw[if_neg (by simpa using h4)] at hcf out;exact lb 1<|an rfl<|lb 0<|an rfl<|lb 0<|an rfl<|cl<|an (yX y.expr fq.expr _ _ _ _ _ _ _ _ _ _ _ _ _ _ _ _ _ _ _ p (hp.keep M4.below) hok (hE.keep M4.below) y.val) fun w5 M5=>an (fun h5 M=>⟨ri (out _ rfl (by simpa using h5)),M.below⟩) fun h5=>an (by omega)<|bk (m+1) ⟨rfl,trivial⟩ (fun M=>⟨M.only (.cons _ (.refl _)) (.refl _),by omega,hinv.trans (aM hlt (by rw[hcf];simpa using h5))⟩) (by dsimp only;omega)
def fJ(p:aA):Int:=
 if 16<p.bools.length then 4
 else if ¬ aP (p.bools.map (·.name)) []=0 then aP (p.bools.map (·.name)) []
 else if 16<p.ay.length then 4
 else if ¬ aP p.ay []=0 then aP p.ay []
 else if 64<p.cats.length then 4
 else aP p.cats []
theorem E_(w:World)(c0 c1 c2 c3 c4 c5 c6 c7 c8 c9 c10 c11 c12 c13 c14 c15 c16:Value)(p:aA)(hp:aD w c0 c1 c2 c3 c4 c5 c6 c7 c8 c9 c10 c11 c12 c13 c14 c15 c16 p)(hok:p.Ok):Calls Tryz.prog 56 #[.agg #[c0,c1,c2,c3,c4,c5,c6,c7,c8,c9,c10,c11,c12,c13,c14,c15,c16]] w fun e w'=>e=.returned (.int .i64 (fJ p))∧ajY w.heap.size w w':=by
 obtain⟨_,_,_,_,_,_,_,_,_,_,_,_,_,_,_,_,_,_,_,_,_,_,_,_,_,_,_,_,_,_,_,_,_,_,rfl,rfl,rfl,rfl,rfl,rfl,rfl,rfl,rfl,rfl,rfl,rfl,rfl,rfl,rfl,rfl,rfl⟩:=hp.open;refine bU [] (fn:=Tryz.f56) Tryz.func56 rfl Tryz.ntmps56 rfl<|fun g1 w1 M1=>lb 0<|an rfl<|an (fun h M=>⟨ri (if_pos (by simp at h;omega)),M.below⟩) fun h=>?_
 have hr:¬ 16<p.bools.length:=by simp at h;omega
 refine lq (ι:=Nat×Value) (fun(m,u)=>[(3,u),(4,.int .i64 (m:Int))]) (fun(m,u)=>[⟨u,9,1,m,((p.bools.take m).map (·.name)).flatMap aO⟩]) (fun(m,u) _=>m≤p.bools.length) (fun(m,u)=>p.bools.length-m) (0,.slice none 0 0) (an ⟨⟨rfl,rfl,trivial⟩,fun M=>⟨M.bE 9 1,ajW _⟩⟩ ?_);rintro⟨m,u⟩ w2 M hm;refine lb 0<|an rfl<|an (fun h2=>?_) fun h2=>?_
 ·have hlt:m<p.bools.length:=by simp at h2;omega
  obtain⟨y,hy⟩:∃ y,p.bools[m]?=some y:=⟨_,ajV hlt⟩;obtain⟨b,o,e,hc⟩:=SliceAt.elt hp.bools (fun _=>rfl) (by decide) hy hlt;exact lb 0<|an rfl<|ia<|an ⟨e,rfl,hlt⟩<|lc<|an (cL M.below hc 0 _ rfl)<|fun g2 w2 M2=>ap 0 id rfl (M2.slice 0 rfl rfl rfl (by simp[maxLen])) ⟨by unfold maxLen;omega,by omega⟩ fun v3 w3 M3=>an (by omega)<|bk (m+1,v3) ⟨rfl,rfl,trivial⟩ (fun M=>⟨(M.only (.cons _ (.refl _)) (.refl _)).cast rfl (by dsimp only;rw[i_ hy]),by omega⟩) (by dsimp only;omega)
 obtain rfl:m=p.bools.length:=by simp at h2;omega
 have hM:fJ p=if ¬ aP (p.bools.map (·.name)) []=0 then aP (p.bools.map (·.name)) [] else if 16<p.ay.length then 4 else if ¬ aP p.ay []=0 then aP p.ay [] else if 64<p.cats.length then 4 else aP p.cats []:=if_neg hr
 refine cl<|an (eY _ _ _ (p.bools.map (·.name)) [] (cP (M.r 0 rfl) (by simp) (by rw[List.take_length])) (SliceAt.nil _ _) (fun s hs=>by obtain⟨y,hy,rfl⟩:=List.mem_map.1 hs;exact(hok.bools y hy).name)) fun w4 M4=>an (fun h3 M=>⟨ri (by rw[hM,if_pos (by simpa using h3)]),M.below⟩) fun h3=>?_
 rw[if_neg (by simpa using h3)] at hM;refine lb 0<|an rfl<|an (fun h4 M=>⟨ri (by rw[hM,if_pos (by simp at h4;omega)]),M.below⟩) fun h4=>?_
 rw[if_neg (by simp at h4;omega)] at hM;refine lb 0<|an rfl<|cl<|an (eY _ _ _ p.ay [] (hp.ay.keep M4.below) (SliceAt.nil _ _) hok.ay) fun w5 M5=>an (fun h5 M=>⟨ri (by rw[hM,if_pos (by simpa using h5)]),M.below⟩) fun h5=>?_
 rw[if_neg (by simpa using h5)] at hM;refine lb 0<|an rfl<|an (fun h6 M=>⟨ri (by rw[hM,if_pos (by simp at h6;omega)]),M.below⟩) fun h6=>?_
 rw[if_neg (by simp at h6;omega)] at hM;exact lb 0<|an rfl<|cl<|an (eY _ _ _ p.cats [] (hp.cats.keep M5.below) (SliceAt.nil _ _) hok.cats) fun w6 M6 M=>⟨ri hM,M.below⟩
def bg(p:aA):Int:=
 if mq [bF p,fG p,dG p]=0 then mq [fF p,fJ p,eI p,fH p,bP p,jO p,cF p,cT p] else mq [bF p,fG p,dG p]
theorem Nh{w:World}{l:List Int}{n:Nat}{u:Value}{w0:World}(h:Oj w0 43 n (l.map Aq) u w)(hn:n=l.length)(hm:l.length≤maxLen:=by simp[maxLen]):Calls Tryz.prog 51 #[u] w fun e w'=>e=.returned (.int .i64 (mq l))∧ajY w.heap.size w w':=by
 subst hn;obtain⟨g,rfl,hW,-⟩:=h;exact(J0 _ _ l (SliceAt.of_whole hW (by simp) (by simp[Aq,Value.oneCell']) hm)).mono fun _ _ ⟨h1,h2⟩=>⟨h1,h2▸Below.refl _ _⟩
theorem Ka(w0:World)(c0 c1 c2 c3 c4 c5 c6 c7 c8 c9 c10 c11 c12 c13 c14 c15 c16:Value)(p:aA)(hp:aD w0 c0 c1 c2 c3 c4 c5 c6 c7 c8 c9 c10 c11 c12 c13 c14 c15 c16 p)(hok:p.Ok)(za:p.XR):Calls Tryz.prog 23 #[.agg #[c0,c1,c2,c3,c4,c5,c6,c7,c8,c9,c10,c11,c12,c13,c14,c15,c16]] w0 (RI w0 (bg p)):=by
 refine bU [] (fn:=Tryz.f23) Tryz.func23 rfl Tryz.ntmps23 rfl<|fun g1 w1 M1=>dr (by kernel_rfl)<|lb 0<|an rfl<|cl<|an (fun w' hb M=>DX _ _ _ _ _ _ _ _ _ _ _ _ _ _ _ _ _ _ p (hp.keep M.below) hok)<|lb 0<|an rfl<|cl<|an (fun w' hb M=>II _ _ _ _ _ _ _ _ _ _ _ _ _ _ _ _ _ _ p (hp.keep M.below) hok za)<|lb 0<|an rfl<|cl<|an (fun w' hb M=>I_ _ _ _ _ _ _ _ _ _ _ _ _ _ _ _ _ _ _ p (hp.keep M.below) hok)<|br (Oj w1 43 3 ([bF p,fG p,dG p].map Aq))<|an xX<|an (fun w1 a o' hb M' hop oO=>bK (p:=fun _=>True) (kk:=1) (b:=8) (by kernel_rfl) rfl rfl (by decide) (by decide) (by simp[Value.cells]) rfl w1 a o' hb trivial hop oO)<|cu<|an (fun u _ w' hb' M' hR=>Nh hR rfl)<|fun w2 hb2 M2=>an (fun h M=>⟨ri (if_neg (by simpa using h)),M.below⟩) fun h=>?_
 rw[show bg p=mq [fF p,fJ p,eI p,fH p,bP p,jO p,cF p,cT p] from if_pos (by simpa using h)];exact dr (by kernel_rfl)<|lb 0<|an rfl<|cl<|an (fun w' hb M=>IE _ _ _ _ _ _ _ _ _ _ _ _ _ _ _ _ _ _ p (hp.keep M.below) hok)<|lb 0<|an rfl<|cl<|an (fun w' hb M=>E_ _ _ _ _ _ _ _ _ _ _ _ _ _ _ _ _ _ _ p (hp.keep M.below) hok)<|lb 0<|an rfl<|cl<|an (fun w' hb M=>I9 _ _ _ _ _ _ _ _ _ _ _ _ _ _ _ _ _ _ p (hp.keep M.below) hok)<|lb 0<|an rfl<|cl<|an (fun w' hb M=>IJ _ _ _ _ _ _ _ _ _ _ _ _ _ _ _ _ _ _ p (hp.keep M.below) hok)<|lb 0<|an rfl<|cl<|an (fun w' hb M=>D3 _ _ _ _ _ _ _ _ _ _ _ _ _ _ _ _ _ _ p (hp.keep M.below) hok)<|lb 0<|an rfl<|cl<|an (fun w' hb M=>vE _ _ _ _ _ _ _ _ _ _ _ _ _ _ _ _ _ _ p (hp.keep M.below) hok)<|lb 0<|an rfl<|cl<|an (fun w' hb M=>Fy _ _ _ _ _ _ _ _ _ _ _ _ _ _ _ _ _ _ p (hp.keep M.below) hok)<|lb 0<|an rfl<|cl<|an (fun w' hb M=>D6 _ _ _ _ _ _ _ _ _ _ _ _ _ _ _ _ _ _ p (hp.keep M.below) hok)<|br (Oj w2 43 8 ([fF p,fJ p,eI p,fH p,bP p,jO p,cF p,cT p].map Aq))<|an xX<|an (fun w1 a o' hb M' hop oO=>bK (p:=fun _=>True) (kk:=1) (b:=8) (by kernel_rfl) rfl rfl (by decide) (by decide) (by simp[Value.cells]) rfl w1 a o' hb trivial hop oO)<|cu<|an (fun u _ w' hb' M' hR=>Nh hR rfl)<|fun w3 eu M3 M=>⟨rfl,M.below⟩
theorem PW{s:ByteArray}(h:mg s=true):jR s:=by
 unfold mg pF at h;simp only[ajX,decide_eq_true_eq] at h;unfold jR;have:=h.1.2.2;omega
theorem Jr{l o:List ByteArray}(h:aP l o=0):∀ s∈l,mg s=true:=fun s hs=>by
 unfold aP at h;rw[jx] at h;obtain⟨i,hi⟩:=List.getElem?_of_mem hs;have:=h i (by omega) (by have:=(aj0.1 hi).1;omega);rw[qM hi] at this;split at this
 ·assumption
 ·exact absurd this (by decide)
theorem jL{l o:List ByteArray}(h:aP l o=0):∀ s∈l,jR s:=fun s hs=>PW (Jr h s hs)
theorem dO{α:Type}{l:List α}{f:Nat→Int}{g:Nat→α→Int}(hf:∀ i x,l[i]?=some x→f i=g i x){k:Nat}(h:ah f (l.length-k) k=0):∀ i x,k≤i→l[i]?=some x→g i x=0:=fun i x hk hi=>by
 rw[jx] at h;have hlt:=(aj0.1 hi).1;rw[← hf i x hi];exact h i hk (by omega)
theorem mD{i:Int}{n:Nat}(h:aE i (n:Int)=true)(hn:n≤4096):lJ i:=by
 unfold aE at h;rw[ajX,decide_eq_true_eq,decide_eq_true_eq] at h;exact⟨h.1,by omega⟩
inductive Gp:aI→Prop
 | name {a:Int}:lJ a→Gp (.node 1 a 0 0 [] pO [])
 | cmp {a r b:Int}:lJ a→lJ r→lJ b→Gp (.node 8 a r b [] pO [])
 | inn {a:Int} {s:aq}:lJ a→s.Ok→Gp (.node 9 a 0 0 [] s [])
 | not {x:aI}:Gp x→Gp (.node 2 0 0 0 [] pO [x])
 | two {op:Int} {x y:aI}:3≤op→op≤7→Gp x→Gp y→Gp (.node op 0 0 0 [] pO [x,y])
theorem z7{f:Nat→Int}:∀ {n i:Nat},i<n→f i≤jh f n
 | n+1,i,h=>by
  unfold jh;by_cases e:i=n
  ·subst e;exact Int.le_max_right _ _
  ·exact Int.le_trans (z7 (by omega)) (Int.le_max_left _ _)
theorem Dc(k:Nat)(e:aI):∃ f:Nat→Int,(∀ i x,e.kids[i]?=some x→f i=aY k x)∧aY (k+1) e=jh f e.kids.length+1:=by
 refine⟨_,?_,by unfold aY;rfl⟩;intro i x hi;simp only[hi]
theorem oK{k:Nat}{e x:aI}(h:aY (k+1) e≤k)(hx:x∈e.kids):∃ k',k=k'+1∧aY (k'+1) x≤k':=by
 obtain⟨f,hf,he⟩:=Dc k e;rw[he] at h;obtain⟨i,hi⟩:=List.getElem?_of_mem hx;have h1:=z7 (f:=f) (aj0.1 hi).1;rw[hf i x hi] at h1;have h2:=fW f e.kids.length
 cases k with
 | zero=>omega
 | succ k'=>exact⟨k',rfl,by omega⟩
theorem oJ(e:aI)(k:Nat)(h:aY (k+1) e≤k):∃ k',k=k'+1:=by
 obtain⟨f,-,he⟩:=Dc k e;have h2:=fW f e.kids.length;exact⟨k-1,by omega⟩
theorem Gp.levels{e:aI}(h:Gp e):∀ k:Nat,aY (k+1) e≤k→qz k e:=by
 induction h with
 | name ha=>intro k hk;obtain⟨k',rfl⟩:=oJ _ _ hk;exact .name ha
 | cmp ha hr hb=>intro k hk;obtain⟨k',rfl⟩:=oJ _ _ hk;exact .cmp ha hr hb
 | inn ha hs=>intro k hk;obtain⟨k',rfl⟩:=oJ _ _ hk;exact .inn ha hs
 | @not x _ ih=>
  intro k hk;obtain⟨k',rfl,h1⟩:=oK (x:=x) hk (by simp[aI.kids]);exact .not (ih k' h1)
 | @two op x y h3 h7 _ _ Dt ihy=>
  intro k hk;obtain⟨k',rfl,h1⟩:=oK (x:=x) hk (by simp[aI.kids]);obtain⟨k2,e2,h2⟩:=oK (x:=y) hk (by simp[aI.kids]);obtain rfl:k'=k2:=by omega
  exact .two h3 h7 (Dt k' h1) (ihy k' h2)
theorem CG{n:Nat}(hn:n≤4096):∀ e:aI,mA n e=0→Gp e
 | .node op a rel b names set kids,h=>by
  have ih:∀ k∈kids,mA n k=0→Gp k:=fun k hk=>CG hn k
  rw[tM] at h
  cases hb:kC (.node op a rel b names set kids) with
  | true=>rw[hb] at h;simp at h
  | false=>
   rw[hb,if_neg (by decide)] at h
   cases h1:(decide (op=1)&&!aE a (n:Int)) with
   | true=>rw[show(decide ((aI.node op a rel b names set kids).op=1)&&!aE (aI.node op a rel b names set kids).a (n:Int))=true from h1] at h;simp at h
   | false=>
    rw[show(decide ((aI.node op a rel b names set kids).op=1)&&!aE (aI.node op a rel b names set kids).a (n:Int))=false from h1,if_neg (by decide)] at h;replace h:mB n kids=0:=h;unfold kC at hb;simp only[Bool.or_eq_false_iff,Bool.not_eq_false',aI.op,aI.kids,aI.rel,aI.b,aI.names,aI.set,aI.a] at hb;obtain⟨⟨⟨⟨⟨⟨⟨q8,q9⟩,qkl⟩,hrel⟩,gZ⟩,qnm⟩,hset⟩,qA⟩:=hb;have n8:¬ op=8:=of_decide_eq_false q8;have n9:¬ op=9:=of_decide_eq_false q9;have hkl:dh op=(kids.length:Int):=of_decide_eq_true qkl;have hnm:¬ 0<(names.length:Int):=of_decide_eq_false qnm;have hrel':rel=0:=of_decide_eq_true hrel;have aaB:b=0:=of_decide_eq_true gZ;have Wo:set=aq.zero:=of_decide_eq_true hset
    have hA:op=1∨a=0:=by
     rw[Bool.and_eq_false_iff,Bool.not_eq_false',Bool.not_eq_false'] at qA;exact qA.imp (fun h=>of_decide_eq_true h) fun h=>of_decide_eq_true h
    clear q8 q9 qkl hrel gZ qnm hset qA;subst hrel' aaB Wo;obtain rfl:names=[]:=List.eq_nil_of_length_eq_zero (by omega)
    have two:3≤op→op≤7→Gp (.node op a 0 0 [] aq.zero kids):=fun h3 h7=>by
     have ha:a=0:=hA.resolve_left (by omega);subst ha
     have hk2:dh op=2:=by
      have e:op=3∨op=4∨op=5∨op=6∨op=7:=by omega
      rcases e with rfl|rfl|rfl|rfl|rfl<;>rfl
     rw[hk2] at hkl
     match kids,h,hkl,ih with
     | [k,l],h,_,ih=>
      unfold mB at h;split at h
      ·rename_i hk;unfold mB at h;split at h
       ·rename_i hl;exact .two h3 h7 (ih k (by simp) hk) (ih l (by simp) hl)
       ·rename_i hl;exact absurd h hl
      ·rename_i hk;exact absurd h hk
    by_cases e1:op=1
    ·subst e1;have hk0:kids=[]:=List.eq_nil_of_length_eq_zero (by have:dh 1=0:=rfl;omega);subst hk0;rw[decide_eq_true rfl,Bool.true_and,Bool.not_eq_false'] at h1;exact .name (mD h1 hn)
    by_cases e2:op=2
    ·subst e2;have ha:a=0:=hA.resolve_left (by omega);subst ha;have hk1:dh 2=1:=rfl;rw[hk1] at hkl
     match kids,h,hkl,ih with
     | [k],h,_,ih=>
      unfold mB at h;split at h
      ·rename_i hk;exact .not (ih k (by simp) hk)
      ·rename_i hk;exact absurd h hk
    by_cases e3:3≤op∧op≤7
    ·exact two e3.1 e3.2
    exfalso
    have hm:dh op<0:=by
     unfold dh;rw[if_neg e1,if_neg n8,if_neg n9,if_neg e2,if_neg (by omega),if_neg (by omega),if_neg (by omega),if_neg (by omega),if_neg (by omega)];decide
    omega
 termination_by e=>SizeOf.sizeOf e
 decreasing_by
  have:=List.sizeOf_lt_of_mem hk;simp only[aI.node.sizeOf_spec];omega
theorem Af{nU nR nT N:Nat}:∀ l:List aI,mT nU nR nT N l=0→∀ k∈l,iU nU nR nT N k=0
 | [],_,k,hk=>by cases hk
 | x::l,h,k,hk=>by
  rw[mT] at h;split at h
  ·rename_i hx;rcases List.mem_cons.1 hk with rfl|hk
   ·exact hx
   ·exact Af l h k hk
  ·rename_i hx;exact absurd h hx
theorem xw{nU nR nT N:Nat}(hN:N≤4096):∀ e:aI,e.Ok→iU nU nR nT N e=0→Gp e
 | .node op a rel b names set kids,hok,h=>by
  have ih:∀ k∈kids,iU nU nR nT N k=0→Gp k:=fun k hk=>xw hN k (by cases hok with|node _ _ _ _ _ _ _ h=>exact h k hk)
  have ZN:set.Ok:=by cases hok;assumption
  cases hs:eD nU nR nT N (.node op a rel b names set kids) with
  | some r=>
   rw[mw hs] at h;subst h;unfold eD at hs;split at hs
   ·cases hs
   rename_i hf;have hf:ez (.node op a rel b names set kids)=true:=by simpa using hf
   split at hs
   ·rename_i h8;have h8:op=8:=h8;subst h8;have hc:=aj1 hs;unfold gV at hc;unfold ez at hf;rw[if_neg (by show ¬ ((8:Int)=2∨(8:Int)=3∨(8:Int)=4);decide),if_pos (by rfl)] at hf;simp only[ajX,aI.kids,aI.names,aI.set] at hf;obtain⟨⟨qk,qn⟩,qs⟩:=hf;have hk:(kids.length:Int)=0:=of_decide_eq_true qk;have hn:(names.length:Int)=0:=of_decide_eq_true qn;have hs0:set=aq.zero:=of_decide_eq_true qs;clear qk qn qs;subst hs0;obtain rfl:kids=[]:=List.eq_nil_of_length_eq_zero (by omega);obtain rfl:names=[]:=List.eq_nil_of_length_eq_zero (by omega);split at hc
    ·cases hc
    rename_i ha;split at hc
    ·cases hc
    rename_i hb;split at hc
    ·cases hc
    rename_i hr;exact .cmp (mD (eq_true_of_ne_false ha) hN) (mD (n:=5) (eq_true_of_ne_false hr) (by omega)) (mD (eq_true_of_ne_false hb) hN)
   ·split at hs
    ·repeat' (split at hs)
     all_goals cases hs
    ·cases hs
  | none=>
   rw[oP hs] at h;have hl:=Af kids h;unfold eD at hs;split at hs
   ·cases hs
   rename_i hf;have hf:ez (.node op a rel b names set kids)=true:=by simpa using hf
   split at hs
   ·cases hs
   split at hs
   ·rename_i h9;have h9:op=9:=h9;subst h9;unfold ez at hf;rw[if_neg (by show ¬ ((9:Int)=2∨(9:Int)=3∨(9:Int)=4);decide),if_neg (by show ¬ (9:Int)=8;decide),if_pos (by rfl)] at hf;simp only[ajX,aI.kids,aI.names,aI.rel,aI.b] at hf;obtain⟨⟨⟨qk,qr⟩,qb⟩,qn⟩:=hf;have hk:(kids.length:Int)=0:=of_decide_eq_true qk;have hn:(names.length:Int)=0:=of_decide_eq_true qn;have hr0:rel=0:=of_decide_eq_true qr;have hb0:b=0:=of_decide_eq_true qb;clear qk qn qr qb;subst hr0 hb0;obtain rfl:kids=[]:=List.eq_nil_of_length_eq_zero (by omega);obtain rfl:names=[]:=List.eq_nil_of_length_eq_zero (by omega);split at hs
    ·cases hs
    rename_i ha;exact .inn (mD (eq_true_of_ne_false ha) hN) ZN
   ·rename_i n8 n9;unfold ez at hf;split at hf
    ·rename_i TM;have TM:op=2∨op=3∨op=4:=TM;simp only[ajX,aI.kids,aI.names,aI.rel,aI.b,aI.a,aI.set,aI.op] at hf;obtain⟨⟨⟨⟨⟨qk,qa⟩,qr⟩,qb⟩,qn⟩,qs⟩:=hf;have hk:(kids.length:Int)=dh op:=of_decide_eq_true qk;have hn:(names.length:Int)=0:=of_decide_eq_true qn;have ha0:a=0:=of_decide_eq_true qa;have hr0:rel=0:=of_decide_eq_true qr;have hb0:b=0:=of_decide_eq_true qb;have hs0:set=aq.zero:=of_decide_eq_true qs;clear qk qn qa qr qb qs;subst ha0 hr0 hb0 hs0;obtain rfl:names=[]:=List.eq_nil_of_length_eq_zero (by omega);rcases TM with rfl|rfl|rfl
     ·have hk1:dh 2=1:=rfl;rw[hk1] at hk
      match kids,hk,ih,hl with
      | [x],_,ih,hl=>exact .not (ih x (by simp) (hl x (by simp)))
     ·have hk1:dh 3=2:=rfl;rw[hk1] at hk
      match kids,hk,ih,hl with
      | [x,y],_,ih,hl=>exact .two (by decide) (by decide) (ih x (by simp) (hl x (by simp))) (ih y (by simp) (hl y (by simp)))
     ·have hk1:dh 4=2:=rfl;rw[hk1] at hk
      match kids,hk,ih,hl with
      | [x,y],_,ih,hl=>exact .two (by decide) (by decide) (ih x (by simp) (hl x (by simp))) (ih y (by simp) (hl y (by simp)))
    ·first|(rw[if_neg n8,if_neg n9] at hf;cases hf)|cases hf|(exact absurd hf (by decide))
 termination_by e=>SizeOf.sizeOf e
 decreasing_by
  have:=List.sizeOf_lt_of_mem hk;simp only[aI.node.sizeOf_spec];omega
theorem Qm{s:ByteArray}:ck s=true↔s.size=0:=by
 have e:s.size=s.toList.length:=by rw[ByteArray.toList_eq,Array.length_toList];rfl
 unfold ck;rw[beq_iff_eq,ByteArray.toList_eq ⟨#[]⟩,e];exact⟨fun h=>by rw[h];rfl,fun h=>List.eq_nil_of_length_eq_zero h⟩
theorem Ql{s:ByteArray}(h:ck s=true):s.size≤256:=by
 rw[Qm.1 h];decide
theorem qy{i:Int}{n:Nat}(h:¬ aE i (n:Int)=false)(hn:n≤4096):lJ i:=mD (eq_true_of_ne_false h) hn
theorem Bl{nS nC:Nat}{l:jX}(h:ji nS nC l=true)(hs:nS≤4096)(hc:cW l.cats):Cc l:=by
 unfold ji at h;rw[ajX] at h;exact⟨mD h.1 hs,hc⟩
theorem Ba{nS nC:Nat}{r:kQ}(h:iJ nS nC r=true)(hs:nS≤4096)(hok:r.Ok):zD r:=by
 unfold iJ at h;rw[ajX,ajX] at h;exact⟨Bl h.1.1 hs hok.low.cats,Bl h.1.2 hs hok.high.cats⟩
theorem Cu{cl:List jU}{c v:Int}(h:h_ cl c v=true)(hl:cl.length≤4096):lJ c:=by
 unfold h_ at h;split at h
 ·rename_i x hx;split at hx
  ·have:=(aj0.1 hx).1;exact⟨by assumption,by omega⟩
  ·cases hx
 ·cases h
theorem Hf{p:aA}{c:mG}(h:iL p c=0)(hu:p.users.length≤4096)(hr:p.roles.length≤4096)(ht:p.types.length≤4096)(hs:p.ay.length≤4096)(hok:c.Ok):Cg c:=by
 unfold iL at h;split at h
 ·cases h
 rename_i h1;split at h
 ·cases h
 rename_i h2;split at h
 ·cases h
 rename_i h3;split at h
 ·cases h
 rename_i h4;exact⟨qy h1 hu,qy h2 hr,qy h3 ht,Ba (eq_true_of_ne_false h4) hs hok.rng⟩
theorem Qz{p:aA}(h:bg p=0)(hok:p.Ok)(aaF:∀ t∈p.types,vq t.jy)(ZL:vq p.trans):pL 3 p:=by
 unfold bg at h;split at h
 case isFalse hne=>exact absurd h hne
 rename_i h0;rw[kI] at h0 h;have hcl:=h0 (bF p) (by simp);have hty:=h0 (fG p) (by simp);have hro:=h0 (dG p) (by simp);have U0:=h (fF p) (by simp);have hot:=h (fJ p) (by simp);have Ov:=h (eI p) (by simp);have htr:=h (fH p) (by simp);have hch:=h (bP p) (by simp);have U3:=h (jO p) (by simp);have hla:=h (cF p) (by simp);have has:=h (cT p) (by simp);clear h h0;unfold bF at hcl;split at hcl
 ·cases hcl
 rename_i nC;unfold fG at hty;split at hty
 ·cases hty
 rename_i nT;split at hty
 case isFalse hne=>exact absurd hty hne
 rename_i S7;split at hty
 ·cases hty
 rename_i nA;unfold dG at hro;split at hro
 ·cases hro
 rename_i nR;split at hro
 ·cases hro
 rename_i hr0;have hr0:p.roles[0]?=some gA:=Classical.byContradiction hr0;unfold fF at U0;split at U0
 ·cases U0
 rename_i nU;unfold fJ at hot;split at hot
 ·cases hot
 rename_i nB;split at hot
 ·rename_i hn;exact absurd hot hn
 rename_i hB;have hB:=Classical.byContradiction hB;split at hot
 ·cases hot
 rename_i nS;split at hot
 ·rename_i hn;exact absurd hot hn
 rename_i hS;have hS:=Classical.byContradiction hS;split at hot
 ·cases hot
 rename_i nK;unfold eI at Ov;split at Ov
 ·cases Ov
 rename_i nD;split at Ov
 case isFalse hne=>exact absurd Ov hne
 rename_i hD;split at Ov
 ·cases Ov
 rename_i nL;unfold fH at htr;split at htr
 case isFalse=>cases htr
 rename_i nX;unfold bP at hch;split at hch
 ·cases hch
 rename_i nY;split at hch
 case isFalse hne=>exact absurd hch hne
 rename_i hY;split at hch
 ·cases hch
 rename_i nZ;unfold jO at U3;split at U3
 ·cases U3
 rename_i nN;unfold cF at hla;split at hla
 ·cases hla
 rename_i nI;split at hla
 case isFalse hne=>exact absurd hla hne
 rename_i hI;split at hla
 ·cases hla
 rename_i nF;unfold cT at has;split at has
 ·cases has
 rename_i nP;have hcl:=dO (l:=p.classes) (g:=fun i y=>ni ((p.classes.take i).map (·.name)) y) (fun i x hi=>by unfold jm;rw[hi]) (k:=0) hcl;have S7:=dO (l:=p.types) (g:=fun i y=>GZ (bf (p.types.take i)) y) (fun i x hi=>by unfold ju;rw[hi]) (k:=0) S7;have hty:=dO (l:=p.attrs) (g:=fun i y=>tR p.types.length (bf p.types++(p.attrs.take i).map (·.name)) y) (fun i x hi=>by unfold jQ;rw[hi]) (k:=0) hty;have hro:=dO (l:=p.roles) (g:=fun i y=>sJ p.types.length p.roles.length ((p.roles.take i).map (·.name)) y) (fun i x hi=>by unfold kF;rw[hi]) (k:=1) hro;have U0:=dO (l:=p.users) (g:=fun i y=>su p.roles.length p.ay.length p.cats.length ((p.users.take i).map (·.name)) y) (fun i x hi=>by unfold mK;rw[hi]) (k:=0) U0;have hD:=dO (l:=p.conds) (g:=fun _ e=>fO p.bools.length e) (fun i x hi=>by unfold iV;rw[hi]) (k:=0) hD;have Ov:=dO (l:=p.rules) (g:=fun _ r=>sH p.types.length p.conds.length p.classes r) (fun i x hi=>by unfold jJ;rw[hi]) (k:=0) Ov;have htr:=dO (l:=p.trans) (g:=fun _ y=>rB p.types.length p.classes.length p.conds.length y) (fun i x hi=>by unfold lK;rw[hi]) (k:=0) htr;have hY:=dO (l:=p.ak) (g:=fun _ y=>O9 p.types.length p.classes.length p.roles.length y) (fun i x hi=>by unfold xE;rw[hi]) (k:=0) hY;have hch:=dO (l:=p.ranges) (g:=fun _ y=>O_ p.types.length p.classes.length p.ay.length p.cats.length y) (fun i x hi=>by unfold CP;rw[hi]) (k:=0) hch;have U3:=dO (l:=p.cons) (g:=fun _ y=>BW p.users.length p.roles.length p.types.length p.classes y) (fun i x hi=>by unfold qW;rw[hi]) (k:=0) U3;have hI:=dO (l:=p.aN) (g:=fun i y=>zl p ((p.aN.take i).map (·.name)) y) (fun i x hi=>by unfold lM;rw[hi]) (k:=0) hI;have hla:=dO (l:=p.files) (g:=fun _ y=>tA p y) (fun i x hi=>by unfold kV;rw[hi]) (k:=0) hla;have has:=dO (l:=p.asserts) (g:=fun i y=>lD p.types.length ((p.asserts.take i).map (·.name)) y) (fun i x hi=>by unfold iB;rw[hi]) (k:=0) has;have mem:∀ {α:Type} {l:List α} {x:α},x∈l→∃ i,l[i]?=some x:=fun hx=>List.getElem?_of_mem hx
 have short:∀ {α:Type} {l:List α} {n:Nat},l.length≤n→n≤4096→vq l:=fun h1 h2=>by unfold vq;omega
 refine⟨⟨short (n:=32) (by omega) (by decide),fun x hx=>?_⟩,⟨short (n:=256) (by omega) (by decide),fun x hx=>?_⟩,⟨short (n:=64) (by omega) (by decide),fun x hx=>?_⟩,⟨short (n:=32) (by omega) (by decide),fun x hx=>?_⟩,⟨short (n:=32) (by omega) (by decide),fun x hx=>?_⟩,⟨short (n:=16) (by omega) (by decide),fun x hx=>?_⟩,
  ⟨short (n:=16) (by omega) (by decide),jL hS⟩,⟨short (n:=64) (by omega) (by decide),jL hot⟩,⟨short (n:=64) (by omega) (by decide),fun x hx=>?_⟩,⟨short (n:=4096) (by omega) (by decide),fun x hx=>?_⟩,⟨?_,fun x hx=>?_⟩,⟨short (n:=1024) (by omega) (by decide),fun x hx=>?_⟩,
  ⟨⟨short (n:=1024) (by omega) (by decide),fun x hx=>?_⟩,fun hv=>absurd hv (by decide)⟩,⟨short (n:=64) (by omega) (by decide),fun x hx=>?_⟩,⟨short (n:=1024) (by omega) (by decide),fun x hx=>?_⟩,⟨⟨short (n:=256) (by omega) (by decide),fun x hx=>?_⟩,fun hv=>absurd hv (by decide)⟩,⟨⟨short (n:=64) (by omega) (by decide),fun x hx=>?_⟩,fun hv=>absurd hv (by decide)⟩⟩
 ·obtain⟨i,hi⟩:=mem hx;have k:=hcl i x (ajW _) hi;unfold ni at k;split at k
  case isFalse hne=>exact absurd k hne
  rename_i k1;split at k
  ·cases k
  split at k
  ·cases k
  exact⟨jL k1 _ (by simp),short (n:=32) (by omega) (by decide),jL k⟩
 ·obtain⟨i,hi⟩:=mem hx;have k:=S7 i x (ajW _) hi;unfold GZ at k;have kT:=jL k;exact⟨kT _ (by simp),⟨aaF x hx,fun s hs=>kT s (by simp[hs])⟩,fun hv=>absurd hv (by decide)⟩
 ·obtain⟨i,hi⟩:=mem hx;have k:=hty i x (ajW _) hi;unfold tR at k;split at k
  case isFalse hne=>exact absurd k hne
  rename_i k1;exact⟨jL k1 _ (by simp),(hok.attrs x hx).types⟩
 ·obtain⟨i,hi⟩:=mem hx;refine⟨?_,(hok.roles x hx).types,(hok.roles x hx).next⟩;by_cases i0:i=0
  ·subst i0;rw[hr0] at hi;obtain rfl:=aj1 hi;show(8:Nat)≤256;decide
  ·have k:=hro i x (by omega) hi;unfold sJ at k;split at k
   case isFalse hne=>exact absurd k hne
   rename_i k1;exact jL k1 _ (by simp)
 ·obtain⟨i,hi⟩:=mem hx;have k:=U0 i x (ajW _) hi;unfold su at k;split at k
  case isFalse hne=>exact absurd k hne
  rename_i k1;split at k
  ·cases k
  split at k
  ·cases k
  rename_i k2;split at k
  ·cases k
  rename_i k3;exact⟨jL k1 _ (by simp),(hok.users x hx).roles,Bl (eq_true_of_ne_false k3) (by omega) (hok.users x hx).dflt.cats,Ba (eq_true_of_ne_false k2) (by omega) (hok.users x hx).rng⟩
 ·exact jL hB _ (List.mem_map.2 ⟨x,hx,rfl⟩)
 ·obtain⟨i,hi⟩:=mem hx;have k:=hD i x (ajW _) hi;unfold fO at k;split at k
  ·cases k
  rename_i k1;exact(CG (by omega) x k).levels 12 (Int.not_lt.1 k1)
 ·obtain⟨i,hi⟩:=mem hx;have k:=Ov i x (ajW _) hi;unfold sH at k;split at k
  ·cases k
  split at k
  ·cases k
  split at k
  ·cases k
  rename_i k1 k2 k3;unfold sG at k3;rw[Bool.not_eq_true,Bool.or_eq_false_iff,Bool.or_eq_false_iff,Bool.or_eq_false_iff,Bool.not_eq_false',Bool.not_eq_false',Bool.not_eq_false',Bool.not_eq_false'] at k3;obtain⟨⟨⟨-,-⟩,kv⟩,kc⟩:=k3;have o:=hok.rules x hx;unfold nQ at kc;rw[ajX,decide_eq_true_eq,decide_eq_true_eq] at kc;exact⟨⟨by omega,by omega⟩,o.src,o.tgt,Cu kv (by omega),o.perms,by omega,by omega⟩
 ·exact ZL
 ·obtain⟨i,hi⟩:=mem hx;have k:=htr i x (ajW _) hi;unfold rB at k;split at k
  ·cases k
  split at k
  ·cases k
  split at k
  ·cases k
  split at k
  ·cases k
  split at k
  ·cases k
  rename_i _ _ _ _ Zl;split at k
  ·cases k
  rename_i Zj;split at k
  ·cases k
  rename_i kc;split at k
  ·cases k
  split at k
  ·cases k
  split at k
  ·cases k
  split at k
  ·cases k
  rename_i kn;have o:=hok.trans x hx;have kc:=eq_true_of_ne_false kc;unfold nQ at kc;rw[ajX,decide_eq_true_eq,decide_eq_true_eq] at kc;refine⟨⟨⟨by omega,by omega⟩,o.src,o.tgt,qy Zl (by omega),?_,qy Zj (by omega),by omega,by omega⟩,fun hv=>absurd hv (by decide)⟩;unfold jR;by_cases ke:ck x.name=false
  ·have kb:=eq_true_of_ne_false fun h=>kn ⟨ke,h⟩
   unfold d_ at kb;simp only[ajX,decide_eq_true_eq] at kb;have:=kb.2.2;omega
  ·exact Ql (eq_true_of_ne_false ke)
 ·obtain⟨i,hi⟩:=mem hx;have k:=hY i x (ajW _) hi;unfold O9 at k;split at k
  ·cases k
  split at k
  ·cases k
  split at k
  ·cases k
  rename_i _ _ k1;split at k
  ·cases k
  rename_i k2;exact⟨(hok.ak x hx).roles,(hok.ak x hx).types,qy k1 (by omega),qy k2 (by omega)⟩
 ·obtain⟨i,hi⟩:=mem hx;have k:=hch i x (ajW _) hi;unfold O_ at k;split at k
  ·cases k
  split at k
  ·cases k
  split at k
  ·cases k
  rename_i _ _ k1;split at k
  ·cases k
  split at k
  ·cases k
  split at k
  ·cases k
  rename_i k2;exact⟨(hok.ranges x hx).src,(hok.ranges x hx).tgt,qy k1 (by omega),Ba (eq_true_of_ne_false k2) (by omega) (hok.ranges x hx).rng⟩
 ·obtain⟨i,hi⟩:=mem hx;have k:=U3 i x (ajW _) hi;unfold BW at k;split at k
  ·cases k
  rename_i k1;split at k
  ·cases k
  unfold eA at k;split at k
  ·cases k
  rename_i k3;have o:=hok.cons x hx;refine⟨Cu (eq_true_of_ne_false k1) (by omega),o.perms,?_⟩;split at k
  ·exact(xw (by decide) _ o.expr k).levels 12 (Int.not_lt.1 k3)
  ·exact(xw (by decide) _ o.expr k).levels 12 (Int.not_lt.1 k3)
 ·obtain⟨i,hi⟩:=mem hx;have k:=hI i x (ajW _) hi;unfold zl at k;split at k
  case isFalse hne=>exact absurd k hne
  rename_i k1;exact⟨jL k1 _ (by simp),Hf k (by omega) (by omega) (by omega) (by omega) (hok.aN x hx).ctx⟩
 ·obtain⟨i,hi⟩:=mem hx;have k:=hla i x (ajW _) hi;unfold tA at k;split at k
  ·cases k
  split at k
  ·cases k
  rename_i k1;split at k
  ·cases k
  split at k
  ·cases k
  rename_i _ k2 k3;refine⟨?_,⟨by omega,by omega⟩,Hf k (by omega) (by omega) (by omega) (by omega) (hok.files x hx).ctx⟩;have k1:=eq_true_of_ne_false k1;unfold dQ at k1;rw[ajX,decide_eq_true_eq] at k1;show x.pat.size≤256;have:=k1.2;omega
 ·obtain⟨i,hi⟩:=mem hx;have k:=has i x (ajW _) hi;unfold lD at k;split at k
  case isFalse hne=>exact absurd k hne
  rename_i k1;split at k
  ·cases k
  split at k
  ·cases k
  exact⟨jL k1 _ (by simp),⟨by omega,by omega⟩,(hok.asserts x hx).src,(hok.asserts x hx).tgt⟩
theorem nW{x y j:Nat}(hy:cW y)(hj:j<64):(o_ x y).testBit j=(x.testBit j&&!y.testBit j):=by
 unfold o_;rw[Nat.testBit_and,show 18446744073709551615-y=2^64-(y+1) by unfold cW at hy;omega,Nat.testBit_two_pow_sub_succ hy,decide_eq_true hj,Bool.true_and]
theorem and_self_iff{x y:Nat}(hx:cW x)(hy:cW y):x&&&y=x↔o_ x y=0:=by
 constructor
 ·intro h;refine sj (tS hx y) (by unfold cW;decide) fun j hj=>?_
  rw[nW hy hj,Nat.zero_testBit];have:=congrArg (fun z=>z.testBit j) h;simp only[Nat.testBit_and] at this
  revert this
  cases x.testBit j<;>cases y.testBit j<;>simp
 ·intro h;refine sj (Nat.lt_of_le_of_lt Nat.and_le_left hx) hx fun j hj=>?_
  rw[Nat.testBit_and];have:=congrArg (fun z=>z.testBit j) h;simp only[nW hy hj,Nat.zero_testBit] at this
  revert this
  cases x.testBit j<;>cases y.testBit j<;>simp
def aq.and(x y:aq):aq:=⟨x.a&&&y.a,x.b&&&y.b,x.c&&&y.c,x.d&&&y.d⟩
theorem Eh{x y:aq}(hx:x.Ok)(hy:y.Ok):decide (x.and y=x)=x.within y:=by
 unfold aq.within;rw[decide_eq_decide];obtain⟨a,b,c,d⟩:=x;obtain⟨a',b',c',d'⟩:=y;simp only[aq.and,aq.minus,aq.zero,aq.mk.injEq,and_self_iff hx.a hy.a,and_self_iff hx.b hy.b,and_self_iff hx.c hy.c,and_self_iff hx.d hy.d]
theorem Qy{a b:jX}(ha:a.Ok)(hb:b.Ok):(decide (b.ay≤a.ay)&&decide (a.cats&&&b.cats=b.cats))=kN a b:=by
 unfold kN;congr 1;rw[decide_eq_decide,Nat.and_comm,and_self_iff hb.cats ha.cats]
theorem Pq(j:Nat):Nat.testBit 1 j=decide (j=0):=by
 rw[show(1:Nat)=2^0 from rfl,Nat.testBit_two_pow,decide_eq_decide];exact⟨fun h=>h.symm,fun h=>h.symm⟩
theorem Kh{x y:Nat}(hx:cW x)(hy:cW y):o_ x (o_ y 1)=0↔o_ x y=0∧x.testBit 0=false:=by
 have h1:cW 1:=by unfold cW;decide
 have hz:cW 0:=by unfold cW;decide
 have key:∀ j,j<64→(o_ x (o_ y 1)).testBit j=if j=0 then x.testBit 0 else (o_ x y).testBit j:=fun j hj=>by
  rw[nW (tS hy 1) hj,nW h1 hj,Pq];by_cases e:j=0
  ·subst e;simp
  ·rw[if_neg e,nW hy hj];simp[e]
 constructor
 ·intro h;have h0:x.testBit 0=false:=by have:=key 0 (by decide);rw[h,if_pos rfl,Nat.zero_testBit] at this;exact this.symm
  refine⟨sj (tS hx y) hz fun j hj=>?_,h0⟩;rw[Nat.zero_testBit];by_cases e:j=0
  ·subst e;rw[nW hy hj,h0];rfl
  ·have:=key j hj;rw[h,if_neg e,Nat.zero_testBit] at this;exact this.symm
 ·rintro⟨h,h0⟩;refine sj (tS hx _) hz fun j hj=>?_
  rw[key j hj,Nat.zero_testBit];split
  ·exact h0
  ·rw[h,Nat.zero_testBit]
theorem Ja{n:Nat}{s:aq}(hs:s.Ok):(s.within (aq.all n)&&!s.mem 0)=lN n s:=by
 have hm:s.mem 0=s.a.testBit 0:=rfl;have ha:=nj n;unfold lN aq.within;rw[hm];generalize aq.all n=t at ha ⊢;obtain⟨a,b,c,d⟩:=s;obtain⟨a',b',c',d'⟩:=t;have:=Kh hs.a ha.a;simp only[aq.minus,aq.unit,aq.zero,aq.mk.injEq] at this ⊢;rw[aj2];simp only[ajX,decide_eq_true_eq,Bool.not_eq_true',this];constructor
 ·rintro⟨⟨h1,h2⟩,h3⟩;exact⟨⟨h1,h3⟩,h2⟩
 ·rintro⟨⟨h1,h3⟩,h2⟩;exact⟨⟨h1,h2⟩,h3⟩
theorem Jv{nS nC:Nat}{r:kQ}{d:jX}(hr:iJ nS nC r=true)(hd:d.Ok)(hk:r.Ok)(h1:kN r.high d=true)(h2:kN d r.low=true):ji nS nC d=true:=by
 unfold iJ ji aE at hr;unfold kN at h1 h2;unfold ji aE;simp only[ajX,Bool.or_eq_true,decide_eq_true_eq] at hr h1 h2 ⊢;obtain⟨⟨⟨⟨a1,a2⟩,a3⟩,⟨b1,b2⟩,b3⟩,-⟩:=hr;refine⟨⟨by omega,by omega⟩,?_⟩;rcases b3 with b3|b3
 ·exact .inl b3
 ·refine .inr ?_
  have hle:d.cats≤r.high.cats:=by
   have:=(and_self_iff hd.cats hk.high.cats).2 h1.2;rw[← this];exact Nat.and_le_right
  have e:∀ x:Nat,(x:Int)/2^nC=((x/2^nC:Nat):Int):=fun x=>by simp
  rw[e] at b3 ⊢;have h3:r.high.cats/2^nC=0:=by exact_mod_cast b3
  have h4:d.cats/2^nC≤r.high.cats/2^nC:=Nat.div_le_div_right hle;rw[h3] at h4;rw[Nat.eq_zero_of_le_zero h4];rfl
theorem Ho(s:ByteArray)(o:List ByteArray):aP [s] o=if mg s=true then (if hasB o s=true then 12 else 0) else 10:=by
 have h:aP [s] o=gh [s] o 0:=by
  show(if gh [s] o 0=0 then 0 else gh [s] o 0)=_;split
  ·rename_i e;exact e.symm
  ·rfl
 rw[h,qM rfl];rfl
theorem uS{x y:ByteArray}:x.toList=y.toList↔x=y:=by
 have:=kA x y;rw[aj2,beq_iff_eq,decide_eq_true_eq] at this;exact this
theorem yu{l:List ByteArray}{s:ByteArray}:hasB l s=true↔s∈l:=by
 unfold hasB;rw[j3];constructor
 ·rintro⟨j,-,hj,h⟩;have hj:j<l.length:=by omega
  rw[wB (ajV hj),decide_eq_true_eq,uS] at h;exact h▸List.getElem_mem hj
 ·intro h;obtain⟨j,hj⟩:=List.getElem?_of_mem h;exact⟨j,ajW _,by have:=(aj0.1 hj).1;omega,by rw[wB hj];simp⟩
theorem Na{l o:List ByteArray}{s:ByteArray}:hasB (l++o) s=(hasB l s||hasB o s):=by
 rw[aj2,Bool.or_eq_true];simp only[yu,List.mem_append]
def r_(ws:ByteArray):Nat→Nat→Nat→List ByteArray
 | 0,_,_=>[]
 | k+1,fr,i=>if bL ws i=32 then ws.extract fr i::r_ ws k (i+1) (i+1) else r_ ws k fr (i+1)
theorem mZ{s ws:ByteArray}:∀ (k fr i:Nat),iZ s ws k fr i=true→s∈r_ ws k fr i
 | 0,_,_,h=>by cases h
 | k+1,fr,i,h=>by
  unfold iZ at h;unfold r_;split at h
  ·rename_i hb;rw[if_pos hb];split at h
   ·rename_i h1;exact List.mem_cons.2 (.inl (uS.1 h1.1).symm)
   ·exact List.mem_cons.2 (.inr (mZ k _ _ h))
  ·rename_i hb;rw[if_neg hb];exact mZ k _ _ h
def Zi:List ByteArray:=r_ S0 S0.size 0 0
theorem SW{s:ByteArray}(h:eZ s=true):s∈Zi:=mZ _ _ _ h
theorem pU{f:Nat→Bool}{n:Nat}(h:∀ i,i<n→f i=false):eH f n 0=false:=by
 cases e:eH f n 0 with
 | false=>rfl
 | true=>
  obtain⟨j,-,hj,hf⟩:=(j3 _ _).1 e;rw[h j (by omega)] at hf;cases hf
theorem Pr{s:ByteArray}(h0:1≤s.size)(h1:s.size≤32)(h2:kq (bL s 0)=false)(h3:∀ i,i<s.size→iy (bL s i)=true∨kq (bL s i)=true):pF s=true:=by
 unfold pF;rw[pU fun i hi=>?_]
 ·simp;omega
 ·unfold qZ;rcases h3 i hi with h|h
  ·rw[h];rfl
  ·by_cases e:i=0
   ·subst e;rw[h2] at h;cases h
   ·rw[h];simp[e]
theorem PE(w0:World)(s:ByteArray)(hs:cB s):Calls Tryz.prog 321 #[.string s] w0 (fun r w'=>r=.returned (.bool (pF s))∧ajY w0.heap.size w0 w'):=by
 have hs':s.size≤140737488355328:=hs
 have h0:(s.toList == (⟨#[]⟩:ByteArray).toList)=decide (s.size=0):=by
  rw[kA,decide_eq_decide];exact⟨fun e=>by rw[e];rfl,fun e=>ByteArray.ext (Array.eq_empty_of_size_eq_zero e)⟩
 have hpos:(!(s.toList == (⟨#[]⟩:ByteArray).toList||decide ((32:Int)<(s.size:Int))))=true→∃ h:0<s.size,(s[0]'h).toNat=bL s 0:=fun h=>by
  rw[h0] at h;simp only[ajX,Bool.or_eq_true,Bool.not_eq_true',Bool.or_eq_false_iff,Bool.and_eq_false_iff,decide_eq_true_eq,decide_eq_false_iff_not] at h;have h1:0<s.size:=by omega
  exact⟨h1,gW h1⟩
 refine bU [] (fn:=Tryz.f321) Tryz.func321 rfl Tryz.ntmps321 rfl<|ei (x:=0)<|ei (x:=bL s 0)<|an (fun h=>⟨rfl,hpos h⟩)<|ei (x:=.int .i32 (bL s 0:Int))<|an (fun h=>fun a w o ho hv=>BJ ho (aQ hv) u5 YQ (mC s 0))<|cl<|an (fun _=>wV _ _) fun w1 M1=>an (fun h=>fun M=>⟨rb ?_,M.below⟩) fun h=>?_
 ·cases e:pF s with
  | false=>rfl
  | true=>
   obtain⟨a1,a2,a3,-⟩:=xS e;rw[h0,a3] at h;simp only[ajX,Bool.or_eq_true,Bool.not_eq_true',Bool.or_eq_false_iff,Bool.and_eq_false_iff,decide_eq_true_eq,decide_eq_false_iff_not] at h;rcases h with(h|h)|h
   ·omega
   ·omega
   ·cases h
 have hp:0<s.size∧s.size≤32∧kq (bL s 0)=false:=by
  rw[h0] at h;simp only[ajX,Bool.or_eq_true,Bool.not_eq_true',Bool.or_eq_false_iff,Bool.and_eq_false_iff,decide_eq_true_eq,decide_eq_false_iff_not] at h;exact⟨by omega,by omega,h.2⟩
 refine lr (ι:=Nat) (fun m=>[(20,.int .i64 (m:Int))]) (fun m _=>m≤s.size∧∀ i,i<m→iy (bL s i)=true∨kq (bL s i)=true) (fun m=>s.size-m) 0 (an ⟨⟨rfl,trivial⟩,fun M=>⟨M,ajW _,fun i h=>absurd h (Nat.not_lt_zero i)⟩⟩ ?_);rintro m w M ⟨hm,hall⟩;refine an (fun h1=>?_) fun h1=>?_
 ·have hlt:m<s.size:=by simp at h1;omega
  refine ei (x:=m)<|ei (x:=bL s m)<|an ⟨rfl,hlt,gW hlt⟩<|ei (x:=.int .i32 (bL s m:Int))<|an (fun a w o ho hv=>BJ ho (aQ hv) u5 YQ (mC s m))<|cl<|an (Cw _ _) fun w2 M2=>cl<|an (fun _=>wV _ _) fun w3 M3=>an (fun h2=>fun M=>⟨rb ?_,M.below⟩) fun h2=>an (by omega)<|bk (m+1) ⟨rfl,trivial⟩ (fun M=>⟨M,by omega,fun i hi=>?_⟩) (by dsimp only;omega)
  ·cases e:pF s with
   | false=>rfl
   | true=>
    obtain⟨-,-,-,a4⟩:=xS e;rcases a4 m hlt with a|a<;>simp[a] at h2
  ·by_cases e:i=m
   ·subst e;simp at h2;cases ha:iy (bL s i)<;>simp_all
   ·exact hall i (by omega)
 ·have e:m=s.size:=by simp at h1;omega
  subst e;exact fun M=>⟨rb (Pr (by omega) hp.2.1 hp.2.2 hall),M.below⟩
theorem Dj(w0:World)(x:Nat):Calls Tryz.prog 337 #[.int .i32 (x:Int)] w0 (fun r w'=>r=.returned (.bool (!(decide ((x:Int)<32)||decide ((126:Int)<x)||decide ((x:Int)=34))))∧ajY w0.heap.size w0 w'):=by
 refine bU [] (fn:=Tryz.f337) Tryz.func337 rfl Tryz.ntmps337 rfl<|fun M=>⟨rb ?_,M.below⟩
 rw[aj2];simp
theorem Fz(w0:World)(s:ByteArray)(hs:cB s):Calls Tryz.prog 323 #[.string s] w0 (fun r w'=>r=.returned (.bool (dQ s))∧ajY w0.heap.size w0 w'):=by
 have hs':s.size≤140737488355328:=hs;refine bU [] (fn:=Tryz.f323) Tryz.func323 rfl Tryz.ntmps323 rfl<|an (fun h=>fun M=>⟨rb ?_,M.below⟩) fun h=>?_
 ·unfold dQ;simp at h;rw[decide_eq_false (by omega),Bool.and_false]
 have za:s.size≤256:=by simp at h;omega
 refine lr (ι:=Nat) (fun m=>[(9,.int .i64 (m:Int))]) (fun m _=>m≤s.size∧∀ i,i<m→uI s i=false) (fun m=>s.size-m) 0 (an ⟨⟨rfl,trivial⟩,fun M=>⟨M,ajW _,fun i h=>absurd h (Nat.not_lt_zero i)⟩⟩ ?_);rintro m w M ⟨hm,hall⟩;refine an (fun h1=>?_) fun h1=>?_
 ·have hlt:m<s.size:=by simp at h1;omega
  refine ei (x:=m)<|ei (x:=bL s m)<|an ⟨rfl,hlt,gW hlt⟩<|ei (x:=.int .i32 (bL s m:Int))<|an (fun a w o ho hv=>BJ ho (aQ hv) u5 YQ (mC s m))<|cl<|an (Dj _ _) fun w2 M2=>an (fun h2=>fun M=>⟨rb ?_,M.below⟩) fun h2=>an (by omega)<|bk (m+1) ⟨rfl,trivial⟩ (fun M=>⟨M,by omega,fun i hi=>?_⟩) (by dsimp only;omega)
  ·have hb:uI s m=true:=by rw[Bool.not_not] at h2;exact h2
   unfold dQ;rw[(j3 _ _).2 ⟨m,ajW _,by omega,hb⟩];rfl
  ·by_cases e:i=m
   ·subst e;rw[Bool.not_not] at h2;exact h2
   ·exact hall i (by omega)
 ·have e:m=s.size:=by simp at h1;omega
  subst e;refine fun M=>⟨rb ?_,M.below⟩
  unfold dQ;rw[pU hall,decide_eq_true (by omega)];rfl
theorem Mn(w0:World)(x:ByteArray)(hx:cB x):Calls Tryz.prog 291 #[.agg #[.int .i64 3,.string x,.int .i64 0,.int .i64 0]] w0 (fun r w'=>r=.returned (.bool (dQ x))∧ajY w0.heap.size w0 w'):=by
 refine bU [] (fn:=Tryz.f291) Tryz.func291 rfl Tryz.ntmps291 rfl<|fun g1 w1 M1=>lb 0<|an rfl<|an (fun h=>by simp at h) fun _=>an (fun h=>by simp at h) fun _=>an (fun h=>by simp at h) fun _=>an (fun _=>lb 0<|an rfl<|cl<|an (Fz _ _ hx) fun w2 M2=>fun M=>⟨rfl,M.below⟩) fun h=>by simp at h
theorem PF(w0:World)(v:Value)(l:List ByteArray)(h:aJ w0 v l)(x:ByteArray):Calls Tryz.prog 327 #[v,.string x] w0 (fun r w'=>∃ z:Int,r=.returned (.int .i64 z)∧(decide (0≤z)=hasB l x∧ajY w0.heap.size w0 w')):=by
 obtain⟨_,_,rfl,-,hm5,-⟩:=SliceAt.form h (by decide);refine bU [] (fn:=Tryz.f327) Tryz.func327 rfl Tryz.ntmps327 rfl<|lr (ι:=Nat) (fun m=>[(8,.int .i64 (m:Int))]) (fun m _=>m≤l.length∧∀ j z,j<m→l[j]?=some z→x≠z) (fun m=>l.length-m) 0 (an ⟨⟨rfl,trivial⟩,fun M=>⟨M,ajW _,fun j z h=>absurd h (Nat.not_lt_zero j)⟩⟩ ?_);intro m w M ⟨hm,hno⟩;refine an (fun h1=>?_) fun h1 M=>?_
 ·have hlt:m<l.length:=by simp at h1;omega
  obtain⟨y,hy⟩:∃ y,l[m]?=some y:=⟨_,ajV hlt⟩;obtain⟨b,o,e,hc⟩:=SliceAt.elt h (fun _=>rfl) (by decide) hy hlt;refine ia<|an ⟨e,rfl,hlt⟩<|lc (x:=.string y)<|an (cL M.below hc 0 _ rfl)<|?_;refine an (fun h2 M=>⟨m,rfl,?_,M.below⟩) fun h2=>?_
  ·rw[kA] at h2;obtain rfl:=of_decide_eq_true h2;rw[yu.2 (ajZ hy),decide_eq_true (by omega)]
  ·rw[kA] at h2;have h2:=of_decide_eq_false h2
   exact an (by omega)<|bk (m+1) ⟨rfl,trivial⟩ (fun M=>⟨M,by omega,fun j z hj hz=>by
    by_cases e:j=m
    ·subst e;rw[hy] at hz;obtain rfl:=aj1 hz;exact h2
    ·exact hno j z (by omega) hz⟩) (by dsimp only;omega)
 ·have e:m=l.length:=by simp at h1;omega
  subst e;refine⟨-1,rfl,?_,M.below⟩
  cases e:hasB l x with
  | false=>rfl
  | true=>
   obtain⟨j,hj⟩:=List.getElem?_of_mem (yu.1 e);exact absurd rfl (hno j x (aj0.1 hj).1 hj)
theorem FA(w0:World)(v:Value)(l:List ByteArray)(h:aJ w0 v l)(x:ByteArray):Calls Tryz.prog 311 #[v,.string x] w0 (fun r w'=>r=.returned (.bool (hasB l x))∧ajY w0.heap.size w0 w'):=by
 obtain⟨_,_,rfl,-⟩:=SliceAt.form h (by decide);refine bU [] (fn:=Tryz.f311) Tryz.func311 rfl Tryz.ntmps311 rfl<|cg (R:=fun v w'=>∃ z:Int,v=.int .i64 z∧decide (0≤z)=hasB l x∧ajY w0.heap.size w0 w')<|an ((PF w0 _ l h x).mono fun _ _ ⟨z,h1,h2⟩=>⟨_,h1,z,rfl,h2⟩) fun v w1 ⟨z,e,hz,hb⟩=>⟨[],[],(Mm.start w0).keep hb,?_⟩
 subst e;exact fun M=>⟨rb hz.symm,M.below⟩
theorem Dl(w:World)(n:Int):Calls Tryz.prog 330 #[.int .i64 n] w (fun e w'=>e=.returned (.bool (decide (0≤n)&&decide (n<256)))∧ajY w.heap.size w w'):=bU [] (fn:=Tryz.f330) Tryz.func330 rfl Tryz.ntmps330 rfl<|fun M=>⟨rfl,M.below⟩
def QF(m:Nat)(x y:aq)(i:Nat):Nat:=if i<m then x.word i&&&y.word i else x.word i
theorem SR(w0:World)(x y:aq)(hx:x.Ok)(hy:y.Ok):Calls Tryz.prog 328 #[.agg #[.int .u64 x.a,.int .u64 x.b,.int .u64 x.c,.int .u64 x.d],.agg #[.int .u64 y.a,.int .u64 y.b,.int .u64 y.c,.int .u64 y.d]] w0 (fun r w'=>r=.returned (.agg #[.int .u64 ((x.and y).a:Nat),.int .u64 ((x.and y).b:Nat),.int .u64 ((x.and y).c:Nat),.int .u64 ((x.and y).d:Nat)])∧ajY w0.heap.size w0 w'):=by
 refine bU [] (fn:=Tryz.f328) Tryz.func328 rfl Tryz.ntmps328 rfl<|fun gx w1 M1=>fun gy w2 M2=>ei<|an pG fun go w3 M3=>lp (ι:=Nat) (fun m=>[(6,.int .i64 (m:Int))]) (fun m=>[(go,77,#[.int .u64 0,.int .u64 0,.int .u64 0,.int .u64 0]),(gy,77,#[.int .u64 y.a,.int .u64 y.b,.int .u64 y.c,.int .u64 y.d]),(gx,77,#[.int .u64 ((QF m x y 0:Nat):Int),.int .u64 ((QF m x y 1:Nat):Int),.int .u64 ((QF m x y 2:Nat):Int),.int .u64 ((QF m x y 3:Nat):Int)])]) (fun _=>[]) (fun m _=>m≤4) (fun m=>4-m) 0 (an ⟨⟨rfl,trivial⟩,fun M=>⟨M,ajW _⟩⟩ ?_)
 intro m w M hm;refine an (fun h=>?_) fun h=>?_
 ·have hlt:m<4:=by simp at h;omega
  obtain rfl|rfl|rfl|rfl:m=0∨m=1∨m=2∨m=3:=by omega
  all_goals
   refine dr (by kernel_rfl)<|ei<|an ⟨rfl,by decide⟩<|lb 2<|an rfl<|ei<|an ⟨rfl,by decide⟩<|lb 1<|an rfl<|ei<|an rfl<|ei<|an ⟨rfl,by decide⟩<|fun w hb M=>lb 2<|an ⟨rfl,rfl⟩ fun w M=>an (by omega)<|bk _ ⟨rfl,trivial⟩ (fun M=>⟨M.cast ?_ rfl,by decide⟩) (by decide)
  ·exact congrArg (fun v:Int=>[(_:Bx),_,(gx,77,(#[Value.int .u64 v,_,_,_]:Array Value))]) (bits_and_u64_nat _ _ hx.a hy.a)
  ·exact congrArg (fun v:Int=>[(_:Bx),_,(gx,77,(#[_,Value.int .u64 v,_,_]:Array Value))]) (bits_and_u64_nat _ _ hx.b hy.b)
  ·exact congrArg (fun v:Int=>[(_:Bx),_,(gx,77,(#[_,_,Value.int .u64 v,_]:Array Value))]) (bits_and_u64_nat _ _ hx.c hy.c)
  ·exact congrArg (fun v:Int=>[(_:Bx),_,(gx,77,(#[_,_,_,Value.int .u64 v]:Array Value))]) (bits_and_u64_nat _ _ hx.d hy.d)
 obtain rfl:m=4:=by simp at h;omega
 exact lb 2<|an rfl<|lb 0<|an ⟨rfl,rfl⟩ fun w M=>ei (x:=0)<|an rfl fun M=>⟨rfl,M.below⟩
theorem qh(w0:World)(x y:aq)(hx:x.Ok)(hy:y.Ok):Calls Tryz.prog 312 #[.agg #[.int .u64 x.a,.int .u64 x.b,.int .u64 x.c,.int .u64 x.d],.agg #[.int .u64 y.a,.int .u64 y.b,.int .u64 y.c,.int .u64 y.d]] w0 (fun r w'=>r=.returned (.bool (x.within y))∧ajY w0.heap.size w0 w'):=by
 refine bU [] (fn:=Tryz.f312) Tryz.func312 rfl Tryz.ntmps312 rfl<|fun g1 w1 M1=>fun g2 w2 M2=>dr (by kernel_rfl)<|lb 1<|an rfl<|lb 0<|an rfl<|cl<|an (fun w' hb M'=>SR w' x y hx hy)<|lb 1<|an rfl<|ei<|an ⟨zx,fun w=>Rc (x.and y) x w⟩<|fun w hb M=>fun M=>⟨rb (Eh hx hy).symm,M.below⟩
theorem Dp(w:World)(n:Nat):Calls Tryz.prog 313 #[.int .i64 (n:Int)] w fun e w'=>e=.returned (.agg #[.int .u64 (aq.all n).a,.int .u64 (aq.all n).b,.int .u64 (aq.all n).c,.int .u64 (aq.all n).d])∧ajY w.heap.size w w':=by
 refine bU [] (fn:=Tryz.f313) Tryz.func313 rfl Tryz.ntmps313 rfl<|ei<|an pG fun g1 w1 M1=>ei<|an pG fun g2 w2 M2=>Rb M2 (v:=.int .i64 (n:Int)) (fun a o ho hv=>(BI ho (aQ hv) (cO hv)).trans (by rw[if_neg (by omega)]))<|Rb M2 (v:=.int .i64 ((min n 256:Nat):Int)) (fun a o ho hv=>(Nq ho (aQ hv) (cO hv)).trans (by congr 3;split<;>omega))<|lp (ι:=Nat) (fun k=>[(8,.int .i64 (k:Int))]) (fun k=>[(g2,77,#[.int .u64 (uK k).a,.int .u64 (uK k).b,.int .u64 (uK k).c,.int .u64 (uK k).d]),_]) (fun _=>[]) (fun k _=>k≤min n 256) (fun k=>256-k) 0 (an ⟨⟨rfl,trivial⟩,fun M=>⟨M,ajW _⟩⟩ ?_)
 intro k w M hk;refine an (fun h=>?_) fun h=>?_
 ·simp only[decide_eq_true_eq] at h;exact lb 0<|an rfl<|cl<|an (Vl _ (uK k) (wG k) k) fun w4 M4=>lb 0<|an ⟨rfl,rfl⟩ fun w5 M5=>an (by omega)<|bk (k+1) ⟨rfl,trivial⟩ (fun M=>⟨M,by omega⟩) (by dsimp only;omega)
 ·obtain rfl:k=min n 256:=by
   rw[decide_eq_false_iff_not] at h;omega
  exact lb 0<|an rfl<|lb 1<|an ⟨rfl,rfl⟩ fun w M=>ei (x:=1)<|an rfl fun M=>⟨rfl,M.below⟩
theorem Mz(w:World)(a b:jX)(ha:a.Ok)(hb:b.Ok):Calls Tryz.prog 316 #[.agg #[.int .i64 a.ay,.int .u64 a.cats],.agg #[.int .i64 b.ay,.int .u64 b.cats]] w fun e w'=>e=.returned (.bool (kN a b))∧ajY w.heap.size w w':=by
 refine bU [] (fn:=Tryz.f316) Tryz.func316 rfl Tryz.ntmps316 rfl<|fun g1 w1 M1=>fun g2 w2 M2=>lb 1<|an rfl<|lb 0<|an rfl<|lb 1<|an (fun _=>rfl)<|lb 0<|an (fun _=>rfl)<|ei (x:=((a.cats&&&b.cats:Nat):Int))<|an (fun _=>bits_and_u64_nat _ _ ha.cats hb.cats)<|lb 0<|an (fun _=>rfl)<|fun M=>⟨rb ?_,M.below⟩
 rw[← Qy ha hb];congr 1;rw[decide_eq_decide];omega
theorem Hu(w:World)(l:jX)(nS nC:Nat)(hl:l.Ok):Calls Tryz.prog 331 #[.agg #[.int .i64 l.ay,.int .u64 l.cats],.int .i64 (nS:Int),.int .i64 (nC:Int)] w fun e w'=>e=.returned (.bool (ji nS nC l))∧ajY w.heap.size w w':=by
 refine bU [] (fn:=Tryz.f331) Tryz.func331 rfl Tryz.ntmps331 rfl<|fun g1 w1 M1=>lb 0<|an rfl<|lb 0<|an (fun _=>rfl)<|an (fun h=>fun M=>⟨rb ?_,M.below⟩) fun h=>an (fun h2=>fun M=>⟨rb ?_,M.below⟩) fun h2=>?_
 ·unfold ji aE;simp at h
  cases e:(decide (0≤l.ay)&&decide (l.ay<(nS:Int))) with
  | false=>rfl
  | true=>simp at e;omega
 ·have hb:aE l.ay (nS:Int)=true:=by unfold aE;simp at h ⊢;omega
  unfold ji;rw[hb,h2];rfl
 ·have hb:aE l.ay (nS:Int)=true:=by unfold aE;simp at h ⊢;omega
  have h3:nC<64:=by simp at h2;omega
  refine lb 0<|an rfl<|Rb M1 (v:=.int .i64 (nC:Int)) (fun a o ho hv=>(BI ho (aQ hv) (cO hv)).trans (by rw[if_neg (by omega)]))<|ei (x:=.int .u64 ((l.cats:Int)/2^nC))<|an (fun a w o ho hv=>(rG ho (aQ hv) (cO hv) (by omega) (show(nC:Int)≤((64:Nat):Int) by omega)).trans (by rw[Int.toNat_natCast]))<|fun M=>⟨rb ?_,M.below⟩
  unfold ji;rw[hb,decide_eq_false (by omega)];rfl
theorem Ht(w:World)(r:kQ)(nS nC:Nat)(hr:r.Ok):Calls Tryz.prog 315 #[.agg #[.int .i64 r.low.ay,.int .u64 r.low.cats,.int .i64 r.high.ay,.int .u64 r.high.cats],.int .i64 (nS:Int),.int .i64 (nC:Int)] w fun e w'=>e=.returned (.bool (iJ nS nC r))∧ajY w.heap.size w w':=by
 refine bU [] (fn:=Tryz.f315) Tryz.func315 rfl Tryz.ntmps315 rfl<|fun g1 w1 M1=>lb 0<|an rfl<|cl<|an (Hu _ r.low nS nC hr.low) fun w2 M2=>lb 0<|an (fun _=>rfl)<|cl<|an (fun _=>Hu _ r.high nS nC hr.high) fun w3 M3=>lb 0<|an (fun _=>rfl)<|lb 0<|an (fun _=>rfl)<|cl<|an (fun _=>Mz _ r.high r.low hr.high hr.low) fun w4 M4=>fun M=>⟨rfl,M.below⟩
theorem u_(w:World)(a b:kQ)(ha:a.Ok)(hb:b.Ok):Calls Tryz.prog 279 #[.agg #[.int .i64 a.low.ay,.int .u64 a.low.cats,.int .i64 a.high.ay,.int .u64 a.high.cats],.agg #[.int .i64 b.low.ay,.int .u64 b.low.cats,.int .i64 b.high.ay,.int .u64 b.high.cats]] w fun e w'=>e=.returned (.bool (kN b.low a.low&&kN a.high b.high))∧ajY w.heap.size w w':=by
 refine bU [] (fn:=Tryz.f279) Tryz.func279 rfl Tryz.ntmps279 rfl<|fun g1 w1 M1=>fun g2 w2 M2=>lb 0<|an rfl<|lb 1<|an rfl<|cl<|an (Mz _ b.low a.low hb.low ha.low) fun w3 M3=>lb 1<|an (fun _=>rfl)<|lb 0<|an (fun _=>rfl)<|cl<|an (fun _=>Mz _ a.high b.high ha.high hb.high) fun w4 M4=>fun M=>⟨rfl,M.below⟩
theorem Mx(w0:World)(s:aq)(hs:s.Ok)(n:Int):Calls Tryz.prog 314 #[.agg #[.int .u64 s.a,.int .u64 s.b,.int .u64 s.c,.int .u64 s.d],.int .i64 n] w0 fun e w'=>e=.returned (.bool (s.mem n))∧ajY w0.heap.size w0 w':=by
 by_cases h:0≤n∧n<256
 ·obtain⟨q,r,hq,hr,rfl⟩:=qL h;rw[z6 hq hr];rcases(show q=0∨q=1∨q=2∨q=3 by omega) with rfl|rfl|rfl|rfl
  all_goals
   refine bU [] (fn:=Tryz.f314) Tryz.func314 rfl Tryz.ntmps314 rfl<|fun g1 w1 M1=>cl<|an (Dl _ _) fun w2 M2=>ei<|an (fun _ a w o ho hv=>Bc hq hr ho (aQ hv) (cO hv))<|ei<|an (fun _=>⟨rfl,by decide⟩)<|lb 0<|an (fun _=>rfl)<|ei<|an (fun _ a w o ho hv=>R7 hr ho (aQ hv) (cO hv))<|ei<|an (fun _ a w o ho hv=>rG ho (aQ hv) (cO hv) (by omega) (show(r:Int)≤((64:Nat):Int) by omega))<|ei<|an (fun _=>rfl)<|fun M=>⟨rb ?_,M.below⟩
   rw[decide_eq_true h.1,decide_eq_true h.2,Bool.true_and,Bool.true_and,Int.toNat_natCast,← O0 (aq.vJ hs _)];rfl
 ·have hno:(decide (0≤n)&&decide (n<256))=false:=by
   rw[Bool.and_eq_false_iff,decide_eq_false_iff_not,decide_eq_false_iff_not];omega
  refine bU [] (fn:=Tryz.f314) Tryz.func314 rfl Tryz.ntmps314 rfl<|fun g1 w1 M1=>cl<|an (Dl _ _) fun w2 M2=>ei (x:=.int .i64 0)<|an (fun h2=>absurd h2 (by rw[hno];decide))<|ei (x:=0)<|an (fun h2=>⟨rfl,by decide⟩)<|lb 0<|an (fun _=>rfl)<|ei (x:=.int .i64 0)<|an (fun h2=>absurd h2 (by rw[hno];decide))<|ei (x:=.int .u64 0)<|an (fun h2=>absurd h2 (by rw[hno];decide))<|ei<|an (fun _=>rfl)<|fun M=>⟨rb ?_,M.below⟩
  rw[show s.mem n=false by unfold aq.mem;rw[decide_eq_false h];rfl,hno];rfl
theorem iz(w:World)(s:aq):Calls Tryz.prog 285 #[.agg #[.int .u64 s.a,.int .u64 s.b,.int .u64 s.c,.int .u64 s.d]] w fun e w'=>e=.returned (.bool (!bD s))∧ajY w.heap.size w w':=by
 refine bU [] (fn:=Tryz.f285) Tryz.func285 rfl Tryz.ntmps285 rfl<|fun g1 w1 M1=>lb 0<|an rfl<|ei (x:=.agg #[.int .u64 0,.int .u64 0,.int .u64 0,.int .u64 0])<|an (bd (by kernel_rfl))<|ei<|an ⟨zx,fun w=>g_ s w⟩<|fun M=>⟨rb (by unfold bD;rw[Bool.not_not]),M.below⟩
structure aA.Md (p:aA):Prop where
 tn:(bf p.types).length≤100000
 bools:p.bools.length≤100000
 lev:∀ e∈p.conds,aY 13 e≤12
 Y7:∀ y∈p.cons,aY 13 y.expr≤12
theorem lZ(w0:World)(c0 c1 c2 c3 c4 c5 c6 c7 c8 c9 c10 c11 c12 c13 c14 c15 c16:Value)(p:aA)(hp:aD w0 c0 c1 c2 c3 c4 c5 c6 c7 c8 c9 c10 c11 c12 c13 c14 c15 c16 p)(s:aq)(hs:s.Ok):Calls Tryz.prog 276 #[.agg #[c0,c1,c2,c3,c4,c5,c6,c7,c8,c9,c10,c11,c12,c13,c14,c15,c16],.agg #[.int .u64 s.a,.int .u64 s.b,.int .u64 s.c,.int .u64 s.d]] w0 (fun r w'=>r=.returned (.bool (s.within (aq.all p.types.length)))∧ajY w0.heap.size w0 w'):=by
 obtain⟨_,_,_,_,_,_,_,_,_,_,_,_,_,_,_,_,_,_,_,_,_,_,_,_,_,_,_,_,_,_,_,_,_,_,rfl,rfl,rfl,rfl,rfl,rfl,rfl,rfl,rfl,rfl,rfl,rfl,rfl,rfl,rfl,rfl,rfl⟩:=hp.open;refine bU [] (fn:=Tryz.f276) Tryz.func276 rfl Tryz.ntmps276 rfl<|fun g1 w1 M1=>fun g2 w2 M2=>dr (by kernel_rfl)<|lb 0<|an rfl<|lb 1<|an rfl<|cl<|an (fun w' hb M'=>Dp w' _)<|cl<|an (fun w' hb M'=>qh w' s _ hs (nj _))<|fun w hb M=>fun M=>⟨rfl,M.below⟩
theorem xZ(w0:World)(c0 c1 c2 c3 c4 c5 c6 c7 c8 c9 c10 c11 c12 c13 c14 c15 c16:Value)(p:aA)(hp:aD w0 c0 c1 c2 c3 c4 c5 c6 c7 c8 c9 c10 c11 c12 c13 c14 c15 c16 p)(s:aq)(hs:s.Ok):Calls Tryz.prog 277 #[.agg #[c0,c1,c2,c3,c4,c5,c6,c7,c8,c9,c10,c11,c12,c13,c14,c15,c16],.agg #[.int .u64 s.a,.int .u64 s.b,.int .u64 s.c,.int .u64 s.d]] w0 (fun r w'=>r=.returned (.bool (lN p.roles.length s))∧ajY w0.heap.size w0 w'):=by
 obtain⟨_,_,_,_,_,_,_,_,_,_,_,_,_,_,_,_,_,_,_,_,_,_,_,_,_,_,_,_,_,_,_,_,_,_,rfl,rfl,rfl,rfl,rfl,rfl,rfl,rfl,rfl,rfl,rfl,rfl,rfl,rfl,rfl,rfl,rfl⟩:=hp.open;refine bU [] (fn:=Tryz.f277) Tryz.func277 rfl Tryz.ntmps277 rfl<|fun g1 w1 M1=>fun g2 w2 M2=>dr (by kernel_rfl)<|lb 0<|an rfl<|lb 1<|an rfl<|cl<|an (fun w' hb M'=>Dp w' _)<|cl<|an (fun w' hb M'=>qh w' s _ hs (nj _))<|lb 0<|an (fun _=>rfl)<|cl<|an (fun _ w' hb M'=>Mx w' s hs 0)<|fun w hb M=>fun M=>⟨rb (Ja hs).symm,M.below⟩
theorem Di(w0:World)(c0 c1 c2 c3 c4 c5 c6 c7 c8 c9 c10 c11 c12 c13 c14 c15 c16:Value)(p:aA)(hp:aD w0 c0 c1 c2 c3 c4 c5 c6 c7 c8 c9 c10 c11 c12 c13 c14 c15 c16 p)(r:kQ)(hr:r.Ok):Calls Tryz.prog 278 #[.agg #[c0,c1,c2,c3,c4,c5,c6,c7,c8,c9,c10,c11,c12,c13,c14,c15,c16],.agg #[.int .i64 r.low.ay,.int .u64 r.low.cats,.int .i64 r.high.ay,.int .u64 r.high.cats]] w0 (fun e w'=>e=.returned (.bool (iJ p.ay.length p.cats.length r))∧ajY w0.heap.size w0 w'):=by
 obtain⟨_,_,_,_,_,_,_,_,_,_,_,_,_,_,_,_,_,_,_,_,_,_,_,_,_,_,_,_,_,_,_,_,_,_,rfl,rfl,rfl,rfl,rfl,rfl,rfl,rfl,rfl,rfl,rfl,rfl,rfl,rfl,rfl,rfl,rfl⟩:=hp.open;refine bU [] (fn:=Tryz.f278) Tryz.func278 rfl Tryz.ntmps278 rfl<|fun g1 w1 M1=>fun g2 w2 M2=>lb 0<|an rfl<|lb 1<|an rfl<|lb 1<|an rfl<|cl<|an (Ht _ r _ _ hr) fun w3 M3=>fun M=>⟨rfl,M.below⟩
theorem tg(w0:World)(c0 c1 c2 c3 c4 c5 c6 c7 c8 c9 c10 c11 c12 c13 c14 c15 c16:Value)(p:aA)(hp:aD w0 c0 c1 c2 c3 c4 c5 c6 c7 c8 c9 c10 c11 c12 c13 c14 c15 c16 p)(n:Int):Calls Tryz.prog 287 #[.agg #[c0,c1,c2,c3,c4,c5,c6,c7,c8,c9,c10,c11,c12,c13,c14,c15,c16],.int .i64 n] w0 (fun e w'=>e=.returned (.bool (aE n (p.classes.length:Int)))∧ajY w0.heap.size w0 w'):=by
 obtain⟨_,_,_,_,_,_,_,_,_,_,_,_,_,_,_,_,_,_,_,_,_,_,_,_,_,_,_,_,_,_,_,_,_,_,rfl,rfl,rfl,rfl,rfl,rfl,rfl,rfl,rfl,rfl,rfl,rfl,rfl,rfl,rfl,rfl,rfl⟩:=hp.open;refine bU [] (fn:=Tryz.f287) Tryz.func287 rfl Tryz.ntmps287 rfl<|fun g1 w1 M1=>lb 0<|an (fun _=>rfl)<|fun M=>⟨rb ?_,M.below⟩
 unfold aE;congr 1
theorem Dh(w0:World)(c0 c1 c2 c3 c4 c5 c6 c7 c8 c9 c10 c11 c12 c13 c14 c15 c16:Value)(p:aA)(hp:aD w0 c0 c1 c2 c3 c4 c5 c6 c7 c8 c9 c10 c11 c12 c13 c14 c15 c16 p)(c v:Int)(hv:Ed v)(hcl:∀ y∈p.classes,y.perms.length≤64):Calls Tryz.prog 283 #[.agg #[c0,c1,c2,c3,c4,c5,c6,c7,c8,c9,c10,c11,c12,c13,c14,c15,c16],.int .i64 c,.int .u32 v] w0 (fun e w'=>e=.returned (.bool (h_ p.classes c v))∧ajY w0.heap.size w0 w'):=by
 have hp':=hp;obtain⟨_,_,_,_,_,_,_,_,_,_,_,_,_,_,_,_,_,_,_,_,_,_,_,_,_,_,_,_,_,_,_,_,_,_,rfl,rfl,rfl,rfl,rfl,rfl,rfl,rfl,rfl,rfl,rfl,rfl,rfl,rfl,rfl,rfl,rfl⟩:=hp.open;by_cases hb:aE c (p.classes.length:Int)=true
 ·obtain⟨h0,h1⟩:=fP.1 hb;obtain⟨i,rfl⟩:=Int.eq_ofNat_of_zero_le h0;have hlt:i<p.classes.length:=by omega
  obtain⟨y,hy⟩:∃ y,p.classes[i]?=some y:=⟨_,ajV hlt⟩;obtain⟨b,o,_,e,⟨pv,rfl,ZW⟩,hc⟩:=au.elt hp.classes (by decide) hy;obtain⟨va,vc,rfl,-⟩:=aJ.get ZW;have h64:=hcl y (ajZ hy);obtain⟨n,rfl⟩:∃ n:Nat,v=(n:Int):=⟨v.toNat,by have:=hv;unfold Ed at this;omega⟩;refine bU [] (fn:=Tryz.f283) Tryz.func283 rfl Tryz.ntmps283 rfl<|fun g1 w1 M1=>lb 0<|an rfl<|cl<|an (tg _ _ _ _ _ _ _ _ _ _ _ _ _ _ _ _ _ _ p (hp'.keep M1.below) _) fun w2 M2=>ei (x:=.int .u64 (n:Int))<|an (fun _ a w o ho hv'=>(dw ho (aQ hv') Oo uR).trans (by rw[wK (by unfold Ed at hv;unfold cW;omega)]))<|lb 0<|an (fun _=>rfl)<|ia<|an (fun _=>⟨e,rfl,hlt⟩)<|lc<|an (fun _=>cL M2.below hc 1 _ rfl)<|ei (x:=.int .u64 ((n:Int)/2^y.perms.length))<|an (fun _ a w o ho hv=>(rG ho (aQ hv) (cO hv) (by omega) (show(y.perms.length:Int)≤((64:Nat):Int) by omega)).trans (by rw[Int.toNat_natCast]))<|fun M=>⟨rb ?_,M.below⟩
  rw[hb];unfold h_;rw[if_pos h0,Int.toNat_natCast,hy];dsimp only;rw[Bool.true_and];by_cases U4:32≤y.perms.length
  ·rw[decide_eq_true (show(32:Int)≤_ by omega),Bool.true_or];have:n/2^y.perms.length=0:=Nat.div_eq_of_lt (Nat.lt_of_lt_of_le (by have:=hv;unfold Ed at this;omega:n<2^32) (Nat.pow_le_pow_right (by decide) U4));refine(decide_eq_true ?_).symm;have e:(n:Int)/2^y.perms.length=((n/2^y.perms.length:Nat):Int):=by simp
   rw[e,this];rfl
  ·rw[decide_eq_false (show ¬ (32:Int)≤_ by omega),Bool.false_or]
 ·have hb':aE c (p.classes.length:Int)=false:=by simpa using hb
  refine bU [] (fn:=Tryz.f283) Tryz.func283 rfl Tryz.ntmps283 rfl<|fun g1 w1 M1=>lb 0<|an rfl<|cl<|an (tg _ _ _ _ _ _ _ _ _ _ _ _ _ _ _ _ _ _ p (hp'.keep M1.below) _) fun w2 M2=>ei (x:=.int .u64 0)<|an (fun h=>absurd h hb)<|lb 0<|an (fun _=>rfl)<|ia (b:=0) (off:=0) (i:=0)<|an (fun h=>absurd h hb)<|lc (x:=.slice none 0 0)<|an (fun h=>absurd h hb)<|ei (x:=.int .u64 0)<|an (fun h=>absurd h hb)<|fun M=>⟨rb ?_,M.below⟩
  rw[hb',uQ hb'];rfl
theorem MA(w0:World)(c0 c1 c2 c3 c4 c5 c6 c7 c8 c9 c10 c11 c12 c13 c14 c15 c16:Value)(p:aA)(hp:aD w0 c0 c1 c2 c3 c4 c5 c6 c7 c8 c9 c10 c11 c12 c13 c14 c15 c16 p)(k:Int):Calls Tryz.prog 284 #[.agg #[c0,c1,c2,c3,c4,c5,c6,c7,c8,c9,c10,c11,c12,c13,c14,c15,c16],.int .i64 k] w0 (fun e w'=>e=.returned (.bool (nQ p.conds.length k))∧ajY w0.heap.size w0 w'):=by
 obtain⟨_,_,e8,-,hm8,-⟩:=au.form hp.conds (by decide);obtain⟨_,_,_,_,_,_,_,_,_,_,_,_,_,_,_,_,_,_,_,_,_,_,_,_,_,_,_,_,_,_,_,_,_,_,rfl,rfl,rfl,rfl,rfl,rfl,rfl,rfl,rfl,rfl,rfl,rfl,rfl,rfl,rfl,rfl,rfl⟩:=hp.open;refine bU [] (fn:=Tryz.f284) Tryz.func284 rfl Tryz.ntmps284 rfl<|fun g1 w1 M1=>lb 0<|an rfl<|an (by omega)<|lb 0<|an (fun _=>rfl)<|fun M=>⟨rb ?_,M.below⟩
 unfold nQ;rw[aj2];simp
theorem Mr(w0:World)(s:ByteArray)(hs:cB s):Calls Tryz.prog 288 #[.string s] w0 (fun r w'=>r=.returned (.bool (d_ s))∧ajY w0.heap.size w0 w'):=by
 have hs':s.size≤140737488355328:=hs
 have h0:(s.toList == (⟨#[]⟩:ByteArray).toList)=decide (s.size=0):=by
  rw[kA,decide_eq_decide];exact⟨fun e=>by rw[e];rfl,fun e=>ByteArray.ext (Array.eq_empty_of_size_eq_zero e)⟩
 refine bU [] (fn:=Tryz.f288) Tryz.func288 rfl Tryz.ntmps288 rfl<|lr (ι:=Nat) (fun m=>[(6,.int .i64 (m:Int))]) (fun m _=>m≤s.size∧∀ i,i<m→qY s i=false) (fun m=>s.size-m) 0 (an ⟨⟨rfl,trivial⟩,fun M=>⟨M,ajW _,fun i h=>absurd h (Nat.not_lt_zero i)⟩⟩ ?_);rintro m w M ⟨hm,hall⟩;refine an (fun h1=>?_) fun h1=>?_
 ·have hlt:m<s.size:=by simp at h1;omega
  have hb:qY s m=(((decide ((bL s m:Int)<33)||decide ((126:Int)<bL s m))||decide ((bL s m:Int)=47))||decide ((bL s m:Int)=34)):=by
   unfold qY;rw[Bool.or_assoc,Bool.or_comm (decide ((bL s m:Int)=34)),← Bool.or_assoc]
  refine ei (x:=m)<|ei (x:=bL s m)<|an ⟨rfl,hlt,gW hlt⟩<|ei (x:=m)<|ei (x:=bL s m)<|an (fun _=>⟨rfl,hlt,gW hlt⟩)<|ei (x:=m)<|ei (x:=bL s m)<|an (fun _=>⟨rfl,hlt,gW hlt⟩)<|ei (x:=m)<|ei (x:=bL s m)<|an (fun _=>⟨rfl,hlt,gW hlt⟩)<|an (fun h2=>fun M=>⟨rb ?_,M.below⟩) fun h2=>an (by omega)<|bk (m+1) ⟨rfl,trivial⟩ (fun M=>⟨M,by omega,fun i hi=>?_⟩) (by dsimp only;omega)
  ·unfold d_;rw[(j3 _ _).2 ⟨m,ajW _,by omega,hb.trans h2⟩];rfl
  ·by_cases e:i=m
   ·subst e;exact hb.trans h2
   ·exact hall i (by omega)
 ·have e:m=s.size:=by simp at h1;omega
  subst e;refine fun M=>⟨rb ?_,M.below⟩
  unfold d_;rw[pU hall,h0,aj2];simp only[Bool.not_false,Bool.true_and,ajX,Bool.not_eq_true',decide_eq_true_eq,decide_eq_false_iff_not];omega
theorem qd{l o:List ByteArray}{s:ByteArray}{i:Nat}(h:l[i]?=some s):gh l o i=aP [s] (o++l.take i):=by
 rw[qM h,Ho,Na];cases hasB (l.take i) s<;>cases hasB o s<;>rfl
end Go.Proofs.YtkkmjdceiocnbaaGreatDoor

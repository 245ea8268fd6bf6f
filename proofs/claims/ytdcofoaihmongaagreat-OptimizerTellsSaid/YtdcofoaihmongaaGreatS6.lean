import Derived.JoinedOf
import Derived.ProofKit
import Derived.Test.YtdcofoaihmongaaGreatChecked
import Derived.Test.YtdcofoaihmongaaGreatRows
import Derived.Test.YtdcofoaihmongaaGreatS5
open Bool renaming and_eq_true→auv
open Go renaming wp_seq_k→auq,wpList_nil→aur,wp_cond_split→aus,wp_block→aut
open Go.RowKit renaming Below→auk
open Int renaming toNat_of_nonneg→auw
open List renaming mem_singleton→aul,mem_of_getElem?→aum,getElem?_eq_getElem→aun,length_append→auo,mem_cons_self→aup,mem_cons_of_mem→auy,mem_append→auz,length_map→auA,getElem?_eq_some_iff→auB,mem_map→auD,take_length→auE,flatMap_append→auF,all_eq_true→auG
open Nat renaming zero_le→auu,le_trans→auC
set_option maxRecDepth 100000
set_option maxHeartbeats 8000000
namespace Go.Proofs.YtdcofoaihmongaaGreat
open Go Go.RowKit
inductive OpW (op:Int):Prop
 | and (h:ML op=297) (hb:∀ x y,OQ op x y=bits .and .u64 x y)
 | or (h:ML op=298) (hb:∀ x y,OQ op x y=bits .or .u64 x y)
 | same (h:ML op=299) (hb:∀ x y,OQ op x y=bits .xor .u64 18446744073709551615 (bits .xor .u64 x y))
 | diff (h:ML op=300) (hb:∀ x y,OQ op x y=bits .xor .u64 x y)
theorem opW(op:Int):OpW op:=by
 by_cases h3:op=3
 ·exact .and (by unfold ML;rw[if_pos h3]) (fun x y=>by unfold OQ;rw[if_pos h3])
 by_cases h4:op=4
 ·exact .or (by unfold ML;rw[if_neg h3,if_pos h4]) (fun x y=>by unfold OQ;rw[if_neg h3,if_pos h4])
 by_cases h6:op=6
 ·exact .same (by unfold ML;rw[if_neg h3,if_neg h4,if_pos h6]) (fun x y=>by unfold OQ;rw[if_neg h3,if_neg h4,if_pos h6])
 ·exact .diff (by unfold ML;rw[if_neg h3,if_neg h4,if_neg h6]) (fun x y=>by unfold OQ;rw[if_neg h3,if_neg h4,if_neg h6])
theorem Bl.acX{d:Nat}{e:aA}(h:Bl d e)(h1:e.op≠1):0<e.kids.length:=by
 have h2:=h.kids;have h3:FH e.op≠0:=fun h4=>h1 (h.op1.1 h4)
 omega
theorem Bl.acW{d:Nat}{e:aA}(h:jo d e)(h1:e.op≠1)(h2:e.op≠2):1<e.kids.length:=by
 cases h with
 | name _ _=>exact absurd rfl h1
 | not _=>exact absurd rfl h2
 | bin _ _ _ _=>exact Nat.lt_succ_self 1
theorem CC{e k:aA}(hk:k∈e.kids){s:ByteArray}(hs:s∈bR k):s∈bR e:=by
 rw[mV];refine List.mem_append_right _ ?_
 have:∀ l:List aA,k∈l→s∈bZ l:=fun l=>by
  induction l with
  | nil=>intro h;cases h
  | cons a l ih=>
   intro h;rw[bZ];rcases List.mem_cons.1 h with rfl|h
   ·exact List.mem_append_left _ hs
   ·exact List.mem_append_right _ (ih h)
 exact this _ hk
theorem Rk{ns:List ByteArray}{e:aA}{sn:ByteArray}(h1:e.op=1)(hs:e.names=[sn]):gW ns e=fG (Hj ns sn:Int) 64:=by
 rw[Dy,Rl,if_pos h1,hs];rfl
theorem U6{ns:List ByteArray}{e y:aA}(h1:e.op≠1)(h2:e.op=2)(hy:e.kids[0]?=some y):gW ns e=bits .xor .u64 18446744073709551615 (gW ns y):=by
 rw[Dy,Rl,if_neg h1,if_pos h2,sP _ _ _ hy]
theorem U7{ns:List ByteArray}{e y z:aA}(h1:e.op≠1)(h2:e.op≠2)(hy:e.kids[0]?=some y)(hz:e.kids[1]?=some z):gW ns e=OQ e.op (gW ns y) (gW ns z):=by
 rw[Dy,Rl,if_neg h1,if_neg h2,sP _ _ _ hy,sP _ _ _ hz]
theorem Ol(ns:List ByteArray)(hn:ns.length≤5):∀ (e:aA) (w0:World) (cs:List Value) (d:Nat),bB w0 cs e→jo d e→∀ lv:Value,SliceAt w0 lv 1 ns.length (ns.flatMap aN)→(∀ s∈bR e,s∈ns)→Calls Tryz.prog 231 #[.agg cs.toArray,lv] w0 (fun(r:Ending) (w':World)=>∃ v,r=.returned v∧((bO w' w0.heap.size v (gW ns e))∧auk w0.heap.size w0 w')):=by
 refine aA.ind fun e ih=>?_
 intro w0 cs d hE hB lv hL hns;have hb:=hB.facts;obtain⟨nv,kv,rfl,Nb,hk⟩:=hE.open;obtain⟨_,_,rfl,-,hng⟩:=bp.get Nb;obtain⟨_,_,rfl,-,yT,-⟩:=aC.form hk (by decide);obtain⟨_,_,rfl,-⟩:=SliceAt.form hL (by decide);refine fL [] (fn:=Tryz.f231) Tryz.func231 rfl Tryz.ntmps231 rfl<|fun g1 w1 M1=>lb 0<|an rfl<|an (fun h=>?_) fun h=>?_
 ·have h1:e.op=1:=by simpa using h
  obtain⟨sn,V5,hsI,hsO⟩:=hb.nm (hb.op1.2 h1);have iN:sn∈ns:=hns sn (by rw[mV,V5];exact List.mem_append_left _ (aul.2 rfl));have hix:=VZ iN;obtain⟨b,o,e1,hc⟩:=hng 0 sn (by rw[V5];rfl);exact lb 0<|an rfl<|ia (i:=0)<|an ⟨e1,rfl,by rw[V5];exact Nat.zero_lt_one⟩<|lc (x:=.string sn)<|an (cell_later M1.below hc)<|cl<|an (KV _ _ ns (hL.keep M1.below) sn iN) fun w2 M2=>cst M2 (Lz _ (Hj ns sn:Int) (by omega) (by omega) ns.length hn) fun g w M M=>⟨_,rfl,⟨_,rfl,by have hW:=M.b 0 rfl;rw[Rk h1 V5];exact hW,M.lo _ (aum (i:=0) rfl)⟩,M.below⟩
 have h1:e.op≠1:=by simpa using h
 have Ux:=hb.acX h1;obtain⟨y,hy⟩:∃ y,e.kids[0]?=some y:=⟨_,aun Ux⟩;have Qy:=aum hy;obtain⟨b,o,_,e1,Nh,hc⟩:=aC.elt hk (by decide) hy;obtain⟨nv',kv',rfl,-⟩:=Nh.open;obtain⟨dy,-,hBy⟩:=hb.kid y Qy;refine lb 0<|an rfl<|ia (i:=0)<|an ⟨e1,rfl,Ux⟩<|lc<|an (dJ M1.below hc)<|cst M1 (ih y Qy _ _ dy (Nh.keep M1.below) hBy _ (hL.keep M1.below) (fun t ht=>hns t (CC Qy ht))) fun gy w3 M3=>lb 1<|an rfl<|an (fun h2=>?_) fun h2=>?_
 ·refine lp (ι:=Nat×Int) (fun(t,x)=>[(33,.int .i64 (t:Int))]) (fun(t,x)=>(gy,52,#[.int .u64 x])::_) (fun _=>[]) (fun(t,x) _=>t≤1∧(t=0→x=gW ns y)∧(t=1→x=bits .xor .u64 18446744073709551615 (gW ns y))) (fun(t,x)=>1-t) (0,gW ns y) (an ⟨⟨rfl,trivial⟩,fun M=>⟨M,by decide,fun _=>rfl,fun h=>by cases h⟩⟩ ?_);rintro⟨t,x⟩ w M ⟨ht,hx0,hx1⟩;refine an (fun h=>?_) fun h M=>⟨_,rfl,⟨_,rfl,by have hW:=M.b 0 rfl;rw[U6 h1 (by simpa using h2) hy,← hx1 (by simp at h;omega)];exact hW,M.lo _ (aum (i:=0) rfl)⟩,M.below⟩
  obtain rfl:t=0:=by simp at h;omega
  obtain rfl:=hx0 rfl;exact ia (i:=0)<|an ⟨rfl,rfl,by decide⟩<|lb 0<|an rfl<|ei (x:=.int .u64 (bits .xor .u64 18446744073709551615 (gW ns y)))<|an (fun a w o ho hv=>Nw ho (qN hv))<|ia (i:=0)<|an ⟨rfl,rfl,by decide⟩<|lb 0<|an ⟨⟨rfl,rfl⟩,Nat.le_refl _⟩ fun w M=>an (by omega)<|bk (1,bits .xor .u64 18446744073709551615 (gW ns y)) ⟨rfl,trivial⟩ (fun M=>⟨M,by omega,(fun h=>by cases h),fun _=>rfl⟩) (by dsimp only;omega)
 have h2:e.op≠2:=by simpa using h2
 have hlz:=Bl.acW hB h1 h2;obtain⟨z,hz⟩:∃ z,e.kids[1]?=some z:=⟨_,aun hlz⟩;have hzm:=aum hz;obtain⟨bz,oz,_,e2,hEz,hcz⟩:=aC.elt hk (by decide) hz;obtain⟨nvz,kvz,rfl,-⟩:=hEz.open;obtain⟨dz,-,hBz⟩:=hb.kid z hzm;rcases opW e.op with⟨hf,hop⟩|⟨hf,hop⟩|⟨hf,hop⟩|⟨hf,hop⟩
 all_goals
  refine lb 1<|an rfl<|cl<|an (hf▸DT _ e.op :) fun w4 M4=>lb 1<|an rfl<|ia (i:=1)<|an ⟨e2,rfl,hlz⟩<|lc<|an (dJ M4.below hcz)<|cst M4 (ih z hzm _ _ dz (hEz.keep M4.below) hBz _ (hL.keep M4.below) (fun t ht=>hns t (CC hzm ht))) fun gz w5 M5=>lp (ι:=Nat×Int) (fun(t,x)=>[(56,.int .i64 (t:Int))]) (fun(t,x)=>_::(gy,52,#[.int .u64 x])::_) (fun _=>[]) (fun(t,x) _=>t≤1∧(t=0→x=gW ns y)∧(t=1→x=OQ e.op (gW ns y) (gW ns z))) (fun(t,x)=>1-t) (0,gW ns y) (an ⟨⟨rfl,trivial⟩,fun M=>⟨M,by decide,fun _=>rfl,fun h=>by cases h⟩⟩ ?_)
  rintro⟨t,x⟩ w M ⟨ht,hx0,hx1⟩;refine an (fun h=>?_) fun h M=>⟨_,rfl,⟨_,rfl,by have hW:=M.b 1 rfl;rw[U7 h1 h2 hy hz,← hx1 (by simp at h;omega)];exact hW,M.lo _ (aum (i:=1) rfl)⟩,M.below⟩
  obtain rfl:t=0:=by simp at h;omega
  obtain rfl:=hx0 rfl;exact ia (i:=0)<|an ⟨rfl,rfl,by decide⟩<|lb 0<|an rfl<|ia (i:=0)<|an ⟨rfl,rfl,by decide⟩<|lb 1<|an rfl<|ei (x:=.agg #[.int .u64 (gW ns y),.int .u64 (gW ns z)])<|an (bd (by kernel_rfl))<|cl (v:=.int .u64 (OQ e.op (gW ns y) (gW ns z)))<|an (by rw[hop];first|exact RK _ _ _|exact Vw _ _ _|exact OO _ _ _|exact GL _ _ _) fun w6 M6=>ia (i:=0)<|an ⟨rfl,rfl,by decide⟩<|lb 1<|an ⟨⟨rfl,rfl⟩,Nat.le_refl _⟩ fun w M=>an (by omega)<|bk (1,OQ e.op (gW ns y) (gW ns z)) ⟨rfl,trivial⟩ (fun M=>⟨M,by omega,(fun h=>by cases h),fun _=>rfl⟩) (by dsimp only;omega)
theorem jo.some{d:Nat}{e:aA}(h:jo d e):0<(bR e).length:=by
 induction h with
 | name _ _=>rw[bR];simp
 | not _ ih=>rw[bR,bZ,bZ];simpa using ih
 | bin _ _ _ _ ih _=>rw[bR,bZ];simp only[List.nil_append,auo];omega
theorem jo.Rp{d:Nat}{e:aA}(h:jo d e):0<(ct e).length:=by
 obtain⟨s,hs⟩:∃ s,s∈bR e:=by
  have:=h.some
  cases hl:bR e with
  | nil=>rw[hl] at this;cases this
  | cons a l=>exact⟨a,aup ..⟩
 exact List.length_pos_of_mem ((zV e s).2 hs)
def oC(e:aA):Bool:=decide (bits .and .u64 (gW (ct e) e) (aY (ct e).length)=aY (ct e).length)
def Iz(e:aA):Bool:=decide (bits .and .u64 (gW (ct e) e) (aY (ct e).length)=0)
theorem EA(w0:World)(cs:List Value)(e:aA)(d:Nat)(hE:bB w0 cs e)(ZY:jo d e)(hd:d≤12)(hn:(ct e).length≤5):Calls Tryz.prog 171 #[.agg cs.toArray] w0 (fun(r:Ending) (w':World)=>r=.returned (.tuple #[.bool (oC e),.bool (oC e||Iz e)])∧auk w0.heap.size w0 w'):=by
 have ZW:=hE;have hn0:=ZY.Rp;obtain⟨_,_,rfl,hnn,hkk⟩:=ZW.open;obtain⟨Vy,Vx,rfl,hnk,hnm,K0⟩:=SliceAt.form hnn (by decide);obtain⟨qa,qc,rfl,hkc,hkm,hcell⟩:=aC.form hkk (by decide);have aM:=qB Tryz.prog Tryz.f171 (fun(r:Ending) (w':World)=>r=.returned (.tuple #[.bool (oC e),.bool (oC e||Iz e)])∧auk w0.heap.size w0 w') 52 2 3 rfl;refine en Tryz.func171 rfl Tryz.ntmps171 rfl (vs:=[.agg #[.int .i64 e.op,.int .i64 e.a,.int .i64 e.rel,.int .i64 e.b,.slice Vy e.names.length Vx,.int .u64 e.set.a,.int .u64 e.set.b,.int .u64 e.set.c,.int .u64 e.set.d,.slice qa e.kids.length qc]]) rfl fun _ F=>?_
 have M:=Mm.start w0;refine auq fun K1 dw=>ah<|oG (on rfl) rfl (F.u rf) rfl F rfl M fun g1 _ _ F M=>xA (v:=.bool false) F rf rf rf fun _ F=>xA (v:=.bool false) F rf rf rf fun _ F=>aur<|dw _ _ ?_
 refine auq fun K2 cQ=>ah<|xW F (M.b 0 rfl) rf rf rf j9 rf eG rf fun _ F=>kx (on rfl) (bw rfl Tryz.func229 acn rfl (args1 (F.u rf))) (LH _ _ e d (hE.keep M.below) ZY hd) rfl F rfl M fun tv _ _ hot hB F _=>?_
 have M:=M.rQ (r:=⟨tv,9,1,_,_⟩) hB hot;obtain⟨ta,tc,rfl⟩:=M.form 0 rfl;refine xA F rf rf rf fun _ F=>aur<|cQ _ _ ?_
 refine auq fun K3 fJ=>auq fun K4 fQ=>ah<|xM F rf rf rf fun _ F=>kz F rf (bA rfl (F.u rf) Dv) fun _ F=>kz F rf (eX rfl (F.u rf) rfl) fun _ F=>xM F rf rf rf fun _ F=>?_
 cases Na:(decide (((ct e).length:Int)=0):Bool) with
 | true=>
  have F:=F.eq 15 rfl (congrArg Value.bool Na);have hd3:=of_decide_eq_true Na;refine ko rfl rfl rfl (F.g 15 rfl) rfl F rfl fun _ F=>ko rfl rfl rfl (F.g 15 rfl) rfl F rfl fun _ F=>ko rfl rfl rfl (F.g 15 rfl) rfl F rfl fun _ F=>ke (u:=.bool true) (on rfl) (bq rfl (F.u rf) rfl (F.u rf)) rfl F rfl rfl fun _ F=>aur<|fQ _ _ ?_
  refine wp_cond_true (F.e 19 rfl) ?_;refine auq fun K5 gL=>ah<|xA (v:=.bool false) F rf rf rf fun _ F=>xA (v:=.bool false) F rf rf rf fun _ F=>aur<|gL _ _ ?_
  refine wp_ret<|aM _ _ _ _ _ F rfl rfl ?_;exact absurd ZY.Rp (by omega)
 | false=>
  have F:=F.eq 15 rfl (congrArg Value.bool Na);have BH:=of_decide_eq_false Na;refine kv (gn rfl rfl (F.g 15 rfl)) (bC rfl (F.u rf)) rfl F rfl fun _ F=>kv (gn rfl rfl (F.g 15 rfl)) (bA rfl (F.u rf) Dv) rfl F rfl fun _ F=>kv (gn rfl rfl (F.g 15 rfl)) (CX rfl (F.u rf) rfl) rfl F rfl fun _ F=>ke (u:=.bool (decide (16<((ct e).length:Int)))) (on rfl) (bq rfl (F.u rf) rfl (F.u rf)) rfl F rfl rfl fun _ F=>aur<|fQ _ _ ?_
  refine aus (F.e 19 rfl) (fun Wi=>?_) (fun Wi=>?_)
  ·have vU:=of_decide_eq_true Wi;refine auq fun K6 iC=>ah<|xA (v:=.bool false) F rf rf rf fun _ F=>xA (v:=.bool false) F rf rf rf fun _ F=>aur<|iC _ _ ?_
   refine wp_ret<|aM _ _ _ _ _ F rfl rfl ?_;exact absurd ZY.Rp (by omega)
  ·have QA:=of_decide_eq_false Wi;refine wp_skip<|fJ _ _ ?_;refine auq fun K7 iO=>ah<|xM F rf rf rf fun _ F=>kz F rf (bA rfl (F.u rf) Dv) fun _ F=>xC F M rf rf afM (args1 (F.u rf)) (P4 _ (ct e).length hn) fun _ _ F M=>xA F rf rf rf fun _ F=>aur<|iO _ _ ?_
   refine auq fun K8 jf=>ah<|xA (v:=.bool true) F rf rf rf fun _ F=>xA (v:=.bool true) F rf rf rf fun _ F=>aur<|jf _ _ ?_
   refine auq fun K9 jW=>auq fun Bh dU=>ah<|xW F (M.b 0 rfl) rf rf rf j9 rf eG rf fun _ F=>xM F rf rf rf fun _ F=>kx (on rfl) (bw rfl Tryz.func231 acj rfl (args2 (F.u rf) (F.u rf))) (Ol (ct e) hn e _ _ d (hE.keep M.below) ZY _ (SliceAt.bM (M.r 0 rfl) (DB _)) (fun t ht=>(zV e t).2 ht)) rfl F rfl M fun sv _ _ hR hB F _=>?_
   obtain⟨gs8,rfl,H9,Hp⟩:=hR;have M:=M.newAt hB H9 Hp;clear H9 Hp;refine kz F rf (bA rfl (F.u rf) Od) fun _ F=>xM (v:=.int .i64 0) F rf rf rf fun _ F=>aur<|dU _ _ ?_
   refine aut<|?_;refine bV (ι:=Nat×Bool×Bool) (fun|(t,x,z),a,w=>Fs a 52 [(5,.int .u64 (aY (ct e).length)),(6,.bool x),(7,.bool z),(25,.slice (some ⟨gs8,0,none⟩) 1 1),(26,.int .i64 1),(27,.int .i64 (t:Int))]∧Mm w0 w [(gs8,52,#[.int .u64 (gW (ct e) e)])] []∧t≤1∧(t=0→x=true∧z=true)∧(t=1→x=oC e∧z=Iz e)) (fun|(t,x,z)=>1-t) (0,true,true) ⟨F.sub ⟨rfl,rfl,rfl,rfl,rfl,rfl,trivial⟩,M.only (.cons_cons _ (.cons _ .slnil)) (.cons _ .slnil),auu _,⟨fun _=>⟨rfl,rfl⟩,fun h=>by cases h⟩⟩ ?_
   (repeat clear F);(repeat clear M)
   rintro⟨t,x,z⟩ _ _ ⟨F,M,ht,hx⟩;refine auq fun I8 gj=>ah<|kz F rf (d_ rfl (F.u rf) (F.u rf)) fun _ F=>aur<|gj _ _ ?_
   refine auq fun I7 fT=>?_
   refine aus (F.e 28 rfl) (fun Pu=>?_) (fun Pu=>?_)
   ·have ZE:=of_decide_eq_true Pu;refine wp_skip<|fT _ _ ?_;refine auq fun Jh gM=>aut<|auq fun NR jg=>?_
    have XB:t=0:=by omega
    obtain⟨rfl,rfl⟩:=hx.1 XB;have F:=F.eq 27 rfl (congrArg (Value.int .i64) (show((t:Nat):Int)=0 by omega))
    refine ah<|
     ke (u:=.pointer (some ⟨gs8,0,none⟩)) (on rfl) (aK (i:=0) rfl (F.u rf) (F.u rf) (by omega) Od iM) rfl F rfl rfl fun _ F=>
     xL F (M.b 0 rfl) rf rf rf Ga rf rf fun _ F=>
     xA F rf rf rf fun _ F=>
     aur<|
     jg _ _ ?_
    refine auq fun W6 mY=>ah<|xM F rf rf rf fun _ F=>xM F rf rf rf fun _ F=>kv (gn rfl rfl (F.g 32 rfl)) (bC rfl (F.u rf)) rfl F rfl fun _ F=>kv (gn rfl rfl (F.g 32 rfl)) (bC rfl (F.u rf)) rfl F rfl fun _ F=>kv (gn rfl rfl (F.g 32 rfl)) (xg rfl (F.u rf) (F.u rf)) rfl F rfl fun _ F=>kv (gn rfl rfl (F.g 32 rfl)) (bC rfl (F.u rf)) rfl F rfl fun _ F=>kv (gn rfl rfl (F.g 32 rfl)) (eX rfl (F.u rf) (F.u rf)) rfl F rfl fun _ F=>ke (u:=.bool (decide (bits .and .u64 (gW (ct e) e) (aY (ct e).length)=aY (ct e).length))) (on rfl) (bq rfl (F.u rf) (F.u rf) rfl) rfl F rfl rfl fun _ F=>xA F rf rf rf fun _ F=>aur<|mY _ _ ?_
    refine ah<|xM F rf rf rf fun _ F=>xM F rf rf rf fun _ F=>kv (gn rfl rfl (F.g 40 rfl)) (bC rfl (F.u rf)) rfl F rfl fun _ F=>kv (gn rfl rfl (F.g 40 rfl)) (bC rfl (F.u rf)) rfl F rfl fun _ F=>kv (gn rfl rfl (F.g 40 rfl)) (xg rfl (F.u rf) (F.u rf)) rfl F rfl fun _ F=>kv (gn rfl rfl (F.g 40 rfl)) (eX rfl (F.u rf) rfl) rfl F rfl fun _ F=>ke (u:=.bool (decide (bits .and .u64 (gW (ct e) e) (aY (ct e).length)=0))) (on rfl) (bq rfl (F.u rf) (F.u rf) rfl) rfl F rfl rfl fun _ F=>xA F rf rf rf fun _ F=>aur<|gM _ _ ?_
    have F:=F.eq 27 rfl (congrArg (Value.int .i64) (show(0:Int)=((t:Nat):Int) by omega))
    refine ah<|
     ke (on rfl) (cL rfl (F.u rf) rfl) rfl F rfl (congrArg (Value.int .i64) (wrap_i64 (by omega))) fun _ F=>
     xM F rf rf rf fun _ F=>
     aur<|?_
    exact⟨(t+1,decide (bits .and .u64 (gW (ct e) e) (aY (ct e).length)=aY (ct e).length),decide (bits .and .u64 (gW (ct e) e) (aY (ct e).length)=0)),⟨F.sub ⟨rfl,rfl,rfl,rfl,rfl,rfl,trivial⟩,M,by omega,⟨fun h=>by omega,fun _=>⟨rfl,rfl⟩⟩⟩,by show 1-(t+1)<1-t;omega⟩
   ·have Hx:=of_decide_eq_false Pu;refine wp_exit<|jW _ _ ?_;refine auq fun K16 tR=>ah<|xM F rf rf rf fun _ F=>xM F rf rf rf fun _ F=>xM F rf rf rf fun _ F=>?_
    cases V6:(x:Bool) with
    | true=>
     have F:=F.eq 47 rfl (congrArg Value.bool V6);have F:=F.eq 49 rfl (congrArg Value.bool V6);refine ko rfl rfl rfl (F.g 49 rfl) rfl F rfl fun _ F=>ke (u:=.bool true) (on rfl) (bq rfl (F.u rf) rfl (F.u rf)) rfl F rfl rfl fun _ F=>xA F rf rf rf fun _ F=>xA F rf rf rf fun _ F=>aur<|tR _ _ ?_
     refine wp_ret<|aM _ _ _ _ _ F rfl rfl ?_;obtain⟨hxa,hxn⟩:=hx.2 (by omega);exact⟨by rw[← hxa,← hxn,(show x=true by assumption)];rfl,M.below⟩
    | false=>
     have F:=F.eq 49 rfl (congrArg Value.bool V6);refine kv (gn rfl rfl (F.g 49 rfl)) (bC rfl (F.u rf)) rfl F rfl fun _ F=>ke (u:=.bool z) (on rfl) (bq rfl (F.u rf) rfl (F.u rf)) rfl F rfl rfl fun _ F=>ke (on rfl) (eC rfl (F.u rf)) rfl F rfl (congrArg Value.bool V6) fun _ F=>xA F rf rf rf fun _ F=>aur<|tR _ _ ?_
     refine wp_ret<|aM _ _ _ _ _ F rfl rfl ?_;obtain⟨hxa,hxn⟩:=hx.2 (by omega);exact⟨by rw[← hxa,← hxn,(show x=false by assumption)];rfl,M.below⟩
def isNum(nB:Nat)(op a:Int):Bool:=decide (op=1)&&decide (0≤a)&&decide (a<(nB:Int))
mutual
def dN(bl:List iP):aA→aA
 | .node op a _ _ _ _ kids=>if isNum bl.length op a=true then .node op 0 0 0 [((bl[a.toNat]?).map (·.name)).getD ⟨#[]⟩] au.zero [] else .node op 0 0 0 [] au.zero (RR bl kids)
def RR(bl:List iP):List aA→List aA
 | []=>[]
 | k::l=>dN bl k::RR bl l
end
theorem GV(bl:List iP):∀ l,RR bl l=l.map (dN bl)
 | []=>by rw[RR];rfl
 | k::l=>by rw[RR,List.map_cons,GV bl l]
theorem VF{bl:List iP}{e:aA}{k:Nat}{y:iP}(h1:e.op=1)(ha:e.a=(k:Int))(hk:k<bl.length)(hy:bl[k]?=some y):dN bl e=.node e.op 0 0 0 [y.name] au.zero []:=by
 cases e with
 | node op a rel b names set kids=>
  have h1:op=1:=h1;have ha:a=(k:Int):=ha;rw[dN,if_pos (by unfold isNum;simp[h1,ha,hk]),ha,Int.toNat_natCast,hy];rfl
theorem YT{bl:List iP}{e:aA}(h:¬ (e.op=1∧0≤e.a∧e.a<(bl.length:Int))):dN bl e=.node e.op 0 0 0 [] au.zero (e.kids.map (dN bl)):=by
 cases e with
 | node op a rel b names set kids=>
  have h:¬ (op=1∧0≤a∧a<(bl.length:Int)):=h;rw[dN,if_neg (by unfold isNum;simp only[auv,decide_eq_true_eq];exact fun h2=>h ⟨h2.1.1,h2.1.2,h2.2⟩),GV];rfl
theorem YU{bl:List iP}{l:List aA}{m:Nat}{y:aA}(hy:l[m]?=some y):(l.map (dN bl))[m]?=some (dN bl y):=by rw[List.getElem?_map,hy];rfl
theorem DW(p:aG)(_:p.Ok):∀ (e:aA) (w0:World) (cs:List Value),bB w0 cs e→uF e→∀ (c0 c1 c2 c3 c4 c5 c6 c7 c8 c9 aW aP aO aU aT aS aR:Value),aL w0 c0 c1 c2 c3 c4 c5 c6 c7 c8 c9 aW aP aO aU aT aS aR p→Calls Tryz.prog 172 #[.agg cs.toArray,.agg #[c0,c1,c2,c3,c4,c5,c6,c7,c8,c9,aW,aP,aO,aU,aT,aS,aR]] w0 (fun(r:Ending) (w':World)=>∃ v,r=.returned v∧(xG w0 (dN p.bools e) v w'∧auk w0.heap.size w0 w')):=by
 refine aA.ind fun e ih=>?_
 intro w0 cs hE iN c0 c1 c2 c3 c4 c5 c6 c7 c8 c9 aW aP aO aU aT aS aR hp;obtain⟨nv,kv,rfl,Nb,hkv⟩:=hE.open;obtain⟨_,_,rfl,-⟩:=bp.get Nb;obtain⟨_,_,rfl,-,hkm,-⟩:=aC.form hkv (by decide);obtain⟨_,_,_,_,_,_,_,_,_,_,_,_,_,_,_,_,_,_,_,_,_,_,_,_,_,_,_,_,_,_,_,_,_,_,rfl,rfl,rfl,rfl,rfl,rfl,rfl,rfl,rfl,rfl,rfl,rfl,rfl,rfl,rfl,rfl,rfl⟩:=hp.open;refine fL [] (fn:=Tryz.f172) Tryz.func172 rfl Tryz.ntmps172 rfl<|fun g1 w1 M1=>fun g2 w2 M2=>ei<|an xH fun g3 w3 M3=>lb 2<|an rfl<|lb 2<|an (fun _=>rfl)<|lb 2<|an (fun _=>rfl)<|lb 1<|an (fun _=>rfl)<|an (fun h=>?_) fun h=>?_
 ·obtain⟨⟨h1,h2⟩,h3⟩:(e.op=1∧0≤e.a)∧e.a<p.bools.length:=by simpa using h
  obtain⟨y,hy⟩:∃ y,p.bools[e.a.toNat]?=some y:=⟨_,aun (by omega)⟩;obtain⟨b,o,e1,hc⟩:=SliceAt.elt hp.bools (fun _=>rfl) (by decide) hy (by omega);rw[VF h1 (k:=e.a.toNat) (by omega) (by omega) hy];exact sp [0,1,2,3,4,5,6,7,8] (.step 9 (.step 10 (.last 11))) [0,1] (by kernel_rfl)<|lb 0<|an rfl<|lb 1<|an rfl<|lb 0<|an rfl<|ia<|an ⟨e1,(auw h2).symm,by omega⟩<|lc (x:=.string y.name)<|an (fun u hu=>dJ hu hc 0 _ rfl)<|fun w hb M=>fun g w M=>an rfl<|ei (x:=.agg #[.int .i64 e.op,.int .i64 0,.int .i64 0,.int .i64 0,.slice (some ⟨g,0,none⟩) 1 1,.int .u64 0,.int .u64 0,.int .u64 0,.int .u64 0,.slice none 0 0])<|an (bd (by kernel_rfl))<|an rfl<|lb 1<|an ⟨rfl,rfl⟩ fun w M=>ei (x:=1)<|an rfl fun M=>⟨_,rfl,⟨_,_,_,_,[⟨.slice none 0 0,89,10,0,[]⟩,⟨.slice (some ⟨g,0,none⟩) 1 1,9,1,1,[.string y.name]⟩],rfl,dA.node (es:=[]) rfl rfl (auy _ (aul.2 rfl)) (aup ..) rfl (by simp) (by simp),((M.Fl 1 1 (by simp[maxLen]) rfl).bX 89 10).iE⟩,M.below⟩
 rw[YT (fun h'=>by simp[h'.1,h'.2.1,h'.2.2] at h)];refine lb 2<|an rfl<|ei (x:=.agg #[.int .i64 e.op,.int .i64 0,.int .i64 0,.int .i64 0,.slice none 0 0,.int .u64 0,.int .u64 0,.int .u64 0,.int .u64 0,.slice none 0 0])<|an (bd (by kernel_rfl))<|ei<|an xH fun g5 w5 M5=>lb 0<|an ⟨rfl,rfl⟩ fun w6 M6=>lb 3<|an rfl<|?_
 refine lp (ι:=Nat×Value×List (List Value)×List Rw) (fun(m,u,es,T)=>[(41,.int .i64 (m:Int))]) (fun(m,u,es,T)=>(g5,89,#[.int .i64 e.op,.int .i64 0,.int .i64 0,.int .i64 0,.slice none 0 0,.int .u64 0,.int .u64 0,.int .u64 0,.int .u64 0,u])::_) (fun(m,u,es,T)=>⟨u,89,10,m,es.flatten⟩::⟨.slice none 0 0,9,1,0,[]⟩::T) (fun(m,u,es,T) _=>m≤e.kids.length∧es.length=m∧(∀ x∈es,x.length=10)∧∀ (i:Nat) x y,es[i]?=some x→(e.kids.map (dN p.bools))[i]?=some y→dA T x y) (fun(m,u,es,T)=>e.kids.length-m) (0,.slice none 0 0,[],[]) (an ⟨⟨rfl,trivial⟩,fun M=>⟨(M.bX 9 1).bX 89 10,auu _,rfl,(fun _ h=>by cases h),fun i x y h=>by simp at h⟩⟩ ?_);rintro⟨m,u,es,T⟩ w M ⟨hm,hl,he,hR⟩;refine an (fun h=>?_) fun h=>?_
 ·have hlt:m<e.kids.length:=by simp at h;omega
  obtain⟨y,hy⟩:∃ y,e.kids[m]?=some y:=⟨_,aun hlt⟩;have Qy:=aum hy;obtain⟨b,o,_,e1,Nh,hc⟩:=aC.elt hkv (by decide) hy;obtain⟨_,_,rfl,hn',hk'⟩:=Nh.open;obtain⟨_,_,rfl,-⟩:=bp.get hn';obtain⟨_,_,rfl,-⟩:=aC.form hk' (by decide);have hkl:=iN.parts.2.1;refine ia<|an ⟨e1,rfl,hlt⟩<|lc<|an (dJ M.below hc)<|ei<|an xH fun g6 w7 M7=>lb 0<|an ⟨rfl,rfl⟩ fun w8 M8=>sp [0,1,2,3,7] (.step 4 (.step 5 (.step 6 (.last 8)))) [1,3,4] (by kernel_rfl)<|lb 1<|an rfl<|lb 2<|an rfl<|lb 0<|an rfl<|fun w9 hb9 M9=>cg<|an (ih y Qy _ _ (Nh.keep M9.below) (iN.parts.2.2 y Qy) _ _ _ _ _ _ _ _ _ _ _ _ _ _ _ _ _ (hp.keep M9.below)) fun v xR ⟨⟨na,nc,ka,kc,T9,hv,Le,Px⟩,SR⟩=>⟨_,_,M9.fR SR Px,?_⟩
  subst hv;exact an rfl<|fun g7 JJ M11=>an rfl<|Ub 0 id rfl (M11.slice 0 rfl (k:=10) (n:=1) rfl rfl (by simp[maxLen])) ⟨by unfold maxLen;omega,by omega⟩ fun va vc Mg Jg=>an rfl<|lb 2<|an ⟨rfl,rfl⟩ fun N_ zh=>an (by omega)<|bk (m+1,.slice va (m+1) vc,es++[[.int .i64 (dN p.bools y).op,.int .i64 (dN p.bools y).a,.int .i64 (dN p.bools y).rel,.int .i64 (dN p.bools y).b,.slice na (dN p.bools y).names.length nc,.int .u64 (dN p.bools y).set.a,.int .u64 (dN p.bools y).set.b,.int .u64 (dN p.bools y).set.c,.int .u64 (dN p.bools y).set.d,.slice ka (dN p.bools y).kids.length kc]],T++T9) ⟨rfl,trivial⟩ (fun M=>⟨(M.only (.cons _ (.cons _ (.refl _))) (.refl _)).cast rfl (by dsimp only;rw[← iF];rfl),by omega,by rw[auo,hl];rfl,kY he rfl,tj (R:=dA) (fun _ _ _ _ hs h=>dA.mono hs h) hl hR (YU hy) (fun r hr=>auz.2 (.inl hr)) (Le.mono fun r hr=>auz.2 (.inr hr))⟩) (by dsimp only;omega)
 obtain rfl:m=e.kids.length:=by simp at h;omega
 obtain⟨x1,y1,rfl⟩:=M.form 0 rfl;refine lb 0<|an rfl<|lb 1<|an ⟨rfl,rfl⟩ fun w M=>ei (x:=1)<|an rfl fun M=>⟨_,rfl,⟨none,0,x1,y1,_,(by rw[show(aA.node e.op 0 0 0 [] au.zero (e.kids.map (dN p.bools))).kids.length=e.kids.length from auA ..];rfl),?_,M.iE⟩,M.below⟩
 rw[show(aA.node e.op 0 0 0 [] au.zero (e.kids.map (dN p.bools))).kids.length=e.kids.length from auA ..];exact dA.node (names:=[]) (set:=au.zero) (es:=es) rfl rfl (auy _ (aup ..)) (by rw[auA];exact aup ..) (by rw[auA];exact hl) he fun i x y h1 h2=>(hR i x y h1 h2).mono fun r hr=>auy _ (auy _ hr)
def kA(x n:Int):Nat→List Int→Int
 | _,[]=>0
 | i,y::l=>if y=x then (i:Int)+1 else if y=n then -(i:Int)-1 else kA x n (i+1) l
theorem Ti{x n y:Int}{m:Nat}{l:List Int}(hy:l[m]?=some y)(h1:y≠x)(h2:y≠n):kA x n m (l.drop m)=kA x n (m+1) (l.drop (m+1)):=by
 obtain⟨hm,rfl⟩:=auB.1 hy;rw[List.drop_eq_getElem_cons hm,kA,if_neg h1,if_neg h2]
theorem ad1{x n y:Int}{m:Nat}{l:List Int}(hy:l[m]?=some y)(h1:y=x):kA x n m (l.drop m)=(m:Int)+1:=by
 obtain⟨hm,rfl⟩:=auB.1 hy;rw[List.drop_eq_getElem_cons hm,kA,if_pos h1]
theorem ad2{x n y:Int}{m:Nat}{l:List Int}(hy:l[m]?=some y)(h1:y≠x)(h2:y=n):kA x n m (l.drop m)=-(m:Int)-1:=by
 obtain⟨hm,rfl⟩:=auB.1 hy;rw[List.drop_eq_getElem_cons hm,kA,if_neg h1,if_pos h2]
theorem Wt{x n:Int}{m:Nat}{l:List Int}(hm:m=l.length):kA x n m (l.drop m)=0:=by rw[hm,List.drop_length,kA]
def iR(N:List ((Unit×Int)×Nat)):List Int:=N.map fun z=>z.1.2
theorem Q5{N:List ((Unit×Int)×Nat)}{m:Nat}{z:(Unit×Int)×Nat}(h:N[m]?=some z):(iR N)[m]?=some z.1.2:=by unfold iR;rw[List.getElem?_map,h];rfl
theorem uW(N:List ((Unit×Int)×Nat)):(iR N).length=N.length:=auA ..
theorem qv{w:World}{g:Nat}{x:Int}(h:Whole w g 52 #[.int .u64 x]):SliceAt w (.slice (some ⟨g,0,none⟩) 1 1) 1 [x].length ([x].flatMap Mj):=oZ (cs:=[.int .u64 x]) h rfl (fun u hu=>by rw[aul.1 hu];rfl)
theorem PG(w0:World)(v:Value)(N:List ((Unit×Int)×Nat))(hs:SliceAt w0 v 1 N.length (N.flatMap om))(hN:cH w0 0 N)(hl:N.length≤100000)(gx gn:Nat)(x n:Int)(hX:Whole w0 gx 52 #[.int .u64 x])(hNx:Whole w0 gn 52 #[.int .u64 n]):Calls Tryz.prog 174 #[v,.slice (some ⟨gx,0,none⟩) 1 1,.slice (some ⟨gn,0,none⟩) 1 1] w0 (fun(r:Ending) (w':World)=>r=.returned (.int .i64 (kA x n 0 (iR N)))∧auk w0.heap.size w0 w'):=by
 obtain⟨la,lc,rfl,hk,hm,hcell⟩:=SliceAt.form hs (by decide);have aM:=hr1 Tryz.prog Tryz.f174 (fun(r:Ending) (w':World)=>r=.returned (.int .i64 (kA x n 0 (iR N)))∧auk w0.heap.size w0 w') 30 6 rfl;refine en Tryz.func174 rfl Tryz.ntmps174 rfl (vs:=[.slice la N.length lc,.slice (some ⟨gx,0,none⟩) 1 1,.slice (some ⟨gn,0,none⟩) 1 1]) rfl fun _ F=>?_
 have M:=Mm.start w0;refine auq fun K1 dw=>ah<|xA (v:=.int .i64 0) F rf rf rf fun _ F=>aur<|dw _ _ ?_
 refine auq fun K2 cQ=>auq fun K3 fJ=>ah<|xM F rf rf rf fun _ F=>kz F rf (bA rfl (F.u rf) Dw) fun _ F=>xM (v:=.int .i64 0) F rf rf rf fun _ F=>aur<|fJ _ _ ?_
 refine aut<|?_;refine bV (ι:=Nat) (fun m a w=>Fs a 30 [(1,.slice (some ⟨gx,0,none⟩) 1 1),(2,.slice (some ⟨gn,0,none⟩) 1 1),(9,.slice la N.length lc),(10,.int .i64 (N.length:Int)),(11,.int .i64 (m:Int))]∧Mm w0 w [] []∧m≤N.length∧kA x n 0 (iR N)=kA x n m ((iR N).drop m)) (fun m=>N.length-m) 0 ⟨F.sub ⟨rfl,rfl,rfl,rfl,rfl,trivial⟩,M,auu _,rfl⟩ ?_
 (repeat clear F);(repeat clear M)
 rintro m _ _ ⟨F,M,hm,hf⟩;refine auq fun K4 fQ=>ah<|kz F rf (d_ rfl (F.u rf) (F.u rf)) fun _ F=>aur<|fQ _ _ ?_
 refine auq fun K5 gL=>?_
 refine aus (F.e 12 rfl) (fun hc1=>?_) (fun hc1=>?_)
 ·have hd2:=of_decide_eq_true hc1;refine wp_skip<|gL _ _ ?_;refine auq fun K6 iC=>aut<|auq fun K7 iO=>?_
  have hlt:m<N.length:=by omega
  obtain⟨z,hz⟩:∃ z,N[m]?=some z:=⟨_,aun hlt⟩;obtain⟨b9,o9,rfl,Pu⟩:=hcell m hlt;have hzw:=(hN z (aum hz)).1;have hzl:=Q5 hz
  have Pn:∀ j uu,[(Value.slice (some ⟨z.2,0,none⟩) 1 1)][j]?=some uu→w0.cell? ⟨b9,o9+m*1+j,none⟩=some uu:=fun j u hu=>Pu j u (by
   rw[gN (f:=om) uY hz j (auB.1 hu).1];exact hu)
  refine ah<|xM F rf rf rf fun _ F=>
   kz F rf (aK (i:=m) rfl (F.u rf) (F.u rf) (by omega) Dw Mn) fun _ F=>
   kz F rf (aD rf (F.u rf) oO rfl ((dJ M.below Pn) 0 _ rfl)) fun _ F=>
   xA F rf rf rf fun _ F=>
   xA F rf rf rf fun _ F=>
   aur<|
   iO _ _ ?_
  refine aut<|auq fun K8 jf=>ah<|xM F rf rf rf fun _ F=>xM F rf rf rf fun _ F=>xC F M rf rf q77 (args2 (F.u rf) (F.u rf)) (pW _ _ _ [z.1.2] [x] (qv (Whole.under M.below hzw hzw.lt)) (qv (Whole.under M.below hX hX.lt))) fun _ _ F M=>xA F rf rf rf fun _ F=>aur<|jf _ _ ?_
  refine aus (F.e 16 rfl) (fun hc3=>?_) (fun hc3=>?_)
  ·have BH:=of_decide_eq_true hc3;have hex:z.1.2=x:=by simpa using hc3
   refine auq fun K9 jW=>ah<|xM F rf rf rf fun _ F=>
    ke (on rfl) (cL rfl (F.u rf) rfl) rfl F rfl (congrArg (Value.int .i64) (wrap_i64 (by omega))) fun _ F=>
    xA F rf rf rf fun _ F=>
    aur<|
    jW _ _ ?_
   refine wp_ret<|aM _ _ _ _ F rfl ?_;exact⟨bE (by rw[hf,ad1 hzl hex]),M.below⟩
  ·have Ao:=of_decide_eq_false hc3;have hex:z.1.2≠x:=by simpa using hc3
   refine auq fun Bh dU=>ah<|xM F rf rf rf fun _ F=>xM F rf rf rf fun _ F=>xC F M rf rf q77 (args2 (F.u rf) (F.u rf)) (pW _ _ _ [z.1.2] [n] (qv (Whole.under M.below hzw hzw.lt)) (qv (Whole.under M.below hNx hNx.lt))) fun _ _ F M=>xA F rf rf rf fun _ F=>aur<|dU _ _ ?_
   refine aus (F.e 22 rfl) (fun je=>?_) (fun je=>?_)
   ·have QA:=of_decide_eq_true je;have hen:z.1.2=n:=by simpa using je
    refine auq fun I8 gj=>ah<|xM F rf rf rf fun _ F=>
     ke (on rfl) (Nt rfl (F.u rf)) rfl F rfl (congrArg (Value.int .i64) (wrap_i64 (by omega))) fun _ F=>
     ke (on rfl) (CW rfl (F.u rf) rfl) rfl F rfl (congrArg (Value.int .i64) (wrap_i64 (by omega))) fun _ F=>
     xA F rf rf rf fun _ F=>
     aur<|
     gj _ _ ?_
    refine wp_ret<|aM _ _ _ _ F rfl ?_;exact⟨bE (by rw[hf,ad2 hzl hex hen];omega),M.below⟩
   ·have Qz:=of_decide_eq_false je;have hen:z.1.2≠n:=by simpa using je
    refine wp_skip<|iC _ _ ?_
    refine ah<|
     ke (on rfl) (cL rfl (F.u rf) rfl) rfl F rfl (congrArg (Value.int .i64) (wrap_i64 (by omega))) fun _ F=>
     xM F rf rf rf fun _ F=>
     aur<|?_
    exact⟨m+1,⟨F.sub ⟨rfl,rfl,rfl,rfl,rfl,trivial⟩,M,by omega,by rw[hf,Ti hzl hex hen]⟩,by show N.length-(m+1)<N.length-m;omega⟩
 ·have Ea:=of_decide_eq_false hc1;refine wp_exit<|cQ _ _ ?_;refine auq fun I7 fT=>ah<|xA (v:=.int .i64 0) F rf rf rf fun _ F=>aur<|fT _ _ ?_
  refine wp_ret<|aM _ _ _ _ F rfl ?_;exact⟨bE (by rw[hf,Wt (by rw[uW];omega)]),M.below⟩
theorem bg.Tf{B:Nat}{w0 w w':World}{bs bs':List Bx}{rs rs':List Rw}(M:bg B w0 w bs rs)(N:bg w.heap.size w w' bs' rs'):bg B w0 w' (bs'++bs) (rs++rs'):=by
 have hb:=N.below;have M':=M.keep hb;have R:=M.fR hb N.iE;refine⟨M'.below,M'.le,M'.old,fun b h=>?_,fun b h=>?_,?_,R.row,fun r hr b h=>?_,R.vC⟩
 ·rcases auz.1 h with h|h
  ·exact N.box b h
  ·exact M'.box b h
 ·rcases auz.1 h with h|h
  ·exact auC M.big (N.lo b h)
  ·exact M'.lo b h
 ·rw[List.map_append];refine List.nodup_append.2 ⟨N.nd,M.nd,?_⟩;intro x hx y hy e;obtain⟨b,hb1,rfl⟩:=auD.1 hx;obtain⟨c,hc1,rfl⟩:=auD.1 hy;have h1:=N.lo b hb1;have h2:=(M.box c hc1).lt;omega
 ·rcases auz.1 h with h|h
  ·rcases auz.1 hr with hr|hr
   ·intro e;have h1:=((M.row r hr).lt _ e).2;have h2:=N.lo b h;omega
   ·exact N.far r hr b h
  ·exact R.far r hr b h
def oA{α:Type}(f:Int→Option α)(k:Int)(v:α):Int→Option α:=fun j=>if j=k then some v else f j
def zf{α:Type}(c:α→Value)(L:List (Int×Value))(f:Int→Option α):Prop:=∀ k,jD L k=(f k).map c
theorem zf.nil{α:Type}(c:α→Value):zf c [] (fun _=>none):=fun _=>rfl
theorem zf.put{α:Type}{c:α→Value}{L:List (Int×Value)}{f:Int→Option α}(h:zf c L f)(k:Int)(v:α):zf c ((k,c v)::gP L k) (oA f k v):=fun j=>by
 rw[yO];unfold oA;by_cases e:j=k
 ·rw[if_pos e,if_pos e];rfl
 ·rw[if_neg e,if_neg e,h j]
theorem zf.get{α:Type}{c:α→Value}{L:List (Int×Value)}{f:Int→Option α}(h:zf c L f)(k:Int)(z:α):(jD L k).getD (c z)=c ((f k).getD z):=by
 rw[h k];cases f k<;>rfl
def yj(c:Int):Int:=if c<0-c then 0-c else c
def Cg(l:List ak)(f:Int→Option Bool):Int→Option Bool:=l.foldl (fun g y=>oA g (yj y.cond) true) f
def F8(l:List bJ)(f:Int→Option Bool):Int→Option Bool:=l.foldl (fun g y=>oA g (yj y.cond) true) f
def zw(p:aG):Int→Option Bool:=F8 p.trans (Cg p.rules fun _=>none)
theorem JM{l:List ak}{f:Int→Option Bool}{m:Nat}{y:ak}(hy:l[m]?=some y):Cg (l.take (m+1)) f=oA (Cg (l.take m) f) (yj y.cond) true:=by
 unfold Cg;rw[bD hy,List.foldl_append];rfl
theorem JL{l:List bJ}{f:Int→Option Bool}{m:Nat}{y:bJ}(hy:l[m]?=some y):F8 (l.take (m+1)) f=oA (F8 (l.take m) f) (yj y.cond) true:=by
 unfold F8;rw[bD hy,List.foldl_append];rfl
structure LU where
 UG:Int→Option Int
 ev:Int→Option Bool
 nv:Int→Option Bool
 seen:List Int
 kids:List aA
def C8(i:Nat)(k:Int)(s:LU):LU:={ s with UG:=oA (oA s.UG ((i:Int)+1) k) (0-((i:Int)+1)) (0-k) }
def ou(p:aG)(i:Nat)(e:aA)(s:LU):LU:=
 if (oC (dN p.bools e)||Iz (dN p.bools e))=true then { s with ev:=oA (oA s.ev ((i:Int)+1) (oC (dN p.bools e))) (0-((i:Int)+1)) (!oC (dN p.bools e)),nv:=oA (oA s.nv ((i:Int)+1) (!oC (dN p.bools e))) (0-((i:Int)+1)) (oC (dN p.bools e)) }
 else if (zw p ((i:Int)+1)).getD false=false then s
 else
  let x:=cM (aY p.bools.length) p.bools.length e
  let k:=kA x (notM (aY p.bools.length) x) 0 s.seen
  if k=0 then C8 i ((s.seen.length:Int)+1) { s with seen:=s.seen++[x],kids:=s.kids++[e] } else C8 i k s
def mJ(p:aG)(i:Nat):List aA→LU→LU
 | [],s=>s
 | e::l,s=>mJ p (i+1) l (ou p i e s)
def cs0:LU:=⟨fun _=>none,fun _=>none,fun _=>none,[],[]⟩
def eD(p:aG)(m:Nat):LU:=mJ p 0 (p.conds.take m) cs0
theorem AP(p:aG):∀ (l:List aA) (i:Nat) (s:LU) (e:aA),mJ p i (l++[e]) s=ou p (i+l.length) e (mJ p i l s)
 | [],i,s,e=>rfl
 | y::l,i,s,e=>by
  rw[List.cons_append,mJ,mJ,AP p l (i+1) _ e,List.length_cons];congr 1;omega
theorem yX{p:aG}{m:Nat}{e:aA}(hy:p.conds[m]?=some e):eD p (m+1)=ou p m e (eD p m):=by
 obtain⟨hm,-⟩:=auB.1 hy;unfold eD;rw[bD hy,AP,List.length_take,Nat.min_eq_left (by omega),Nat.zero_add]
theorem NM{c:Int}(h1:-1000000≤c)(h2:c≤1000000):jq (yj c):=by unfold yj;split<;>constructor<;>omega
theorem pZ{p:aG}{m:Nat}{e:aA}(hy:p.conds[m]?=some e)(h:(oC (dN p.bools e)||Iz (dN p.bools e))=true):eD p (m+1)={ eD p m with ev:=oA (oA (eD p m).ev ((m:Int)+1) (oC (dN p.bools e))) (0-((m:Int)+1)) (!oC (dN p.bools e)),nv:=oA (oA (eD p m).nv ((m:Int)+1) (!oC (dN p.bools e))) (0-((m:Int)+1)) (oC (dN p.bools e)) }:=by rw[yX hy,ou,if_pos h]
theorem t_{p:aG}{m:Nat}{e:aA}(hy:p.conds[m]?=some e)(h:(oC (dN p.bools e)||Iz (dN p.bools e))=false)(hu:(zw p ((m:Int)+1)).getD false=false):eD p (m+1)=eD p m:=by rw[yX hy,ou,if_neg (by rw[h];decide),if_pos hu]
theorem AO{p:aG}{m:Nat}{e:aA}(hy:p.conds[m]?=some e)(h:(oC (dN p.bools e)||Iz (dN p.bools e))=false)(hu:(zw p ((m:Int)+1)).getD false=true)(hk:kA (cM (aY p.bools.length) p.bools.length e) (notM (aY p.bools.length) (cM (aY p.bools.length) p.bools.length e)) 0 (eD p m).seen=0):eD p (m+1)=C8 m (((eD p m).seen.length:Int)+1) { eD p m with seen:=(eD p m).seen++[cM (aY p.bools.length) p.bools.length e],kids:=(eD p m).kids++[e] }:=by
 rw[yX hy,ou,if_neg (by rw[h];decide),if_neg (by rw[hu];decide)];dsimp only;rw[if_pos hk]
theorem AL{p:aG}{m:Nat}{e:aA}(hy:p.conds[m]?=some e)(h:(oC (dN p.bools e)||Iz (dN p.bools e))=false)(hu:(zw p ((m:Int)+1)).getD false=true)(hk:kA (cM (aY p.bools.length) p.bools.length e) (notM (aY p.bools.length) (cM (aY p.bools.length) p.bools.length e)) 0 (eD p m).seen≠0):eD p (m+1)=C8 m (kA (cM (aY p.bools.length) p.bools.length e) (notM (aY p.bools.length) (cM (aY p.bools.length) p.bools.length e)) 0 (eD p m).seen) (eD p m):=by
 rw[yX hy,ou,if_neg (by rw[h];decide),if_neg (by rw[hu];decide)];dsimp only;rw[if_neg hk]
theorem Ny(p:aG):∀ (l:List aA) (i:Nat) (s:LU),(mJ p i l s).seen.length≤s.seen.length+l.length∧(s.kids.length=s.seen.length→(mJ p i l s).kids.length=(mJ p i l s).seen.length)
 | [],i,s=>⟨Nat.le_refl _,fun h=>h⟩
 | e::l,i,s=>by
  have h1:(ou p i e s).seen.length≤s.seen.length+1∧(s.kids.length=s.seen.length→(ou p i e s).kids.length=(ou p i e s).seen.length):=by
   unfold ou;split
   ·exact⟨Nat.le_succ _,fun h=>h⟩
   ·split
    ·exact⟨Nat.le_succ _,fun h=>h⟩
    ·dsimp only;split
     ·exact⟨by simp[C8],fun h=>by simp[C8,h]⟩
     ·exact⟨Nat.le_succ _,fun h=>h⟩
  have h2:=Ny p l (i+1) (ou p i e s);rw[mJ,List.length_cons];exact⟨by omega,fun h=>h2.2 (h1.2 h)⟩
theorem aat(p:aG)(m:Nat):(eD p m).seen.length≤m∧(eD p m).kids.length=(eD p m).seen.length:=by
 have h:=Ny p (p.conds.take m) 0 cs0;have h2:(p.conds.take m).length≤m:=List.length_take_le _ _;have h3:=h.1;exact⟨auC h3 (by show 0+_≤m;omega),h.2 rfl⟩
theorem CT(x n:Int):∀ (l:List Int) (i:Nat),-((i:Int)+l.length)≤kA x n i l∧kA x n i l≤(i:Int)+l.length
 | [],i=>by rw[kA];constructor<;>simp<;>omega
 | y::l,i=>by
  have h:=CT x n l (i+1);rw[kA,List.length_cons];split
  ·constructor<;>omega
  ·split
   ·constructor<;>omega
   ·constructor<;>omega
theorem KS{T T9:List Rw}{es:List (List Value)}{ks:List aA}{x:List Value}{y:aA}(hl:es.length=ks.length)(h:∀ (i:Nat) x y,es[i]?=some x→ks[i]?=some y→dA T x y)(hx:dA T9 x y):
 ∀ (i:Nat) x' y',(es++[x])[i]?=some x'→(ks++[y])[i]?=some y'→dA (T++T9) x' y':=fun i x' y' h1 h2=>by
 by_cases hi:i<es.length
 ·rw[List.getElem?_append_left hi] at h1;rw[List.getElem?_append_left (by omega)] at h2;exact(h i x' y' h1 h2).mono fun r hr=>auz.2 (.inl hr)
 ·have hlt:=(auB.1 h1).1;rw[auo,List.length_singleton] at hlt;obtain rfl:i=es.length:=by omega
  rw[List.getElem?_append_right (Nat.le_refl _),Nat.sub_self] at h1;rw[hl,List.getElem?_append_right (Nat.le_refl _),Nat.sub_self] at h2;obtain rfl:x=x':=by simpa using h1
  obtain rfl:y=y':=by simpa using h2
  exact hx.mono fun r hr=>auz.2 (.inr hr)
theorem JI{α:Type}(N:List ((α×Int)×Nat)):∀ u∈N.flatMap om,u.oneCell'=true:=fun u hu=>by
 obtain⟨z,-,hz⟩:=List.mem_flatMap.1 hu;simp only[om,aul] at hz;rw[hz];rfl
def aaN(p:aG)(w0:World)(v:Value)(w':World):Prop:=∃ (mA mB mC:Nat) (LA LB LC:List (Int×Value)) (a:Option Addr) (c:Nat) (es:List (List Value)) (T:List Rw),v=.agg #[.map (some mA),.map (some mB),.map (some mC),.slice a (eD p p.conds.length).kids.length c]∧Mm w0 w' [(mC,9003,eu LC),(mB,9003,eu LB),(mA,9003,eu LA)] (⟨.slice a (eD p p.conds.length).kids.length c,89,10,(eD p p.conds.length).kids.length,es.flatten⟩::T)∧zf (Value.int .i64) LA (eD p p.conds.length).UG∧zf Value.bool LB (eD p p.conds.length).ev∧zf Value.bool LC (eD p p.conds.length).nv∧es.length=(eD p p.conds.length).kids.length∧(∀ x∈es,x.length=10)∧(∀ (i:Nat) x y,es[i]?=some x→(eD p p.conds.length).kids[i]?=some y→dA T x y)
theorem OH{w:World}{B g:Nat}{x:Value}(h:w.ownsRow B 52 1 (.slice (some ⟨g,0,none⟩) 1 1) 1 [x]):Whole w g 52 #[x]:=by
 obtain⟨-,⟨h,-⟩|⟨g',cap,cur,hv,-,hg,-,-,hs,ht⟩⟩:=h
 ·cases h
 ·cases hv;rw[List.take_of_length_le (by simp[hs])] at ht;obtain rfl:cur=#[x]:=by rw[← ht]
  exact hg
def Yl(z:(Unit×Int)×Nat):Rw:=⟨.slice (some ⟨z.2,0,none⟩) 1 1,52,1,1,[.int .u64 z.1.2]⟩
theorem VL{B:Nat}{w0 w:World}{bs:List Bx}{rs T:List Rw}{N:List ((Unit×Int)×Nat)}(M:bg B w0 w bs rs)(h:∀ z∈N,Yl z∈T)(hs:∀ r∈T,r∈rs):cH w 0 N:=fun z hz=>⟨OH (M.row _ (hs _ (h z hz))),auu _⟩
theorem JW(w0:World)(c0 c1 c2 c3 c4 c5 c6 c7 c8 c9 aW aP aO aU aT aS aR:Value)(p:aG)(hp:aL w0 c0 c1 c2 c3 c4 c5 c6 c7 c8 c9 aW aP aO aU aT aS aR p)(hok:p.Ok)(iN:qg p)(hn:p.bools.length≤5)(hcl:p.conds.length≤900)(Wg:∀ y∈p.rules,-1000000≤y.cond∧y.cond≤1000000)(Wf:∀ y∈p.trans,-1000000≤y.cond∧y.cond≤1000000)(ZX:∀ e∈p.conds,∃ d,d≤12∧jo d (dN p.bools e)∧(ct (dN p.bools e)).length≤5):Calls Tryz.prog 87 #[.agg #[c0,c1,c2,c3,c4,c5,c6,c7,c8,c9,aW,aP,aO,aU,aT,aS,aR]] w0 (fun(r:Ending) (w':World)=>∃ v,r=.returned v∧aaN p w0 v w'):=by
 obtain⟨_,_,_,_,_,_,_,_,_,_,_,_,_,_,_,_,_,_,_,_,_,_,_,_,_,_,_,_,_,_,_,_,_,_,rfl,rfl,rfl,rfl,rfl,rfl,rfl,rfl,rfl,rfl,rfl,rfl,rfl,rfl,rfl,rfl,rfl⟩:=hp.open;obtain⟨_,_,-,-,hmR,-⟩:=SliceAt.form hp.rules (by decide);obtain⟨_,_,-,-,hmT,-⟩:=SliceAt.form hp.trans (by decide);refine fL [] (fn:=Tryz.f87) Tryz.func87 rfl Tryz.ntmps87 rfl<|fun g1 w1 M1=>ei<|an QK fun g2 w2 M2=>mmk M2 fun mu w3 M3=>lb 2<|an rfl<|lp (ι:=Nat×List (Int×Value)) (fun(m,L)=>[(22,.int .i64 (m:Int))]) (fun(m,L)=>(mu,9003,eu L)::_) (fun _=>[]) (fun(m,L) _=>m≤p.rules.length∧zf Value.bool L (Cg (p.rules.take m) fun _=>none)) (fun(m,L)=>p.rules.length-m) (0,[]) (an ⟨⟨rfl,trivial⟩,fun M=>⟨M,auu _,zf.nil _⟩⟩ ?_)
 rintro⟨m,L⟩ w M ⟨hm,hU⟩;refine an (fun h=>?_) fun h=>?_
 ·have hlt:m<p.rules.length:=by simp at h;omega
  obtain⟨y,hy⟩:∃ y,p.rules[m]?=some y:=⟨_,aun hlt⟩;obtain⟨b,o,e,hc⟩:=SliceAt.elt hp.rules (fun _=>rfl) (by decide) hy hlt;have hcb:=Wg y (aum hy);exact ia<|an ⟨e,rfl,hlt⟩<|lc<|an (dJ M.below hc)<|ei<|an oy fun g3 w4 M4=>lb 0<|an ⟨rfl,rfl⟩ fun w5 M5=>lb 0<|an rfl<|lb 0<|an rfl<|an (by omega)<|fbp M5 (v:=.int .i64 (yj y.cond)) (fun a o ho hv=>Eu ho (qN hv) (yx hv))<|R3 M5 1 rfl zx (NM hcb.1 hcb.2) fun w6 M6=>an (by omega)<|bk (m+1,(yj y.cond,.bool true)::gP L (yj y.cond)) ⟨rfl,trivial⟩ (fun M=>⟨M.only (.cons _ (.refl _)) (.refl _),by omega,by rw[JM hy];exact hU.put _ true⟩) (by dsimp only;omega)
 obtain rfl:m=p.rules.length:=by simp at h;omega
 rw[auE] at hU;clear M M1 M2 M3 hm h;refine lb 2<|an rfl<|lp (ι:=Nat×List (Int×Value)) (fun(m,L)=>[(37,.int .i64 (m:Int))]) (fun(m,L)=>(mu,9003,eu L)::_) (fun _=>[]) (fun(m,L) _=>m≤p.trans.length∧zf Value.bool L (F8 (p.trans.take m) (Cg p.rules fun _=>none))) (fun(m,L)=>p.trans.length-m) (0,L) (an ⟨⟨rfl,trivial⟩,fun M=>⟨M,auu _,hU⟩⟩ ?_);clear hU L;rintro⟨m,L⟩ w M ⟨hm,hU⟩;refine an (fun h=>?_) fun h=>?_
 ·have hlt:m<p.trans.length:=by simp at h;omega
  obtain⟨y,hy⟩:∃ y,p.trans[m]?=some y:=⟨_,aun hlt⟩;obtain⟨b,o,e,hc⟩:=SliceAt.elt hp.trans (fun _=>rfl) (by decide) hy hlt;have hcb:=Wf y (aum hy);exact ia<|an ⟨e,rfl,hlt⟩<|lc<|an (dJ M.below hc)<|ei<|an NT fun g3 w4 M4=>lb 0<|an ⟨rfl,rfl⟩ fun w5 M5=>lb 0<|an rfl<|lb 0<|an rfl<|an (by omega)<|fbp M5 (v:=.int .i64 (yj y.cond)) (fun a o ho hv=>Eu ho (qN hv) (yx hv))<|R3 M5 1 rfl zx (NM hcb.1 hcb.2) fun w6 M6=>an (by omega)<|bk (m+1,(yj y.cond,.bool true)::gP L (yj y.cond)) ⟨rfl,trivial⟩ (fun M=>⟨M.only (.cons _ (.refl _)) (.refl _),by omega,by rw[JL hy];exact hU.put _ true⟩) (by dsimp only;omega)
 obtain rfl:m=p.trans.length:=by simp at h;omega
 rw[auE] at hU;replace hU:zf Value.bool L (zw p):=hU;refine mmk M fun mA wA MA=>mmk MA fun mB wB MB=>mmk MB fun mC wC MC=>ei (x:=.agg #[.map (some mA),.map (some mB),.map (some mC),.slice none 0 0])<|an (bd (by kernel_rfl))<|ei<|an QK fun g5 w7 M7=>lb 0<|an ⟨rfl,rfl⟩ fun w8 M8=>lb 6<|an rfl<|cg<|an (mw _ _ _ _ _ _ _ _ _ _ _ _ _ _ _ _ _ _ p.bools.length _ hn) fun v w9 ⟨⟨tp,mb,hv,hT,_,h1,_⟩,hb9⟩=>⟨_,_,M8.newAt hb9 hT h1,?_⟩
 subst hv;clear M MA MB MC M7 M8 hT hm h hb9
 refine lb 7<|an rfl<|lp (ι:=Nat×List (Int×Value)×List (Int×Value)×List (Int×Value)×List ((Unit×Int)×Nat)×Value×Value×List (List Value)×List Rw) (fun(m,LA,LB,LC,N,vs,vk,es,T)=>[(10,vs),(58,.int .i64 (m:Int))]) (fun(m,LA,LB,LC,N,vs,vk,es,T)=>_::(g5,159,#[.map (some mA),.map (some mB),.map (some mC),vk])::(mC,9003,eu LC)::(mB,9003,eu LB)::(mA,9003,eu LA)::_) (fun(m,LA,LB,LC,N,vs,vk,es,T)=>⟨vs,139,1,N.length,N.flatMap om⟩::⟨vk,89,10,N.length,es.flatten⟩::T)
  (fun(m,LA,LB,LC,N,vs,vk,es,T) _=>m≤p.conds.length∧zf (Value.int .i64) LA (eD p m).UG∧zf Value.bool LB (eD p m).ev∧zf Value.bool LC (eD p m).nv∧iR N=(eD p m).seen∧(∀ z∈N,Yl z∈T)∧es.length=N.length∧(∀ x∈es,x.length=10)∧∀ (i:Nat) x y,es[i]?=some x→(eD p m).kids[i]?=some y→dA T x y) (fun(m,_)=>p.conds.length-m) (0,[],[],[],[],.slice none 0 0,.slice none 0 0,[],[])
  (an ⟨⟨rfl,rfl,trivial⟩,fun M=>⟨(M.bX 89 10).bX 139 1,auu _,zf.nil _,zf.nil _,zf.nil _,rfl,(fun _ h=>by cases h),rfl,(fun _ h=>by cases h),fun i x y h=>by simp at h⟩⟩ ?_)
 rintro⟨m,LA,LB,LC,N,vs,vk,es,T⟩ w M ⟨hm,hA,hB,hC,XQ,hNr,hes,BG,hR⟩;have hcs:=aat p m;have hsl:N.length=(eD p m).seen.length:=by rw[← XQ,uW]
 refine an (fun h=>?_) fun h=>?_
 ·have hlt:m<p.conds.length:=by simp at h;omega
  obtain⟨e,hy⟩:∃ e,p.conds[m]?=some e:=⟨_,aun hlt⟩;have hye:=aum hy;obtain⟨b,o,_,e1,hE,hc⟩:=aC.elt hp.conds (by decide) hy;obtain⟨_,_,rfl,hn',hk'⟩:=hE.open;obtain⟨_,_,rfl,-⟩:=bp.get hn';obtain⟨_,_,rfl,-⟩:=aC.form hk' (by decide);have hsE:=iN.X6 e hye;obtain⟨d,hd,ZY,hnN⟩:=ZX e hye;refine ia<|an ⟨e1,rfl,hlt⟩<|lc<|an (dJ M.below hc)<|ei<|an xH fun g6 xR sA=>lb 0<|an ⟨rfl,rfl⟩ fun JJ M11=>an (by omega)<|lb 0<|an rfl<|lb 8<|an rfl<|cg<|an (DW p hok e _ _ (hE.keep M11.below) hsE _ _ _ _ _ _ _ _ _ _ _ _ _ _ _ _ _ (hp.keep M11.below)) fun v Mg ⟨⟨na,nc,ka,kc,T9,hv,Le,Px⟩,H6⟩=>⟨_,_,M11.keep H6,?_⟩
  subst hv;have Jg:=M11.keep H6;refine cl<|an (EA _ _ (dN p.bools e) d (Le.at_ Px) ZY hd hnN) fun N_ zh=>an (fun hc0=>?_) fun hc0=>?_
  ·refine sp [0,1,2,3,4,5,6,7,8] (.step 9 (.last 10)) [6] (by kernel_rfl)<|lb 0<|an rfl<|lb 0<|an rfl<|fun Ut anO Jf=>R3 Jf 4 rfl zx (by constructor<;>omega) fun N9 FK=>an rfl<|R3 FK 3 rfl zx (by constructor<;>omega) fun Xb LO=>sp [0,1,2,3,4,5,6,7,8,9,10] (.step 11 (.last 12)) [6] (by kernel_rfl)<|lb 0<|an rfl<|an (by omega)<|lb 0<|an rfl<|an (by omega)<|fun Xa anM W4=>R3 W4 4 rfl zx (by constructor<;>omega) fun w18 WZ=>an rfl<|R3 WZ 3 rfl zx (by constructor<;>omega) fun w19 Ya=>an (by omega)<|bk (m+1,LA,_,_,N,vs,vk,es,T) ⟨rfl,rfl,trivial⟩ (fun M=>⟨M.only (.cons _ (.refl _)) (.refl _),by omega,by rw[pZ hy hc0];exact hA,by rw[pZ hy hc0];exact(hB.put _ _).put _ _,by rw[pZ hy hc0];exact(hC.put _ _).put _ _,by rw[pZ hy hc0];exact XQ,hNr,hes,BG,by rw[pZ hy hc0];exact hR⟩) (by dsimp only;omega)
  refine ml1 zh 6 rfl zx (fun _=>rfl) (by constructor<;>omega) fun Jf=>?_
  rw[hU.get];refine an (fun hu=>?_) fun hu=>?_
  ·have hu0:(zw p ((m:Int)+1)).getD false=false:=by simpa using hu
   exact an (by omega)<|bk (m+1,LA,LB,LC,N,vs,vk,es,T) ⟨rfl,rfl,trivial⟩ (fun M=>⟨M.only (.cons _ (.refl _)) (.refl _),by omega,by rw[t_ hy hc0 hu0];exact hA,by rw[t_ hy hc0 hu0];exact hB,by rw[t_ hy hc0 hu0];exact hC,by rw[t_ hy hc0 hu0];exact XQ,hNr,hes,BG,by rw[t_ hy hc0 hu0];exact hR⟩) (by dsimp only;omega)
  have hu0:(zw p ((m:Int)+1)).getD false=true:=by simpa using hu
  refine lb 0<|an rfl<|cst Jf (uZ e _ _ tp mb _ _ _ _ _ _ _ _ _ _ _ _ _ _ _ _ _ p.bools.length _ _ hn (Jf.b 1 rfl) (hE.keep Jf.below)) fun gw N9 FK=>cst FK (yM _ tp mb _ _ _ _ _ _ _ _ _ _ _ _ _ _ _ _ _ p.bools.length _ _ (FK.b 2 rfl) gw _ (FK.b 0 rfl)) fun gq Xb LO=>?_
  have hnr:=VL LO hNr fun r hr=>auy _ (auy _ hr)
  refine cl<|an (PG _ _ N (SliceAt.bM (LO.r 0 rfl) (JI N)) hnr (by omega) gw gq _ _ (LO.b 1 rfl) (LO.b 0 rfl)) fun Xa W4=>?_
  have hfb:=CT (cM (aY p.bools.length) p.bools.length e) (notM (aY p.bools.length) (cM (aY p.bools.length) p.bools.length e)) (iR N) 0;rw[uW] at hfb;refine an (fun hk=>?_) fun hk=>?_
  ·have hk0:kA (cM (aY p.bools.length) p.bools.length e) (notM (aY p.bools.length) (cM (aY p.bools.length) p.bools.length e)) 0 (eD p m).seen=0:=by rw[← XQ];exact of_decide_eq_true hk
   refine sp [1,4,5,6] (.alt (.step 0 (.step 2 (.step 3 (.step 7 (.step 8 (.step 9 (.step 10 (.step 11 (.last 12))))))))) (.step 2 (.step 0 (.step 3 (.step 7 (.step 8 (.step 9 (.step 10 (.step 11 (.last 12)))))))))) [6,8] (by kernel_rfl)<|lb 0<|an rfl<|lb 1<|an rfl<|fun w18 ag_ WZ=>an (an rfl<|fun g7 w19 Ya=>an rfl<|?_) (fun g7 w19 Ya=>an rfl<|an rfl<|?_)
   all_goals
    refine Ub 0 id rfl (Ya.slice 0 rfl (k:=1) (n:=1) rfl rfl (by simp[maxLen])) ⟨by unfold maxLen;omega,by omega⟩ fun va vc w20 M20=>an rfl<|cg<|an (vJ e _ _ (hE.keep M20.below) hsE) fun v w21 ⟨⟨xn,xc,xk,xd,T7,hv,hT7,hR7⟩,ag9⟩=>⟨_,_,M20.fR ag9 hR7,?_⟩
    subst hv;refine an rfl<|fun g9 w22 M22=>an rfl<|Ub 1 id rfl (M22.slice 0 rfl (k:=10) (n:=1) rfl rfl (by simp[maxLen])) ⟨by unfold maxLen;omega,by omega⟩ fun vb vd w23 M23=>an rfl<|an rfl<|an rfl<|lb 6<|an ⟨rfl,rfl⟩ fun w24 M24=>?_
    refine sp [0,1,2,3,4,5,6,7,8,9] (.step 10 (.last 11)) [6] (by kernel_rfl)<|lb 0<|an rfl<|lb 0<|an rfl<|an (by omega)<|an (by omega)<|fun w25 anL M25=>R3 M25 9 rfl Oc (by constructor<;>omega) fun w26 M26=>an rfl<|R3 M26 9 rfl Oc (by constructor<;>omega) fun w27 M27=>an (by omega)<|bk (m+1,_,LB,LC,N++[(((),cM (aY p.bools.length) p.bools.length e),gw)],.slice va (N.length+1) vc,.slice vb (N.length+1) vd,es++[[.int .i64 e.op,.int .i64 e.a,.int .i64 e.rel,.int .i64 e.b,.slice xn e.names.length xc,.int .u64 e.set.a,.int .u64 e.set.b,.int .u64 e.set.c,.int .u64 e.set.d,.slice xk e.kids.length xd]],Yl (((),cM (aY p.bools.length) p.bools.length e),gw)::(T++T7)) ⟨rfl,rfl,trivial⟩ (fun M=>⟨(((M.only (.cons _ (.cons _ (.cons _ (.cons_cons _ (.cons _ (.refl _)))))) (.refl _)).Fl 1 1 (by simp[maxLen]) rfl).perm (List.perm_middle (l₁:=[_,_])).symm).cast rfl (by dsimp only;rw[auF,auo,← iF];rfl),by omega,?_,by rw[AO hy hc0 hu0 hk0];exact hB,by rw[AO hy hc0 hu0 hk0];exact hC,?_,?_,by rw[auo,auo,hes];rfl,kY BG rfl,?_⟩) (by dsimp only;omega)
    ·rw[AO hy hc0 hu0 hk0];show zf _ _ (oA (oA (eD p m).UG _ (((eD p m).seen.length:Int)+1)) _ (0-(((eD p m).seen.length:Int)+1)));rw[← hsl];exact(hA.put _ _).put _ _
    ·rw[AO hy hc0 hu0 hk0];show iR (N++[_])=(eD p m).seen++[_];rw[← XQ];unfold iR;rw[List.map_append];rfl
    ·intro z hz;rcases auz.1 hz with hz|hz
     ·exact auy _ (auz.2 (.inl (hNr z hz)))
     ·rw[aul.1 hz];exact aup ..
    ·rw[AO hy hc0 hu0 hk0];exact fun i x y h1 h2=>(KS (hes.trans (hsl.trans hcs.2.symm)) hR hT7 i x y h1 h2).mono fun r hr=>auy _ hr
  ·have hk0:kA (cM (aY p.bools.length) p.bools.length e) (notM (aY p.bools.length) (cM (aY p.bools.length) p.bools.length e)) 0 (eD p m).seen≠0:=by rw[← XQ];exact of_decide_eq_false hk
   exact sp [0,1,2,3,4,5,6,7,8,9] (.step 10 (.last 11)) [6] (by kernel_rfl)<|lb 0<|an rfl<|lb 0<|an rfl<|an (by omega)<|an (by omega)<|fun w18 ag_ WZ=>R3 WZ 7 rfl Oc (by constructor<;>omega) fun w19 Ya=>an rfl<|R3 Ya 7 rfl Oc (by constructor<;>omega) fun w20 M20=>an (by omega)<|bk (m+1,_,LB,LC,N,vs,vk,es,T) ⟨rfl,rfl,trivial⟩ (fun M=>⟨M.only (.cons _ (.cons _ (.cons _ (.refl _)))) (.refl _),by omega,by rw[AL hy hc0 hu0 hk0,← XQ];exact(hA.put _ _).put _ _,by rw[AL hy hc0 hu0 hk0];exact hB,by rw[AL hy hc0 hu0 hk0];exact hC,by rw[AL hy hc0 hu0 hk0];exact XQ,hNr,hes,BG,by rw[AL hy hc0 hu0 hk0];exact hR⟩) (by dsimp only;omega)
 obtain rfl:m=p.conds.length:=by simp at h;omega
 have hkl:=hsl.trans hcs.2.symm;obtain⟨va,vc,rfl⟩:=M.form 1 rfl;exact lb 1<|an rfl<|lb 6<|an ⟨rfl,rfl⟩ fun w21 M21=>ei (x:=6)<|an rfl fun M=>⟨_,rfl,mA,mB,mC,LA,LB,LC,va,vc,es,T,by rw[← hkl],by rw[← hkl];exact M.only (.cons _ (.cons _ (.cons_cons _ (.cons_cons _ (.cons_cons _ (.cons _ (.cons _ (.cons _ .slnil)))))))) (.cons _ (.refl _)),hA,hB,hC,hes.trans hkl,BG,hR⟩
def uw(sc:LU)(k:Int):Int×Bool:=if (sc.ev k).getD false=true then (0,true) else ((sc.UG k).getD 0,!((sc.nv k).getD false))
theorem xD(w0:World)(mA mB mC:Nat)(LA LB LC:List (Int×Value))(kv:Value)(sc:LU)(hMA:aX w0 Tryz.prog 3 mA (LA.map ival))(hMB:aX w0 Tryz.prog 3 mB (LB.map ival))(hMC:aX w0 Tryz.prog 3 mC (LC.map ival))(hA:zf (Value.int .i64) LA sc.UG)(hB:zf Value.bool LB sc.ev)(hC:zf Value.bool LC sc.nv)(k:Int)(hk:jq k):Calls Tryz.prog 88 #[.agg #[.map (some mA),.map (some mB),.map (some mC),kv],.int .i64 k] w0 (fun(r:Ending) (w':World)=>r=.returned (.tuple #[.int .i64 (uw sc k).1,.bool (uw sc k).2])∧auk w0.heap.size w0 w'):=by
 have aM:=qB Tryz.prog Tryz.f88 (fun(r:Ending) (w':World)=>r=.returned (.tuple #[.int .i64 (uw sc k).1,.bool (uw sc k).2])∧auk w0.heap.size w0 w') 19 4 5 rfl;refine en Tryz.func88 rfl Tryz.ntmps88 rfl (vs:=[.agg #[(.map (some mA)),(.map (some mB)),(.map (some mC)),kv],.int .i64 k]) rfl fun _ F=>?_
 have M:=Mm.start w0;refine auq fun K1 dw=>ah<|oG (on rfl) rfl (F.u rf) rfl F rfl M fun g1 _ _ F M=>xA (v:=.int .i64 0) F rf rf rf fun _ F=>xA (v:=.bool false) F rf rf rf fun _ F=>aur<|dw _ _ ?_
 refine auq fun K2 cQ=>auq fun K3 fJ=>ah<|xF 1 F rf rf rf Yy rf Xg rf fun _ F=>xL F (M.b 0 rfl) rf rf rf zx rf rf fun _ F=>xM F rf rf rf fun _ F=>
  ke (on rfl) (pX (z:=.bool false) zx (by kernel_rfl) (hMB.kept (M.below.block _ hMB.lt)) rfl (F.u rf) (F.u rf) (by exact hk)) rfl F rfl (show _=(.bool ((sc.ev k).getD false):Value) from hB.get k false) fun _ F=>
  aur<|
  fJ _ _ ?_
 refine aus (F.e 9 rfl) (fun hc2=>?_) (fun hc2=>?_)
 ·have he:((sc.ev k).getD false)=true:=hc2;refine auq fun K4 fQ=>ah<|xA (v:=.int .i64 0) F rf rf rf fun _ F=>xA (v:=.bool true) F rf rf rf fun _ F=>aur<|fQ _ _ ?_
  refine wp_ret<|aM _ _ _ _ _ F rfl rfl ?_;exact⟨by unfold uw;rw[if_pos he],M.below⟩
 ·have he:((sc.ev k).getD false)=false:=hc2;refine wp_skip<|cQ _ _ ?_;refine auq fun K5 gL=>?_
  refine rd 11 [10,11,12,13,14,15,16,17,18,4,5] [bL (.pointer (some ⟨g1,0,none⟩)),bL ((.map (some mA))),bL (.int .i64 k),bL (.int .i64 ((sc.UG k).getD 0)),bL (.pointer (some ⟨g1,2,none⟩)),bL ((.map (some mC))),bL (.int .i64 k),bL (.bool ((sc.nv k).getD false)),bL (.bool (!((sc.nv k).getD false))),bL (.int .i64 ((sc.UG k).getD 0)),bL (.bool (!((sc.nv k).getD false)))] (by kernel_rfl) (by kernel_rfl) (by kernel_rfl) rfl (by decide) rfl rfl F ⟨aj _,aj _,aj _,aj _,aj _,aj _,aj _,aj _,aj _,aj _,aj _,trivial⟩ ⟨?_,?_,?_,?_,?_,?_,?_,?_,?_,?_,?_,trivial⟩ ?_
  ·exact fun a w Q' hf hi H G hK=>dv (on rfl) (aI rfl (G 2 _ rfl (F.g 2 rfl)).ev Yy rfl ab1) rfl hf rfl hK rfl
  ·exact fun a w Q' hf hi H G hK=>dv (on rfl) (aD rfl (iA (H 0 ⟨.data,by simp,rfl⟩ _ _ rfl rfl)).ev Oc rfl (((M.keep hi).b 0 rfl).c1 0)) rfl hf rfl hK rfl
  ·exact fun a w Q' hf hi H G hK=>dv (on rfl) (bC rfl (G 1 _ rfl (F.g 1 rfl)).ev) rfl hf rfl hK rfl
  ·exact fun a w Q' hf hi H G hK=>dv (on rfl) (pX (z:=.int .i64 0) Oc (by kernel_rfl) (hMA.kept ((M.keep hi).below.block _ hMA.lt)) rfl (iA (H 1 ⟨.data,by simp,rfl⟩ _ _ rfl rfl)).ev (iA (H 2 ⟨.data,by simp,rfl⟩ _ _ rfl rfl)).ev (by exact hk)) rfl hf rfl hK (Eq.symm (show _=(.int .i64 ((sc.UG k).getD 0):Value) from hA.get k 0))
  ·exact fun a w Q' hf hi H G hK=>dv (on rfl) (aI rfl (G 2 _ rfl (F.g 2 rfl)).ev Yy rfl Xg) rfl hf rfl hK rfl
  ·exact fun a w Q' hf hi H G hK=>dv (on rfl) (aD rfl (iA (H 4 ⟨.data,by simp,rfl⟩ _ _ rfl rfl)).ev zx rfl (((M.keep hi).b 0 rfl).c1 2)) rfl hf rfl hK rfl
  ·exact fun a w Q' hf hi H G hK=>dv (on rfl) (bC rfl (G 1 _ rfl (F.g 1 rfl)).ev) rfl hf rfl hK rfl
  ·exact fun a w Q' hf hi H G hK=>dv (on rfl) (pX (z:=.bool false) zx (by kernel_rfl) (hMC.kept ((M.keep hi).below.block _ hMC.lt)) rfl (iA (H 5 ⟨.data,by simp,rfl⟩ _ _ rfl rfl)).ev (iA (H 6 ⟨.data,by simp,rfl⟩ _ _ rfl rfl)).ev (by exact hk)) rfl hf rfl hK (Eq.symm (show _=(.bool ((sc.nv k).getD false):Value) from hC.get k false))
  ·exact fun a w Q' hf hi H G hK=>dv (on rfl) (jS rfl (iA (H 7 ⟨.data,by simp,rfl⟩ _ _ rfl rfl)).ev) rfl hf rfl hK rfl
  ·exact fun a w Q' hf hi H G hK=>dv (on rfl) (eC rfl (iA (H 3 ⟨.data,by simp,rfl⟩ _ _ rfl rfl)).ev) rfl hf rfl hK rfl
  ·exact fun a w Q' hf hi H G hK=>dv (on rfl) (eC rfl (iA (H 8 ⟨.data,by simp,rfl⟩ _ _ rfl rfl)).ev) rfl hf rfl hK rfl
  (repeat clear F);intro _ _ qK F D
  obtain⟨_,h,rfl⟩:=D 9 _ _ rfl rfl;have F:=F.add h;obtain⟨_,h,rfl⟩:=D 10 _ _ rfl rfl;have F:=F.add h;have M:=M.keep qK;clear D qK;refine gL _ _ ?_;refine wp_ret<|aM _ _ _ _ _ F rfl rfl ?_;exact⟨by unfold uw;rw[if_neg (by rw[he];decide)],M.below⟩
def cR(sc:LU)(y:ak):Option ak:=if (uw sc y.cond).2=true then some { y with cond:=(uw sc y.cond).1 } else none
def cT(sc:LU)(y:bJ):Option bJ:=if (uw sc y.cond).2=true then some { y with cond:=(uw sc y.cond).1 } else none
def TY(p:aG)(sc:LU):aG:={ p with conds:=sc.kids,rules:=p.rules.filterMap (cR sc),trans:=p.trans.filterMap (cT sc) }
def eY(p:aG):aG:=TY p (eD p p.conds.length)
theorem XU{α β:Type}{f:α→Option β}{l:List α}{m:Nat}{y:α}(hy:l[m]?=some y)(h:f y=none):(l.take (m+1)).filterMap f=(l.take m).filterMap f:=by
 rw[bD hy,List.filterMap_append,List.filterMap_cons,h];simp
theorem Tj{α β:Type}{f:α→Option β}{l:List α}{m:Nat}{y:α}{z:β}(hy:l[m]?=some y)(h:f y=some z):(l.take (m+1)).filterMap f=(l.take m).filterMap f++[z]:=by
 rw[bD hy,List.filterMap_append,List.filterMap_cons,h];simp
theorem Tk{α β:Type}{f:α→Option β}(l:List α)(m:Nat):((l.take m).filterMap f).length≤m:=auC (List.length_filterMap_le _ _) (List.length_take_le _ _)
theorem RowsIn.sub{B:Nat}{w:World}{T T':List Rw}(h:RowsIn B w T)(hs:T'.Sublist T):RowsIn B w T':=⟨fun r hr=>h.1 r (hs.subset hr),h.2.sublist hs⟩
theorem p7(w0:World)(c0 c1 c2 c3 c4 c5 c6 c7 c8 c9 aW aP aO aU aT aS aR:Value)(p:aG)(hp:aL w0 c0 c1 c2 c3 c4 c5 c6 c7 c8 c9 aW aP aO aU aT aS aR p)(hok:p.Ok)(iN:qg p)(hn:p.bools.length≤5)(hcl:p.conds.length≤900)(Wg:∀ y∈p.rules,-1000000≤y.cond∧y.cond≤1000000)(Wf:∀ y∈p.trans,-1000000≤y.cond∧y.cond≤1000000)(ZX:∀ e∈p.conds,∃ d,d≤12∧jo d (dN p.bools e)∧(ct (dN p.bools e)).length≤5)(hrl:p.rules.length≤100000)(XA:p.trans.length≤100000):Calls Tryz.prog 34 #[.agg #[c0,c1,c2,c3,c4,c5,c6,c7,c8,c9,aW,aP,aO,aU,aT,aS,aR]] w0 (fun(r:Ending) (w':World)=>∃ v,r=.returned v∧(Bc w0 (eY p) v w'∧auk w0.heap.size w0 w')):=by
 obtain⟨_,_,_,_,_,_,_,_,_,_,_,_,_,_,_,_,_,_,_,_,_,_,_,_,_,_,_,_,_,_,_,_,_,_,rfl,rfl,rfl,rfl,rfl,rfl,rfl,rfl,rfl,rfl,rfl,rfl,rfl,rfl,rfl,rfl,rfl⟩:=hp.open;refine fL [] (fn:=Tryz.f34) Tryz.func34 rfl Tryz.ntmps34 rfl<|fun g1 w1 M1=>ei<|an oI fun g2 w2 M2=>lb 1<|an rfl<|cg<|an (JW _ _ _ _ _ _ _ _ _ _ _ _ _ _ _ _ _ _ p (hp.keep M2.below) hok iN hn hcl Wg Wf ZX) fun v w3 hC=>?_
 obtain⟨mA,mB,mC,LA,LB,LC,ca,cc,es,T,hv,hM,hmA,hmB,hmC,ag2,BG,hT⟩:=hC;refine⟨_,_,M2.Tf hM,?_⟩;subst hv;have M3:=M2.Tf hM;unfold eY;generalize eD p p.conds.length=sc at *;refine ei<|an QK fun g3 w4 M4=>lb 0<|an ⟨rfl,rfl⟩ fun w5 M5=>lb 5<|an rfl<|cg<|an (wj _ _ _ _ _ _ _ _ _ _ _ _ _ _ _ _ _ _ p (hp.keep M5.below) iN) fun v w6 ⟨⟨x0,n0,x1,n1,x2,n2,x3,n3,x4,n4,x5,n5,x6,n6,x7,n7,x8,n8,x9,n9,x10,n10,oF,n11,oD,n12,JG,n13,JF,n14,JE,n15,JD,n16,TC,hv,hRC,hPC⟩,hb6⟩=>⟨_,_,M5.fR hb6 hRC,?_⟩
 subst hv;refine ei<|an oI fun g4 w7 M7=>lb 0<|an ⟨rfl,rfl⟩ fun w8 M8=>lb 1<|an rfl<|lb 0<|an ⟨rfl,rfl⟩ fun w9 M9=>lb 0<|an ⟨rfl,rfl⟩ fun xR sA=>lb 0<|an ⟨rfl,rfl⟩ fun JJ M11=>?_
 clear M1 M2 M3 M4 M5 M7 M8 M9 sA M11 hM hRC;refine lb 6<|an rfl<|lp (ι:=Nat×Value×List ak) (fun(m,v,L)=>[(25,.int .i64 (m:Int))]) (fun(m,v,L)=>(g4,39,#[.slice x0 p.classes.length n0,.slice x1 p.types.length n1,.slice x2 p.attrs.length n2,.slice x3 p.roles.length n3,.slice x4 p.users.length n4,.slice x5 p.bools.length n5,.slice x6 p.aV.length n6,.slice x7 p.cats.length n7,.slice ca sc.kids.length cc,v,.slice none 0 0,.slice oF p.aQ.length n11,.slice oD p.ranges.length n12,.slice JG p.cons.length n13,.slice JF p.bP.length n14,.slice JE p.files.length n15,.slice JD p.asserts.length n16])::_) (fun(m,v,L)=>⟨v,56,13,L.length,L.flatMap ak.cells⟩::_) (fun(m,v,L) _=>m≤p.rules.length∧L=(p.rules.take m).filterMap (cR sc)) (fun(m,v,L)=>p.rules.length-m) (0,.slice none 0 0,[]) (an ⟨⟨rfl,trivial⟩,fun M=>⟨M.bX 56 13,auu _,rfl⟩⟩ ?_);rintro⟨m,v,L⟩ w M ⟨hm,hL⟩;refine an (fun h=>?_) fun h=>?_
 ·have hlt:m<p.rules.length:=by simp at h;omega
  obtain⟨y,hy⟩:∃ y,p.rules[m]?=some y:=⟨_,aun hlt⟩;obtain⟨b,o,e,hc⟩:=SliceAt.elt hp.rules (fun _=>rfl) (by decide) hy hlt;have hcb:=Wg y (aum hy);have hfl:=Tk (f:=cR sc) p.rules m;rw[← hL] at hfl;exact ia<|an ⟨e,rfl,hlt⟩<|lc<|an (dJ M.below hc)<|ei<|an oy fun g5 Mg Jg=>lb 0<|an ⟨rfl,rfl⟩ fun N_ zh=>lb 2<|an rfl<|lb 0<|an rfl<|cl<|an (xD _ mA mB mC LA LB LC _ sc (zh.map 5 rfl) (zh.map 4 rfl) (zh.map 3 rfl) hmA hmB hmC y.cond ⟨by omega,by omega⟩) fun Ut Jf=>an (fun hb2=>lb 0<|an ⟨rfl,rfl⟩ fun N9 FK=>lb 1<|an rfl<|lb 0<|an rfl<|fun g6 Xb LO=>Ub 0 id rfl (LO.slice 0 rfl (k:=13) (n:=1) rfl rfl (by simp[maxLen])) ⟨by unfold maxLen;omega,by omega⟩ fun va vc Xa W4=>lb 2<|an ⟨rfl,rfl⟩ fun w18 WZ=>an (by omega)<|bk (m+1,.slice va (L.length+1) vc,L++[{ y with cond:=(uw sc y.cond).1 }]) ⟨rfl,trivial⟩ (fun M=>⟨(M.only (.cons _ (.cons _ (.refl _))) (.refl _)).cast rfl (by dsimp only;rw[auo,auF];rfl),by omega,by rw[Tj hy (show cR sc y=some { y with cond:=(uw sc y.cond).1 } by unfold cR;rw[if_pos hb2]),hL]⟩) (by dsimp only;omega)) fun hb2=>an (by omega)<|bk (m+1,v,L) ⟨rfl,trivial⟩ (fun M=>⟨M.only (.cons _ (.refl _)) (.refl _),by omega,by rw[XU hy (show cR sc y=none by unfold cR;rw[if_neg (by rw[hb2];decide)]),hL]⟩) (by dsimp only;omega)
 obtain rfl:m=p.rules.length:=by simp at h;omega
 rw[auE] at hL;subst hL;obtain⟨xa9,xc9,rfl⟩:=M.form 0 rfl;clear M h hm;refine lb 6<|an rfl<|lp (ι:=Nat×Value×List bJ) (fun(m,v,L)=>[(49,.int .i64 (m:Int))]) (fun(m,v,L)=>(g4,39,#[.slice x0 p.classes.length n0,.slice x1 p.types.length n1,.slice x2 p.attrs.length n2,.slice x3 p.roles.length n3,.slice x4 p.users.length n4,.slice x5 p.bools.length n5,.slice x6 p.aV.length n6,.slice x7 p.cats.length n7,.slice ca sc.kids.length cc,.slice xa9 (p.rules.filterMap (cR sc)).length xc9,v,.slice oF p.aQ.length n11,.slice oD p.ranges.length n12,.slice JG p.cons.length n13,.slice JF p.bP.length n14,.slice JE p.files.length n15,.slice JD p.asserts.length n16])::_) (fun(m,v,L)=>⟨v,84,13,L.length,L.flatMap bJ.cells⟩::_) (fun(m,v,L) _=>m≤p.trans.length∧L=(p.trans.take m).filterMap (cT sc)) (fun(m,v,L)=>p.trans.length-m) (0,.slice none 0 0,[]) (an ⟨⟨rfl,trivial⟩,fun M=>⟨M.bX 84 13,auu _,rfl⟩⟩ ?_);rintro⟨m,v,L⟩ w M ⟨hm,hL⟩;refine an (fun h=>?_) fun h=>?_
 ·have hlt:m<p.trans.length:=by simp at h;omega
  obtain⟨y,hy⟩:∃ y,p.trans[m]?=some y:=⟨_,aun hlt⟩;obtain⟨b,o,e,hc⟩:=SliceAt.elt hp.trans (fun _=>rfl) (by decide) hy hlt;have hcb:=Wf y (aum hy);have hfl:=Tk (f:=cT sc) p.trans m;rw[← hL] at hfl;exact ia<|an ⟨e,rfl,hlt⟩<|lc<|an (dJ M.below hc)<|ei<|an NT fun g5 Mg Jg=>lb 0<|an ⟨rfl,rfl⟩ fun N_ zh=>lb 2<|an rfl<|lb 0<|an rfl<|cl<|an (xD _ mA mB mC LA LB LC _ sc (zh.map 5 rfl) (zh.map 4 rfl) (zh.map 3 rfl) hmA hmB hmC y.cond ⟨by omega,by omega⟩) fun Ut Jf=>an (fun hb2=>lb 0<|an ⟨rfl,rfl⟩ fun N9 FK=>lb 1<|an rfl<|lb 0<|an rfl<|fun g6 Xb LO=>Ub 0 id rfl (LO.slice 0 rfl (k:=13) (n:=1) rfl rfl (by simp[maxLen])) ⟨by unfold maxLen;omega,by omega⟩ fun va vc Xa W4=>lb 2<|an ⟨rfl,rfl⟩ fun w18 WZ=>an (by omega)<|bk (m+1,.slice va (L.length+1) vc,L++[{ y with cond:=(uw sc y.cond).1 }]) ⟨rfl,trivial⟩ (fun M=>⟨(M.only (.cons _ (.cons _ (.refl _))) (.refl _)).cast rfl (by dsimp only;rw[auo,auF];rfl),by omega,by rw[Tj hy (show cT sc y=some { y with cond:=(uw sc y.cond).1 } by unfold cT;rw[if_pos hb2]),hL]⟩) (by dsimp only;omega)) fun hb2=>an (by omega)<|bk (m+1,v,L) ⟨rfl,trivial⟩ (fun M=>⟨M.only (.cons _ (.refl _)) (.refl _),by omega,by rw[XU hy (show cT sc y=none by unfold cT;rw[if_neg (by rw[hb2];decide)]),hL]⟩) (by dsimp only;omega)
 obtain rfl:m=p.trans.length:=by simp at h;omega
 rw[auE] at hL;subst hL;obtain⟨akx,akw,rfl⟩:=M.form 0 rfl;clear M h hm;refine lb 0<|an rfl<|lb 5<|an ⟨rfl,rfl⟩ fun w M=>ei (x:=5)<|an rfl fun M=>?_
 exact⟨_,rfl,⟨_,_,_,_,_,_,_,_,_,_,_,_,_,_,_,_,_,_,_,_,_,_,_,_,_,_,_,_,_,_,_,_,_,_,_,rfl,M.iE,fun B u pT=>{ hPC B u (pT.sub (.cons _ (.cons _ (List.sublist_append_right _ _)))) with conds:=pF (tg (R:=dA _) (pT.1 _ (aum (i:=2) rfl)) rfl ag2 BG (fun i x y h1 h2=>dA.mono (fun r hr=>show r∈[_,_]++(([]++(_::T))++TC) from auz.2 (.inr (auz.2 (.inl (auy _ hr))))) (hT i x y h1 h2)) fun _ _ h=>dA.one h) fun _ _ h=>dA.at_ pT h,rules:=SliceAt.bM (pT.1 _ (aum (i:=1) rfl)) (fE fun _=>rfl),trans:=SliceAt.bM (pT.1 _ (aum (i:=0) rfl)) (fE fun _=>rfl) }⟩,M.below⟩
structure CdH (p:aG):Prop where
 ok:p.Ok
 sm:qg p
 bools:p.bools.length≤5
 conds:p.conds.length≤900
 NC:∀ y∈p.rules,-1000000≤y.cond∧y.cond≤1000000
 NA:∀ y∈p.trans,-1000000≤y.cond∧y.cond≤1000000
 be:∀ e∈p.conds,∃ d,d≤12∧jo d (dN p.bools e)∧(ct (dN p.bools e)).length≤5
 rules:p.rules.length≤100000
 trans:p.trans.length≤100000
structure RdH (p:aG):Prop where
 ok:p.Ok
 sm:qg p
 bools:p.bools.length≤5
 conds:p.conds.length≤1000
 rules:p.rules.length≤900
structure RuH (p:aG):Prop where
 ok:p.Ok
 sm:qg p
 rules:p.rules.length≤1000
theorem RowsIn.right{B:Nat}{w:World}{A C:List Rw}(h:RowsIn B w (A++C)):RowsIn B w C:=⟨fun r hr=>h.1 r (auz.2 (.inr hr)),(List.pairwise_append.1 h.2).2.1⟩
theorem RowsIn.left{B:Nat}{w:World}{A C:List Rw}(h:RowsIn B w (A++C)):RowsIn B w A:=⟨fun r hr=>h.1 r (auz.2 (.inl hr)),(List.pairwise_append.1 h.2).1⟩
def tE(p:aG):List Int:=(tD p).map fun(k:Nat)=>(k:Int)
theorem OM{w:World}{B:Nat}{v:Value}{p:aG}(h:w.ownsRow B 3 1 v (tD p).length (ints (tD p))):SliceAt w v 1 (tE p).length ((tE p).flatMap anyI):=by
 have h2:=SliceAt.bM h (Hg _);have e1:(tE p).length=(tD p).length:=auA ..
 have e2:(tE p).flatMap anyI=ints (tD p):=by
  unfold tE
  induction tD p with
  | nil=>rfl
  | cons a l ih=>rw[List.map_cons,List.flatMap_cons,ih];rfl
 rw[e1,e2];exact h2
theorem O7(e k:Nat)(n:Nat)(xs:List Value):eN (fun v u=>u.ownsRow 0 e k v n xs):=fun _ _ _ h hb=>dS hb h (Nat.le_refl _)
theorem Bc.low{wb w:World}{p:aG}{v:Value}{u:World}(h:Bc w p v u)(hi:wb.heap.size≤w.heap.size):Bc wb p v u:=by
 obtain⟨x0,n0,x1,n1,x2,n2,x3,n3,x4,n4,x5,n5,x6,n6,x7,n7,x8,n8,x9,n9,x10,n10,oF,n11,oD,n12,JG,n13,JF,n14,JE,n15,JD,n16,T,e,h1,h2⟩:=h;exact⟨x0,n0,x1,n1,x2,n2,x3,n3,x4,n4,x5,n5,x6,n6,x7,n7,x8,n8,x9,n9,x10,n10,oF,n11,oD,n12,JG,n13,JF,n14,JE,n15,JD,n16,T,e,h1.low hi,h2⟩
def YP(p:aG):aG:=eY (vw (UQ (eY p) (tE (eY p))))
theorem DR(w0:World)(c0 c1 c2 c3 c4 c5 c6 c7 c8 c9 aW aP aO aU aT aS aR:Value)(p:aG)(hp:aL w0 c0 c1 c2 c3 c4 c5 c6 c7 c8 c9 aW aP aO aU aT aS aR p)(h1:CdH p)(h2:RdH (eY p))(h3:RuH (UQ (eY p) (tE (eY p))))(h4:CdH (vw (UQ (eY p) (tE (eY p))))):Calls Tryz.prog 22 #[.agg #[c0,c1,c2,c3,c4,c5,c6,c7,c8,c9,aW,aP,aO,aU,aT,aS,aR]] w0 (fun(r:Ending) (w':World)=>∃ v,r=.returned v∧(Bc w0 (YP p) v w'∧auk w0.heap.size w0 w')):=by
 have aM:=hrC Tryz.prog Tryz.f22 (fun(r:Ending) (w':World)=>∃ v,r=.returned v∧(Bc w0 (YP p) v w'∧auk w0.heap.size w0 w')) 13 2 39 rfl iU rfl kS;refine en Tryz.func22 rfl Tryz.ntmps22 rfl (vs:=[.agg #[c0,c1,c2,c3,c4,c5,c6,c7,c8,c9,aW,aP,aO,aU,aT,aS,aR]]) rfl fun _ F=>?_
 have M:=Mm.start w0;refine auq fun K1 dw=>ah<|oG (on rfl) rfl (F.u rf) rfl F rfl M fun gs _ _ F M=>sF (on rfl) rfl oI rfl F rfl M fun go _ _ F M=>aur<|dw _ _ ?_
 refine auq fun K2 cQ=>ah<|xW F (M.b 1 rfl) rf rf rf iU rf kS rf fun _ F=>kx (on rfl) (bw rfl Tryz.func34 acf rfl (args1 (F.u rf))) (p7 _ _ _ _ _ _ _ _ _ _ _ _ _ _ _ _ _ _ p (hp.keep M.below) h1.ok h1.sm h1.bools h1.conds h1.NC h1.NA h1.be h1.rules h1.trans) rfl F rfl M fun eva _ _ hGa hB F _=>?_
 obtain⟨q,hq⟩:∃ q,q=eY p:=⟨_,rfl⟩;rw[← hq] at hGa;obtain⟨x0a,n0a,x1a,n1a,x2a,n2a,x3a,n3a,x4a,n4a,x5a,n5a,x6a,n6a,x7a,n7a,x8a,n8a,x9a,n9a,abB,acN,abA,acM,abz,acL,aby,acK,abx,acJ,abw,acI,abv,acH,Ta,rfl,hTa,hPa⟩:=hGa;have M:=M.fR hB hTa;replace M:=M.cast (rs':=[]++(Ta)) rfl rfl;rw[← hq] at h2 h3 h4;refine sF (on rfl) rfl oI rfl F rfl M fun gp _ _ F M=>sE (on rfl) rfl (F.u rf) (F.u rf) F M 0 rfl kS rfl rfl rfl fun _ M=>aur<|cQ _ _ ?_
 refine auq fun K3 fJ=>?_
 refine rd 4 [6,7,8,9] [bL (.agg #[.slice x0a q.classes.length n0a,.slice x1a q.types.length n1a,.slice x2a q.attrs.length n2a,.slice x3a q.roles.length n3a,.slice x4a q.users.length n4a,.slice x5a q.bools.length n5a,.slice x6a q.aV.length n6a,.slice x7a q.cats.length n7a,.slice x8a q.conds.length n8a,.slice x9a q.rules.length n9a,.slice abB q.trans.length acN,.slice abA q.aQ.length acM,.slice abz q.ranges.length acL,.slice aby q.cons.length acK,.slice abx q.bP.length acJ,.slice abw q.files.length acI,.slice abv q.asserts.length acH]),bL (.agg #[.slice x0a q.classes.length n0a,.slice x1a q.types.length n1a,.slice x2a q.attrs.length n2a,.slice x3a q.roles.length n3a,.slice x4a q.users.length n4a,.slice x5a q.bools.length n5a,.slice x6a q.aV.length n6a,.slice x7a q.cats.length n7a,.slice x8a q.conds.length n8a,.slice x9a q.rules.length n9a,.slice abB q.trans.length acN,.slice abA q.aQ.length acM,.slice abz q.ranges.length acL,.slice aby q.cons.length acK,.slice abx q.bP.length acJ,.slice abw q.files.length acI,.slice abv q.asserts.length acH]),(fun v u=>u.ownsRow 0 3 1 v (tD q).length (ints (tD q))),(Bc M.wd (UQ q (tE q)))] (by kernel_rfl) (by kernel_rfl) (by kernel_rfl) rfl (by decide) rfl rfl F ⟨aj _,aj _,O7 _ _ _ _,O6 _ _,trivial⟩ ⟨?_,?_,?_,?_,trivial⟩ ?_
 ·exact fun a w Q' hf hi H G hK=>dv (on rfl) (lV rfl (G 3 _ rfl (F.g 3 rfl)).ev iU rfl ((M.keep hi).b 0 rfl) kS rfl) rfl hf rfl hK rfl
 ·exact fun a w Q' hf hi H G hK=>dv (on rfl) (lV rfl (G 3 _ rfl (F.g 3 rfl)).ev iU rfl ((M.keep hi).b 0 rfl) kS rfl) rfl hf rfl hK rfl
 ·exact fun a w Q' hf hi H G hK=>dx (on rfl) (bw rfl Tryz.func27 af4 rfl (args1 (iA (H 1 ⟨.data,by simp,rfl⟩ _ _ rfl rfl)).ev)) ((qR _ _ _ _ _ _ _ _ _ _ _ _ _ _ _ _ _ _ q (hPa _ _ (M.keep hi).iE.right) h2.ok h2.bools h2.conds h2.rules).mono fun _ _ ⟨v',e,ha,hb⟩=>⟨v',e,nL ha (auu _),hb⟩) rfl hf rfl hK
 ·intro a w Q' hf hi H G hK;obtain⟨lv,h8,hlv⟩:=H 2 ⟨.data,by simp,rfl⟩ _ _ rfl rfl;exact dx (on rfl) (bw rfl Tryz.func30 af3 rfl (args2 (iA (H 0 ⟨.data,by simp,rfl⟩ _ _ rfl rfl)).ev h8.ev)) ((F2 _ _ _ _ _ _ _ _ _ _ _ _ _ _ _ _ _ _ q (hPa _ _ (M.keep hi).iE.right) h2.ok h2.sm lv (tE q) (OM hlv)).mono fun _ _ ⟨v',e,ha,hb⟩=>⟨v',e,ha.low hi.size,hb⟩) rfl hf rfl hK
 (repeat clear F);intro _ _ qK F D
 have M0:=M;have SN:=qK;obtain⟨_,h,x0b,n0b,x1b,n1b,x2b,n2b,x3b,n3b,x4b,n4b,x5b,n5b,x6b,n6b,x7b,n7b,x8b,n8b,x9b,n9b,akS,al7,akP,al4,akM,al0,akJ,alX,akG,alT,akD,alQ,akA,alM,Tb,rfl,Bo,hPb⟩:=D 3 _ _ rfl rfl;have F:=F.add h;have M:=M.keep qK;clear D qK;have M:=M0.fR SN Bo;replace M:=M.cast (rs':=[]++(Ta++Tb)) rfl rfl;intro Qt BI;refine sE (on rfl) rfl (F.u rf) (F.u rf) F M 0 rfl kS rfl rfl rfl fun _ M=>aur (BI _ _ ?_)
 refine fJ _ _ ?_;refine auq fun K4 fQ=>?_
 obtain⟨q2,Na⟩:∃ r,r=UQ q (tE q):=⟨_,rfl⟩;rw[← Na] at h3 h4 hPb M;refine ah<|xW F (M.b 0 rfl) rf rf rf iU rf kS rf fun _ F=>kx (on rfl) (bw rfl Tryz.func32 af2 rfl (args1 (F.u rf))) (Kq _ _ _ _ _ _ _ _ _ _ _ _ _ _ _ _ _ _ q2 (hPb _ _ ((M.iE).right).right) h3.ok h3.sm h3.rules) rfl F rfl M fun evc _ _ hGc hB F _=>?_
 obtain⟨q3,Uw⟩:∃ q,q=vw q2:=⟨_,rfl⟩;rw[← Uw] at hGc;obtain⟨x0c,n0c,x1c,n1c,x2c,n2c,x3c,n3c,x4c,n4c,x5c,n5c,x6c,n6c,x7c,n7c,x8c,n8c,x9c,n9c,akR,al6,akO,al3,akL,alZ,akI,alW,akF,alS,akC,alP,akz,alL,Tc,rfl,hTc,hPc⟩:=hGc;have M:=M.fR hB hTc;replace M:=M.cast (rs':=[]++(Ta++Tb++Tc)) rfl rfl;rw[← Uw] at h4;refine kx (on rfl) (bw rfl Tryz.func34 acf rfl (args1 (F.u rf))) (p7 _ _ _ _ _ _ _ _ _ _ _ _ _ _ _ _ _ _ q3 (hPc _ _ ((M.iE).right).right) h4.ok h4.sm h4.bools h4.conds h4.NC h4.NA h4.be h4.rules h4.trans) rfl F rfl M fun evd _ _ hGd hB F _=>?_
 obtain⟨q4,hq4⟩:∃ q,q=eY q3:=⟨_,rfl⟩;rw[← hq4] at hGd;obtain⟨x0d,n0d,x1d,n1d,x2d,n2d,x3d,n3d,x4d,n4d,x5d,n5d,x6d,n6d,x7d,n7d,x8d,n8d,x9d,n9d,akQ,al5,akN,al2,akK,alY,akH,alU,akE,alR,akB,alO,aky,alK,Td,rfl,hTd,hPd⟩:=hGd;have M:=M.fR hB hTd;replace M:=M.cast (rs':=[]++(Ta++Tb++Tc++Td)) rfl rfl;refine sE (on rfl) rfl (F.u rf) (F.u rf) F M 1 rfl kS rfl rfl rfl fun _ M=>aur<|fQ _ _ ?_
 refine wp_ret<|aM _ _ _ _ _ _ F rfl (M.b 1 rfl) rfl ?_;subst hq4;subst Uw;subst Na;subst hq;exact⟨_,rfl,⟨_,_,_,_,_,_,_,_,_,_,_,_,_,_,_,_,_,_,_,_,_,_,_,_,_,_,_,_,_,_,_,_,_,_,_,rfl,M.iE,fun B u h=>hPd B u h.right.right⟩,M.below⟩
def J0(l:List Int):Int:=l.foldl (fun a x=>bits .or .u64 a (IntKind.u64.wrap (1*2^(x:Int).toNat))) 0
theorem Ox{l:List Int}{m:Nat}{y:Int}(hy:l[m]?=some y):J0 (l.take (m+1))=bits .or .u64 (J0 (l.take m)) (IntKind.u64.wrap (1*2^(y:Int).toNat)):=by
 unfold J0;rw[bD hy,List.foldl_append];rfl
theorem Xk{x:Int}(h0:0≤x)(h1:x<64):IntKind.i64.wrap (Int.tdiv x 64)=0:=by rw[Int.tdiv_eq_zero_of_lt h0 h1];rfl
theorem ab4{x:Int}(h0:0≤x)(h1:x<64):Int.tmod x 64=x:=by
 exact Int.tmod_eq_of_lt h0 h1
theorem ad9{P:Program}{o:Oper}{a:Act}{w:World}{ty yt:TypeId}{x y:Operand}{k:IntKind}{m n:Int}(ho:o.op=.binOp .rem ty x y yt)(hx:a.eval x=.int k m)(hy:a.eval y=.int k n)(h0:n≠0):(execOp a.eval o).run P w=.ok (.value (.int k (m.tmod n))) w:=by
 unfold execOp;simp[ho,hx,hy,eqGuard,binOp,Op.intDiv,h0]
theorem Vg(w0:World)(v:Value)(l:List Int)(h:SliceAt w0 v 1 l.length (l.flatMap anyI))(hl:∀ y∈l,0≤y∧y<64):Calls Tryz.prog 127 #[v] w0 (fun(r:Ending) (w':World)=>r=.returned (.agg #[.int .u64 (J0 l),.int .u64 0,.int .u64 0,.int .u64 0])∧auk w0.heap.size w0 w'):=by
 obtain⟨la,lc,rfl,hk,hm,hcell⟩:=SliceAt.form h (by decide);have aM:=hrC Tryz.prog Tryz.f127 (fun(r:Ending) (w':World)=>r=.returned (.agg #[.int .u64 (J0 l),.int .u64 0,.int .u64 0,.int .u64 0])∧auk w0.heap.size w0 w') 32 2 54 rfl Xe rfl zB;refine en Tryz.func127 rfl Tryz.ntmps127 rfl (vs:=[.slice la l.length lc]) rfl fun _ F=>?_
 have M:=Mm.start w0;refine auq fun K1 dw=>ah<|sF (on rfl) rfl QI rfl F rfl M fun go _ _ F M=>aur<|dw _ _ ?_
 refine auq fun K2 cQ=>ah<|sF (on rfl) rfl QI rfl F rfl M fun gx _ _ F M=>aur<|cQ _ _ ?_
 refine auq fun K3 fJ=>auq fun K4 fQ=>ah<|xA (v:=.int .i64 0) F rf rf rf fun _ F=>aur<|fQ _ _ ?_
 refine aut<|?_;refine bV (ι:=Nat×Int) (fun|(m,x),a,w=>Fs a 32 [(0,.slice la l.length lc),(2,.pointer (some ⟨go,0,none⟩)),(3,.pointer (some ⟨gx,0,none⟩)),(4,.int .i64 (m:Int))]∧Mm w0 w [(gx,54,#[.int .u64 x,.int .u64 0,.int .u64 0,.int .u64 0]),(go,54,#[.int .u64 0,.int .u64 0,.int .u64 0,.int .u64 0])] []∧m≤l.length∧x=J0 (l.take m)) (fun|(m,x)=>l.length-m) (0,0) ⟨F.sub ⟨rfl,rfl,rfl,rfl,trivial⟩,M,auu _,rfl⟩ ?_
 (repeat clear F);(repeat clear M)
 rintro⟨m,x⟩ _ _ ⟨F,M,hm,hx⟩;refine auq fun K5 gL=>auq fun K6 iC=>ah<|xM F rf rf rf fun _ F=>xM F rf rf rf fun _ F=>kz F rf (bA rfl (F.u rf) u64) fun _ F=>kz F rf (d_ rfl (F.u rf) (F.u rf)) fun _ F=>aur<|iC _ _ ?_
 refine aus (F.e 8 rfl) (fun hc1=>?_) (fun hc1=>?_)
 ·have hd2:=of_decide_eq_true hc1;refine wp_skip<|gL _ _ ?_;refine auq fun K7 iO=>aut<|?_
  have hlt:m<l.length:=by omega
  obtain⟨y,hy⟩:∃ y,l[m]?=some y:=⟨_,aun hlt⟩;obtain⟨b9,o9,rfl,Pu⟩:=hcell m hlt;obtain⟨hy0,hy1⟩:=hl y (aum hy)
  have Pn:∀ j uu,[Value.int .i64 y][j]?=some uu→w0.cell? ⟨b9,o9+m*1+j,none⟩=some uu:=fun j u hu=>Pu j u (by
   rw[gN (f:=anyI) (fun _=>rfl) hy j (auB.1 hu).1];exact hu)
  refine rd 20 [11,12,13,14,15,16,17,18,19,20,21,22,23,24,25,26,27,28,29,30] [bL (.slice (some ⟨b9,o9,none⟩) l.length lc),bL (.int .i64 (m:Int)),bL (.pointer (some ⟨b9,o9+m*1,none⟩)),bL (.int .i64 y),bL (.int .i64 0),bL (.slice (some ⟨b9,o9,none⟩) l.length lc),bL (.int .i64 (m:Int)),bL (.pointer (some ⟨b9,o9+m*1,none⟩)),bL (.int .i64 y),bL (.int .i64 0),bL (.pointer (some ⟨gx,0,none⟩)),bL (.int .u64 x),bL (.slice (some ⟨b9,o9,none⟩) l.length lc),bL (.int .i64 (m:Int)),bL (.pointer (some ⟨b9,o9+m*1,none⟩)),bL (.int .i64 y),bL (.int .i64 y),bL (.int .u64 (IntKind.u64.wrap (1*2^(y:Int).toNat))),bL (.int .u64 (bits .or .u64 x (IntKind.u64.wrap (1*2^(y:Int).toNat)))),bL (.pointer (some ⟨gx,0,none⟩))] (by kernel_rfl) (by kernel_rfl) (by kernel_rfl) rfl (by decide) rfl rfl F ⟨aj _,aj _,aj _,aj _,aj _,aj _,aj _,aj _,aj _,aj _,aj _,aj _,aj _,aj _,aj _,aj _,aj _,aj _,aj _,aj _,trivial⟩ ⟨?_,?_,?_,?_,?_,?_,?_,?_,?_,?_,?_,?_,?_,?_,?_,?_,?_,?_,?_,?_,trivial⟩ ?_
  ·exact fun a w Q' hf hi H G hK=>dv (on rfl) (bC rfl (G 0 _ rfl (F.g 0 rfl)).ev) rfl hf rfl hK rfl
  ·exact fun a w Q' hf hi H G hK=>dv (on rfl) (bC rfl (G 4 _ rfl (F.g 4 rfl)).ev) rfl hf rfl hK rfl
  ·exact fun a w Q' hf hi H G hK=>dv (on rfl) (aK (i:=m) rfl (iA (H 0 ⟨.data,by simp,rfl⟩ _ _ rfl rfl)).ev (iA (H 1 ⟨.data,by simp,rfl⟩ _ _ rfl rfl)).ev (by omega) u64 Bn) rfl hf rfl hK rfl
  ·exact fun a w Q' hf hi H G hK=>dv (on rfl) (aD rfl (iA (H 2 ⟨.data,by simp,rfl⟩ _ _ rfl rfl)).ev u3 rfl ((dJ (M.keep hi).below Pn) 0 _ rfl)) rfl hf rfl hK rfl
  ·exact fun a w Q' hf hi H G hK=>dv (on rfl) (Ns rfl (iA (H 3 ⟨.data,by simp,rfl⟩ _ _ rfl rfl)).ev rfl (by decide)) rfl hf rfl hK (Eq.symm (congrArg (Value.int .i64) (Xk hy0 hy1)))
  ·exact fun a w Q' hf hi H G hK=>dv (on rfl) (bC rfl (G 0 _ rfl (F.g 0 rfl)).ev) rfl hf rfl hK rfl
  ·exact fun a w Q' hf hi H G hK=>dv (on rfl) (bC rfl (G 4 _ rfl (F.g 4 rfl)).ev) rfl hf rfl hK rfl
  ·exact fun a w Q' hf hi H G hK=>dv (on rfl) (aK (i:=m) rfl (iA (H 5 ⟨.data,by simp,rfl⟩ _ _ rfl rfl)).ev (iA (H 6 ⟨.data,by simp,rfl⟩ _ _ rfl rfl)).ev (by omega) u64 Bn) rfl hf rfl hK rfl
  ·exact fun a w Q' hf hi H G hK=>dv (on rfl) (aD rfl (iA (H 7 ⟨.data,by simp,rfl⟩ _ _ rfl rfl)).ev u3 rfl ((dJ (M.keep hi).below Pn) 0 _ rfl)) rfl hf rfl hK rfl
  ·exact fun a w Q' hf hi H G hK=>dv (on rfl) (Ns rfl (iA (H 8 ⟨.data,by simp,rfl⟩ _ _ rfl rfl)).ev rfl (by decide)) rfl hf rfl hK (Eq.symm (congrArg (Value.int .i64) (Xk hy0 hy1)))
  ·exact fun a w Q' hf hi H G hK=>dv (on rfl) (rU (i:=0) rfl (G 3 _ rfl (F.g 3 rfl)).ev (iA (H 9 ⟨.data,by simp,rfl⟩ _ _ rfl rfl)).ev (by decide) Xe iM) rfl hf rfl hK rfl
  ·exact fun a w Q' hf hi H G hK=>dv (on rfl) (aD rfl (iA (H 10 ⟨.data,by simp,rfl⟩ _ _ rfl rfl)).ev Ga rfl (((M.keep hi).b 0 rfl).c1 0)) rfl hf rfl hK rfl
  ·exact fun a w Q' hf hi H G hK=>dv (on rfl) (bC rfl (G 0 _ rfl (F.g 0 rfl)).ev) rfl hf rfl hK rfl
  ·exact fun a w Q' hf hi H G hK=>dv (on rfl) (bC rfl (G 4 _ rfl (F.g 4 rfl)).ev) rfl hf rfl hK rfl
  ·exact fun a w Q' hf hi H G hK=>dv (on rfl) (aK (i:=m) rfl (iA (H 12 ⟨.data,by simp,rfl⟩ _ _ rfl rfl)).ev (iA (H 13 ⟨.data,by simp,rfl⟩ _ _ rfl rfl)).ev (by omega) u64 Bn) rfl hf rfl hK rfl
  ·exact fun a w Q' hf hi H G hK=>dv (on rfl) (aD rfl (iA (H 14 ⟨.data,by simp,rfl⟩ _ _ rfl rfl)).ev u3 rfl ((dJ (M.keep hi).below Pn) 0 _ rfl)) rfl hf rfl hK rfl
  ·exact fun a w Q' hf hi H G hK=>dv (on rfl) (ad9 rfl (iA (H 15 ⟨.data,by simp,rfl⟩ _ _ rfl rfl)).ev rfl (by decide)) rfl hf rfl hK (Eq.symm (congrArg (Value.int .i64) (ab4 hy0 hy1)))
  ·exact fun a w Q' hf hi H G hK=>dv (on rfl) (lU rfl rfl (iA (H 16 ⟨.data,by simp,rfl⟩ _ _ rfl rfl)).ev (by omega) (show _≤((64:Nat):Int) by omega)) rfl hf rfl hK rfl
  ·exact fun a w Q' hf hi H G hK=>dv (on rfl) (TQ rfl (iA (H 11 ⟨.data,by simp,rfl⟩ _ _ rfl rfl)).ev (iA (H 17 ⟨.data,by simp,rfl⟩ _ _ rfl rfl)).ev) rfl hf rfl hK rfl
  ·exact fun a w Q' hf hi H G hK=>dv (on rfl) (rU (i:=0) rfl (G 3 _ rfl (F.g 3 rfl)).ev (iA (H 4 ⟨.data,by simp,rfl⟩ _ _ rfl rfl)).ev (by decide) Xe iM) rfl hf rfl hK rfl
  (repeat clear F);intro _ _ qK F D
  obtain⟨_,h,rfl⟩:=D 18 _ _ rfl rfl;have F:=F.add h;obtain⟨_,h,rfl⟩:=D 19 _ _ rfl rfl;have F:=F.add h;have M:=M.keep qK;clear D qK;intro Qt BI;refine ks (on rfl) rfl (F.u rf) (F.u rf) F M 0 (cs':=#[.int .u64 (bits .or .u64 x (IntKind.u64.wrap (1*2^(y:Int).toNat))),.int .u64 0,.int .u64 0,.int .u64 0]) rfl rfl rfl iM rfl rfl rfl rfl fun _ M=>aur (BI _ _ ?_)
  refine iO _ _ ?_
  refine ah<|xM F rf rf rf fun _ F=>
   ke (on rfl) (cL rfl (F.u rf) rfl) rfl F rfl (congrArg (Value.int .i64) (wrap_i64 (by omega))) fun _ F=>
   xA F rf rf rf fun _ F=>
   aur<|?_
  exact⟨(m+1,bits .or .u64 x (IntKind.u64.wrap (1*2^(y:Int).toNat))),⟨F.sub ⟨rfl,rfl,rfl,rfl,trivial⟩,M,by omega,(by rw[Ox hy,← hx])⟩,by show l.length-(m+1)<l.length-m;omega⟩
 ·have hd3:=of_decide_eq_false hc1;refine wp_exit<|fJ _ _ ?_;refine auq fun K8 jf=>ah<|xW F (M.b 0 rfl) rf rf rf Xe rf zB rf fun _ F=>sE (on rfl) rfl (F.u rf) (F.u rf) F M 1 rfl zB rfl rfl rfl fun _ M=>aur<|jf _ _ ?_
  refine wp_ret<|aM _ _ _ _ _ _ F rfl (M.b 1 rfl) rfl ?_;obtain rfl:m=l.length:=by omega
  rw[auE] at hx;exact⟨by rw[hx],M.below⟩
def jc:iw:=⟨⟨#[111,98,106,101,99,116,95,114]⟩,au.zero,au.zero⟩
theorem Ls(r:iw)(w:World):(Op.equalIn 10000 188 (.agg #[.string r.name,.int .u64 r.types.a,.int .u64 r.types.b,.int .u64 r.types.c,.int .u64 r.types.d,.int .u64 r.next.a,.int .u64 r.next.b,.int .u64 r.next.c,.int .u64 r.next.d]) (.agg #[.string ⟨#[111,98,106,101,99,116,95,114]⟩,.int .u64 0,.int .u64 0,.int .u64 0,.int .u64 0,.int .u64 0,.int .u64 0,.int .u64 0,.int .u64 0])).run Tryz.prog w=.ok (decide (r=jc)) w:=by
 rw[show(10000:Nat)=9997+3 from rfl,Tt];congr 1;rw[Bool.eq_iff_iff];obtain⟨n,⟨a,b,c,d⟩,⟨a',b',c',d'⟩⟩:=r;simp only[decide_eq_true_eq,jc,au.zero,au.mk.injEq,iw.mk.injEq,and_assoc];refine and_congr_right fun _=>?_
 omega
def Mu(nT nR:Nat)(before:List ByteArray)(y:iw):Int:=
 if bY [y.name] before=0 then
  (if y.types.within (au.all nT)=false then 3 else if rF nR y.next=false then 3 else 0)
 else bY [y.name] before
def zN(p:aG)(i:Nat):Int:=match p.roles[i]? with
 | some y=>Mu p.types.length p.roles.length ((p.roles.take i).map (·.name)) y
 | none=>0
def pG(p:aG):Int:=if 32<p.roles.length then 4 else if p.roles[0]?≠some jc then 2 else aH (zN p) (p.roles.length-1) 1
theorem Pq{p:aG}(h:p.roles.length=0):p.roles[0]?≠some jc:=by
 rw[List.getElem?_eq_none (by omega)];simp
theorem Wa{p:aG}{r:iw}(h:p.roles[0]?=some r)(hn:¬ r=jc):p.roles[0]?≠some jc:=by
 rw[h];simpa using hn
theorem head_eq{p:aG}{r:iw}(h:p.roles[0]?=some r)(hn:r=jc):¬ p.roles[0]?≠some jc:=by
 rw[h];simpa using hn
theorem Ka{p:aG}{r:iw}(h:p.roles[0]?=some r)(hn:r=jc):[(⟨#[111,98,106,101,99,116,95,114]⟩:ByteArray)]=(p.roles.take 1).map (·.name):=by
 cases hp:p.roles with
 | nil=>rw[hp] at h;simp at h
 | cons x l=>rw[hp] at h;simp at h;subst h hn;rfl
theorem OI(w0:World)(c0 c1 c2 c3 c4 c5 c6 c7 c8 c9 aW aP aO aU aT aS aR:Value)(p:aG)(hp:aL w0 c0 c1 c2 c3 c4 c5 c6 c7 c8 c9 aW aP aO aU aT aS aR p)(hok:p.Ok):Calls Tryz.prog 43 #[.agg #[c0,c1,c2,c3,c4,c5,c6,c7,c8,c9,aW,aP,aO,aU,aT,aS,aR]] w0 (RI w0 (pG p)):=by
 obtain⟨_,_,_,a3,_,_,_,_,_,_,_,_,_,_,_,_,_,_,_,_,k3,_,_,_,_,_,_,_,_,_,_,_,_,_,rfl,rfl,rfl,rfl,rfl,rfl,rfl,rfl,rfl,rfl,rfl,rfl,rfl,rfl,rfl,rfl,rfl⟩:=hp.open
 obtain⟨r,b,o,H⟩:∃ (r:iw) (b o:Nat),p.roles.length≠0→p.roles[0]?=some r∧a3=some ⟨b,o,none⟩∧∀ j u,r.cells[j]?=some u→w0.cell? ⟨b,o+0*9+j,none⟩=some u:=by
  by_cases h0:p.roles.length=0
  ·exact⟨jc,0,0,fun h=>absurd h0 h⟩
  ·have hy:=aun (Nat.pos_of_ne_zero h0);obtain⟨b,o,e,hc⟩:=SliceAt.elt hp.roles (fun _=>rfl) (by decide) hy (Nat.pos_of_ne_zero h0);exact⟨_,b,o,fun _=>⟨hy,e,hc⟩⟩
 refine fL [] (fn:=Tryz.f43) Tryz.func43 rfl Tryz.ntmps43 rfl<|fun g1 w1 M1=>lb 0<|an rfl<|an (fun h M=>⟨ri (by unfold pG;rw[if_pos (by simp at h;omega)]),M.below⟩) fun h=>?_
 have hr:¬ 32<p.roles.length:=by simp at h;omega
 refine lb 0<|an rfl<|cl<|an (zO _ _ hok.u_) fun w2 M2=>ei<|an QI fun g2 w3 M3=>lb 0<|an ⟨rfl,rfl⟩ fun w4 M4=>lb 1<|an rfl<|lb 1<|an (fun _=>rfl)<|ia (b:=b) (off:=o) (i:=0)<|an (fun h=>⟨(H fun e=>by simp[e] at h).2.1,rfl,Nat.pos_of_ne_zero fun e=>by simp[e] at h⟩)<|lc (x:=[.string r.name,.int .u64 r.types.a,.int .u64 r.types.b,.int .u64 r.types.c,.int .u64 r.types.d,.int .u64 r.next.a,.int .u64 r.next.b,.int .u64 r.next.c,.int .u64 r.next.d])<|an (fun h=>dJ M4.below (H fun e=>by simp[e] at h).2.2)<|ei (x:=.agg #[.string ⟨#[111,98,106,101,99,116,95,114]⟩,.int .u64 0,.int .u64 0,.int .u64 0,.int .u64 0,.int .u64 0,.int .u64 0,.int .u64 0,.int .u64 0])<|an (fun _=>bd (by kernel_rfl))<|ei<|an (fun h=>⟨TM,Ls r⟩)<|an (fun h2 M=>⟨ri ?_,M.below⟩) fun h2=>?_
 ·unfold pG;rw[if_neg hr,if_pos];by_cases h0:p.roles.length=0
  ·exact Pq h0
  ·exact Wa (H h0).1 (by simpa[h0] using h2)
 have h0:p.roles.length≠0:=fun e=>by simp[e] at h2
 obtain⟨hr0,-,-⟩:=H h0;have hro:r=jc:=by simpa[h0] using h2
 rw[show pG p=aH (zN p) (p.roles.length-1) 1 by unfold pG;rw[if_neg hr,if_neg (head_eq hr0 hro)]];refine fun g3 w5 M5=>lp (ι:=Nat×Value) (fun(m,u)=>[(4,u),(5,.int .i64 (m:Int))]) (fun _=>[_,_]) (fun(m,u)=>[⟨u,9,1,m,((p.roles.take m).map (·.name)).flatMap aN⟩]) (fun(m,u) _=>(1≤m∧m≤p.roles.length)∧aH (zN p) (p.roles.length-1) 1=aH (zN p) (p.roles.length-m) m) (fun(m,u)=>p.roles.length-m) (1,.slice (some ⟨g3,0,none⟩) 1 1) (an ⟨⟨rfl,rfl,trivial⟩,fun M=>⟨(M.Fl 1 1 (by simp[maxLen]) rfl).cast rfl (by dsimp only;rw[← Ka hr0 hro];rfl),⟨Nat.le_refl _,Nat.pos_of_ne_zero h0⟩,rfl⟩⟩ ?_)
 rintro⟨m,u⟩ w M ⟨⟨h1m,hm⟩,hinv⟩;refine lb 1<|an rfl<|an (fun h2=>?_) fun h2 M=>⟨ri (by rw[hinv,show m=p.roles.length by simp at h2;omega,cI]),M.below⟩
 have hlt:m<p.roles.length:=by simp at h2;omega
 obtain⟨y,hy⟩:∃ y,p.roles[m]?=some y:=⟨_,aun hlt⟩;have pN:=hok.roles y (aum hy);obtain⟨b,o,e,hc⟩:=SliceAt.elt hp.roles (fun _=>rfl) (by decide) hy hlt;have hcf:zN p m=Mu p.types.length p.roles.length ((p.roles.take m).map (·.name)) y:=by unfold zN;rw[hy]
 have out:∀ v:Int,Mu p.types.length p.roles.length ((p.roles.take m).map (·.name)) y=v→v≠0→aH (zN p) (p.roles.length-1) 1=v:=fun v h1 h2=>by rw[hinv,cJ hlt (by rw[hcf,h1];exact h2),hcf,h1]
 unfold Mu at hcf out;refine lb 1<|an rfl<|ia<|an ⟨e,rfl,hlt⟩<|lc<|an (dJ M.below hc)<|ei<|an abn fun g2 w2 M2=>lb 0<|an ⟨rfl,rfl⟩ fun w3 M3=>lb 0<|an rfl<|fun g3 w4 M4=>cl<|an (eW _ _ _ [y.name] ((p.roles.take m).map (·.name)) (M4.slice 0 rfl rfl rfl (by simp[maxLen])) (iX (M4.r 0 rfl) (by simp;omega) rfl) (by simpa using pN.name)) fun w5 M5=>an (fun h3 M=>⟨ri (out _ (if_neg (by simpa using h3)) (by simpa using h3)),M.below⟩) fun h3=>?_
 replace h3:bY [y.name] ((p.roles.take m).map (·.name))=0:=by simpa using h3
 rw[if_pos h3] at hcf out;refine lb 1<|an rfl<|fun g4 w6 M6=>ap 0 id rfl (M6.slice 0 rfl rfl rfl (by simp[maxLen])) ⟨by unfold maxLen;omega,by omega⟩ fun v5 w7 M7=>lb 2<|an rfl<|lb 3<|an rfl<|cl<|an (pE _ y.types (au.all p.types.length) pN.types (A_ _)) fun w8 M8=>lb 4<|an (fun _=>rfl)<|lb 2<|an (fun _=>rfl)<|cl<|an (fun _=>ju _ _ _ _ _ _ _ _ _ _ _ _ _ _ _ _ _ _ p (hp.keep M8.below) hok y.next pN.next) fun w9 M9=>an (fun h5 M=>⟨ri (out 3 ?_ (by decide)),M.below⟩) fun h5=>an (by omega)<|bk (m+1,v5) ⟨rfl,rfl,trivial⟩ (fun M=>⟨(M.only (.cons _ (.cons _ (.cons _ (.refl _)))) (.refl _)).cast rfl (by dsimp only;rw[qy hy]),by omega,hinv.trans (bQ hlt ?_)⟩) (by dsimp only;omega)
 all_goals first|(rw[hcf];clear hcf out)|clear hcf out
 all_goals cases h6:y.types.within (au.all p.types.length)<;>cases h7:rF p.roles.length y.next<;>simp_all
structure aG.Few (p:aG):Prop where
 types:p.types.length≤12
 lY:∀ t∈p.types,t.lY.length≤4
def eF(l:List lI):List ByteArray:=l.flatMap fun t=>t.name::t.lY
theorem Oh{l:List lI}(h:∀ t∈l,t.lY.length≤4):(eF l).length≤l.length*5:=by
 induction l with
 | nil=>simp[eF]
 | cons t l ih=>
  have h1:=h t (by simp);have h2:=ih fun x hx=>h x (by simp[hx])
  unfold eF at *;rw[List.flatMap_cons,auo,List.length_cons,List.length_cons];omega
theorem zy{p:aG}(h:p.Few)(m:Nat):(eF (p.types.take m)).length≤m*5:=by
 have h1:=Oh (l:=p.types.take m) fun t ht=>h.lY t (List.mem_of_mem_take ht)
 have h2:(p.types.take m).length≤m:=List.length_take_le _ _;omega
theorem Bw{y:lI}(h:y.Ok):∀ s∈y.name::y.lY,dX s:=fun s hs=>by
 rcases List.mem_cons.1 hs with rfl|hs
 ·exact h.name
 ·exact h.lY.all s hs
def abM(before:List ByteArray)(y:lI):Int:=bY (y.name::y.lY) before
def wK(p:aG)(i:Nat):Int:=match p.types[i]? with
 | some y=>abM (eF (p.types.take i)) y
 | none=>0
def NG(nT:Nat)(before:List ByteArray)(y:kH):Int:=
 if bY [y.name] before=0 then (if y.types.within (au.all nT)=false then 3 else 0) else bY [y.name] before
def AZ(p:aG)(i:Nat):Int:=match p.attrs[i]? with
 | some y=>NG p.types.length (eF p.types++(p.attrs.take i).map (·.name)) y
 | none=>0
def oP(p:aG):Int:=if 256<p.types.length then 4 else if aH (wK p) p.types.length 0=0 then (if 64<p.attrs.length then 4 else aH (AZ p) p.attrs.length 0) else aH (wK p) p.types.length 0
theorem qQ(w0:World)(c0 c1 c2 c3 c4 c5 c6 c7 c8 c9 aW aP aO aU aT aS aR:Value)(p:aG)(hp:aL w0 c0 c1 c2 c3 c4 c5 c6 c7 c8 c9 aW aP aO aU aT aS aR p)(_:p.Ok)(iN:p.Few)(k:Nat)(hk:k≤p.types.length):Calls Tryz.prog 102 #[.agg #[c0,c1,c2,c3,c4,c5,c6,c7,c8,c9,aW,aP,aO,aU,aT,aS,aR],.int .i64 (k:Int)] w0 (fun(e:Ending) (w':World)=>∃ v,e=.returned v∧(ah1 w' w0.heap.size v (eF (p.types.take k))∧auk w0.heap.size w0 w')):=by
 obtain⟨_,_,_,_,_,_,_,_,_,_,_,_,_,_,_,_,_,_,_,_,_,_,_,_,_,_,_,_,_,_,_,_,_,_,rfl,rfl,rfl,rfl,rfl,rfl,rfl,rfl,rfl,rfl,rfl,rfl,rfl,rfl,rfl,rfl,rfl⟩:=hp.open;have Bo:=iN.types;refine fL [] (fn:=Tryz.f102) Tryz.func102 rfl Tryz.ntmps102 rfl<|fun g1 w1 M1=>lq (ι:=Nat×Value) (fun(m,u)=>[(5,u),(6,.int .i64 (m:Int))]) (fun(m,u)=>[⟨u,9,1,(eF (p.types.take m)).length,(eF (p.types.take m)).flatMap aN⟩]) (fun(m,u) _=>m≤k) (fun(m,u)=>k-m) (0,.slice none 0 0) (an ⟨⟨rfl,rfl,trivial⟩,fun M=>⟨M.bX 9 1,auu _⟩⟩ ?_)
 rintro⟨m,u⟩ w M hm;refine an (fun h2=>?_) fun h2 M=>⟨_,rfl,?_,M.below⟩
 ·have hlt:m<k:=by simp at h2;omega
  obtain⟨y,hy⟩:∃ y,p.types[m]?=some y:=⟨_,aun (Nat.lt_of_lt_of_le hlt hk)⟩;obtain⟨b,o,_,e,⟨v,rfl,hv⟩,hc⟩:=aC.elt hp.types (by decide) hy;have hl:=zy iN m;have hal:=iN.lY y (aum hy);exact lb 0<|an rfl<|ia<|an ⟨e,rfl,by omega⟩<|lc<|an (dJ M.below hc 0 _ rfl)<|fun g2 w2 M2=>ap 0 id rfl (M2.slice 0 rfl rfl rfl (by simp[maxLen])) ⟨by unfold maxLen;omega,by omega⟩ fun v3 w3 M3=>lb 1<|an rfl<|ia<|an ⟨e,rfl,by omega⟩<|lc<|an (dJ M3.below hc 1 _ rfl)<|ap 0 id rfl (hv.keep M3.below) ⟨by unfold maxLen;omega,by omega⟩ fun v4 w4 M4=>an (by omega)<|bk (m+1,v4) ⟨rfl,rfl,trivial⟩ (fun M=>⟨(M.only (.cons _ (.refl _)) (.refl _)).cast rfl (by dsimp only;rw[List.take_add_one,hy];simp[eF,aN];omega),by omega⟩) (by dsimp only;omega)
 ·obtain rfl:m=k:=by simp at h2;omega
  exact M.r 0 rfl
theorem Oe(w0:World)(c0 c1 c2 c3 c4 c5 c6 c7 c8 c9 aW aP aO aU aT aS aR:Value)(p:aG)(hp:aL w0 c0 c1 c2 c3 c4 c5 c6 c7 c8 c9 aW aP aO aU aT aS aR p)(hok:p.Ok)(iN:p.Few):Calls Tryz.prog 42 #[.agg #[c0,c1,c2,c3,c4,c5,c6,c7,c8,c9,aW,aP,aO,aU,aT,aS,aR]] w0 (RI w0 (oP p)):=by
 obtain⟨_,_,_,_,_,_,_,_,_,_,_,_,_,_,_,_,_,_,_,_,_,_,_,_,_,_,_,_,_,_,_,_,_,_,rfl,rfl,rfl,rfl,rfl,rfl,rfl,rfl,rfl,rfl,rfl,rfl,rfl,rfl,rfl,rfl,rfl⟩:=hp.open;have Bo:=iN.types;refine fL [] (fn:=Tryz.f42) Tryz.func42 rfl Tryz.ntmps42 rfl<|fun g1 w1 M1=>lb 0<|an rfl<|an (fun h=>by simp at h;omega) fun h=>?_
 have hr:¬ 256<p.types.length:=by omega
 refine lr (ι:=Nat) (fun m=>[(3,.int .i64 (m:Int))]) (fun m _=>m≤p.types.length∧aH (wK p) p.types.length 0=aH (wK p) (p.types.length-m) m) (fun m=>p.types.length-m) 0 (an ⟨⟨rfl,trivial⟩,fun M=>⟨M,auu _,by rw[Nat.sub_zero]⟩⟩ ?_);rintro m w M ⟨hm,hinv⟩;refine lb 0<|an rfl<|an (fun h2=>?_) fun h2=>?_
 ·have hlt:m<p.types.length:=by simp at h2;omega
  obtain⟨y,hy⟩:∃ y,p.types[m]?=some y:=⟨_,aun hlt⟩;have pN:=hok.types y (aum hy);have hal:=iN.lY y (aum hy);obtain⟨b,o,_,e,⟨v,rfl,hv⟩,hc⟩:=aC.elt hp.types (by decide) hy;have hcf:wK p m=bY (y.name::y.lY) (eF (p.types.take m)):=by unfold wK;rw[hy];rfl
  exact dr (by kernel_rfl)<|lb 0<|an rfl<|ia<|an ⟨e,rfl,hlt⟩<|lc<|an (dJ M.below hc 0 _ rfl)<|bl<|lb 0<|an rfl<|ia<|an ⟨e,rfl,hlt⟩<|lc<|an (dJ M.below hc 1 _ rfl)<|fun g2 w2 hb2 M2=>ap 0 (fun M=>M.Fl 1 1 (by simp[maxLen]) rfl) rfl (hv.keep M2.below) ⟨by unfold maxLen;omega,by omega⟩ fun v3 w3 M3=>lb 0<|an rfl<|cw M3 (qQ _ _ _ _ _ _ _ _ _ _ _ _ _ _ _ _ _ _ p (hp.keep M3.below) hok iN m hm) fun u w4 M4=>cl<|an (eW _ _ _ (y.name::y.lY) (eF (p.types.take m)) (iX (M4.r 1 rfl) (by simp;omega) rfl) (iX (M4.r 0 rfl) rfl rfl) (Bw pN)) fun w5 M5=>an (fun h3 M=>⟨ri (by
   have h3:bY (y.name::y.lY) (eF (p.types.take m))≠0:=by simpa using h3
   have e:aH (wK p) p.types.length 0=bY (y.name::y.lY) (eF (p.types.take m)):=by rw[hinv,cJ hlt (by rw[hcf];exact h3),hcf]
   unfold oP;rw[if_neg hr,e,if_neg h3]),M.below⟩) fun h3=>an (by omega)<|bk (m+1) ⟨rfl,trivial⟩ (fun M=>⟨M.only (.refl _) (.cons _ (.cons _ (.refl _))),by omega,hinv.trans (bQ hlt (by rw[hcf];simpa using h3))⟩) (by dsimp only;omega)
 have hz:aH (wK p) p.types.length 0=0:=by rw[hinv,show m=p.types.length by simp at h2;omega,cI]
 clear hinv h2;refine lb 0<|an rfl<|an (fun h M=>⟨ri (by unfold oP;rw[if_neg hr,if_pos hz,if_pos (by simp at h;omega)]),M.below⟩) fun h=>?_
 have ha:¬ 64<p.attrs.length:=by simp at h;omega
 rw[show oP p=aH (AZ p) p.attrs.length 0 by unfold oP;rw[if_neg hr,if_pos hz,if_neg ha]];refine lb 0<|an rfl<|lb 0<|an rfl<|cw M (qQ _ _ _ _ _ _ _ _ _ _ _ _ _ _ _ _ _ _ p (hp.keep M.below) hok iN p.types.length (Nat.le_refl _)) fun u0 w5 M5=>lq (ι:=Nat×Value) (fun(m,u)=>[(6,u),(7,.int .i64 (m:Int))]) (fun(m,u)=>[⟨u,9,1,(eF p.types++(p.attrs.take m).map (·.name)).length,(eF p.types++(p.attrs.take m).map (·.name)).flatMap aN⟩]) (fun(m,u) _=>m≤p.attrs.length∧aH (AZ p) p.attrs.length 0=aH (AZ p) (p.attrs.length-m) m) (fun(m,u)=>p.attrs.length-m) (0,u0) (an ⟨⟨rfl,rfl,trivial⟩,fun M=>⟨M.cast rfl (by rw[auE];simp),auu _,by rw[Nat.sub_zero]⟩⟩ ?_)
 clear M;rintro⟨m,u⟩ w M ⟨hm,hinv⟩;refine lb 0<|an rfl<|an (fun h2=>?_) fun h2 M=>⟨ri (by rw[hinv,show m=p.attrs.length by simp at h2;omega,cI]),M.below⟩
 have hlt:m<p.attrs.length:=by simp at h2;omega
 obtain⟨y,hy⟩:∃ y,p.attrs[m]?=some y:=⟨_,aun hlt⟩;have pN:=hok.attrs y (aum hy);obtain⟨b,o,e,hc⟩:=SliceAt.elt hp.attrs (fun _=>rfl) (by decide) hy hlt;have hcf:AZ p m=NG p.types.length (eF p.types++(p.attrs.take m).map (·.name)) y:=by unfold AZ;rw[hy]
 have out:∀ v:Int,NG p.types.length (eF p.types++(p.attrs.take m).map (·.name)) y=v→v≠0→aH (AZ p) p.attrs.length 0=v:=fun v h1 h2=>by rw[hinv,cJ hlt (by rw[hcf,h1];exact h2),hcf,h1]
 unfold NG at hcf out;have hl:=zy iN p.types.length;rw[auE] at hl;refine lb 0<|an rfl<|ia<|an ⟨e,rfl,hlt⟩<|lc<|an (dJ M.below hc 0 _ rfl)<|fun g4 w6 M6=>cl<|an (eW _ _ _ [y.name] (eF p.types++(p.attrs.take m).map (·.name)) (M6.slice 0 rfl rfl rfl (by simp[maxLen])) (iX (M6.r 0 rfl) rfl rfl) (by simpa using pN.name)) fun w7 M7=>an (fun h3 M=>⟨ri (out _ (if_neg (by simpa using h3)) (by simpa using h3)),M.below⟩) fun h3=>?_
 replace h3:bY [y.name] (eF p.types++(p.attrs.take m).map (·.name))=0:=by simpa using h3
 rw[if_pos h3] at hcf out;have hll:(eF p.types++(p.attrs.take m).map (·.name)).length≤200:=by simp;omega
 exact lb 1<|an rfl<|ia<|an ⟨e,rfl,hlt⟩<|lc<|an (dJ M7.below hc 0 _ rfl)<|fun g5 w8 M8=>ap 0 id rfl (M8.slice 0 rfl rfl rfl (by simp[maxLen])) ⟨by unfold maxLen;omega,by omega⟩ fun v6 w9 M9=>dr (by kernel_rfl)<|lb 2<|an rfl<|ia<|an ⟨e,rfl,hlt⟩<|lc (x:=[.int .u64 y.types.a,.int .u64 y.types.b,.int .u64 y.types.c,.int .u64 y.types.d])<|an (zK (dJ M9.below hc) rfl)<|lb 2<|an rfl<|cl<|an (fun w' hb' M'=>fW _ y.types pN.types _ (by omega)) fun xR SR sA=>an (fun h4 M=>⟨ri (out 3 (if_pos (by simpa using h4)) (by decide)),M.below⟩) fun h4=>an (by omega)<|bk (m+1,v6) ⟨rfl,rfl,trivial⟩ (fun M=>⟨(M.only (.cons _ (.cons _ (.refl _))) (.refl _)).cast rfl (by dsimp only;rw[List.take_add_one,hy];simp[aN];omega),by omega,hinv.trans (bQ hlt (by rw[hcf,if_neg (by simpa using h4)]))⟩) (by dsimp only;omega)
theorem gD(w:World)(i n:Int):Calls Tryz.prog 113 #[.int .i64 i,.int .i64 n] w fun e w'=>e=.returned (.bool (bn i n))∧auk w.heap.size w w':=(cC w i n).mono fun _ _ ⟨h1,h2⟩=>⟨h1,h2▸Below.refl _ _⟩
structure aG.aaI (p:aG):Prop where
 types:p.types.length≤12
 attrs:p.attrs.length≤6
 classes:p.classes.length≤6
 rules:p.rules.length≤40
 conds:p.conds.length≤6
 bools:p.bools.length≤6
 cons:p.cons.length≤12
 users:p.users.length≤8
 roles:p.roles.length≤8
 trans:p.trans.length≤36
 aQ:p.aQ.length≤12
 ranges:p.ranges.length≤12
 aV:p.aV.length≤6
 cats:p.cats.length≤10
 bP:p.bP.length≤8
 files:p.files.length≤12
 asserts:p.asserts.length≤8
structure aG.sj (p:aG):Prop where
 sizes:p.aaI
 lY:∀ x∈p.types,x.lY.length≤4
 conds:∀ x∈p.conds,dY 13 x≤6
 cons:∀ x∈p.cons,dY 13 x.expr≤6
theorem aG.sj.few{p:aG}(h:p.sj):p.Few:=⟨h.sizes.types,h.lY⟩
theorem Ow(w0:World)(c0 c1 c2 c3 c4 c5 c6 c7 c8 c9 aW aP aO aU aT aS aR:Value)(p:aG)(hp:aL w0 c0 c1 c2 c3 c4 c5 c6 c7 c8 c9 aW aP aO aU aT aS aR p)(_:p.Ok):Calls Tryz.prog 11 #[.agg #[c0,c1,c2,c3,c4,c5,c6,c7,c8,c9,aW,aP,aO,aU,aT,aS,aR]] w0 (fun(e:Ending) (w':World)=>∃ v,e=.returned v∧∃ b:Bool,v=.bool b∧(b=true→p.sj)∧auk w0.heap.size w0 w'):=by
 obtain⟨_,_,_,_,_,_,_,_,_,_,_,_,_,_,_,_,_,_,_,_,_,_,_,_,_,_,_,_,_,_,_,_,_,_,rfl,rfl,rfl,rfl,rfl,rfl,rfl,rfl,rfl,rfl,rfl,rfl,rfl,rfl,rfl,rfl,rfl⟩:=hp.open;have tr:=fun m h=>SliceAt.elt (i:=m) hp.trans (fun _=>rfl) (by decide) (aun h) h
 obtain⟨_,_,e1,-,-,ty⟩:=aC.form hp.types (by decide);obtain⟨_,_,e8,-,-,cd⟩:=aC.form hp.conds (by decide);obtain⟨_,_,e13,-,-,cn⟩:=aC.form hp.cons (by decide);injection e1 with e1;injection e8 with e8;injection e13 with e13;subst e1 e8 e13;have no:∀ w,auk w0.heap.size w0 w→∃ v,Ending.returned (kR [Value.bool false])=.returned v∧∃ b:Bool,v=.bool b∧(b=true→p.sj)∧auk w0.heap.size w0 w:=fun w h=>⟨_,rfl,false,rfl,(fun e=>by cases e),h⟩
 refine fL [] (fn:=Tryz.f11) Tryz.func11 rfl Tryz.ntmps11 rfl fun g1 w1 M1=>lb 0<|an rfl<|lb 0<|an (fun _=>rfl)<|lb 0<|an (fun _=>rfl)<|lb 0<|an (fun _=>rfl)<|lb 0<|an (fun _=>rfl)<|lb 0<|an (fun _=>rfl)<|lb 0<|an (fun _=>rfl)<|lb 0<|an (fun _=>rfl)<|lb 0<|an (fun _=>rfl)<|an (fun h M=>no _ M.below) fun h=>?_
 simp only[Bool.or_eq_false_iff,decide_eq_false_iff_not] at h;refine lb 0<|an rfl<|lb 0<|an (fun _=>rfl)<|lb 0<|an (fun _=>rfl)<|lb 0<|an (fun _=>rfl)<|lb 0<|an (fun _=>rfl)<|lb 0<|an (fun _=>rfl)<|lb 0<|an (fun _=>rfl)<|lb 0<|an (fun _=>rfl)<|an (fun h M=>no _ M.below) fun h'=>?_
 simp only[Bool.or_eq_false_iff,decide_eq_false_iff_not] at h';refine ei<|an abj fun g2 w2 M2=>lp (ι:=Nat×Int×Int×Int×Int) (fun(m,_)=>[(4,.int .i64 (m:Int))]) (fun(m,n0,n1,n2,n3)=>(g2,82,#[.int .i64 n0,.int .i64 n1,.int .i64 n2,.int .i64 n3])::_) (fun _=>[]) (fun(m,n0,n1,n2,n3) _=>m≤p.trans.length∧0≤n1∧n1≤m∧0≤n2∧n2≤m∧0≤n3∧n3≤m) (fun(m,_)=>p.trans.length-m) (0,0,0,0,0) (an ⟨⟨rfl,trivial⟩,fun M=>⟨M,by omega⟩⟩ ?_)
 rintro⟨m,n0,n1,n2,n3⟩ w M hm;refine lb 1<|an rfl<|an (fun h2=>?_) fun h2=>?_
 ·simp only[decide_eq_true_eq] at h2;have hlt:m<p.trans.length:=by omega
  obtain⟨b,o,e,hc⟩:=tr m hlt;refine lb 1<|an rfl<|ia<|an ⟨e,rfl,hlt⟩<|lc<|an (cell_later M.below (hc 0 _ rfl))<|an (fun h3=>?_) fun h3=>an (by omega)<|bk (m+1,n0,n1,n2,n3) ⟨rfl,trivial⟩ (fun M=>⟨M,by omega⟩) (by dsimp only;omega)
  simp only[auv,decide_eq_true_eq] at h3;have hk:p.trans[m].kind=1∨p.trans[m].kind=2∨p.trans[m].kind=3:=by omega
  rcases hk with hk|hk|hk
  ·exact ei (x:=1)<|an ⟨hk,by decide⟩<|lb 0<|an rfl<|an (by omega)<|ei (x:=1)<|an ⟨hk,by decide⟩<|lb 0<|an ⟨rfl,rfl⟩ fun w M=>an (by omega)<|bk (m+1,n0,n1+1,n2,n3) ⟨rfl,trivial⟩ (fun M=>⟨M,by omega⟩) (by dsimp only;omega)
  ·exact ei (x:=2)<|an ⟨hk,by decide⟩<|lb 0<|an rfl<|an (by omega)<|ei (x:=2)<|an ⟨hk,by decide⟩<|lb 0<|an ⟨rfl,rfl⟩ fun w M=>an (by omega)<|bk (m+1,n0,n1,n2+1,n3) ⟨rfl,trivial⟩ (fun M=>⟨M,by omega⟩) (by dsimp only;omega)
  ·exact ei (x:=3)<|an ⟨hk,by decide⟩<|lb 0<|an rfl<|an (by omega)<|ei (x:=3)<|an ⟨hk,by decide⟩<|lb 0<|an ⟨rfl,rfl⟩ fun w M=>an (by omega)<|bk (m+1,n0,n1,n2,n3+1) ⟨rfl,trivial⟩ (fun M=>⟨M,by omega⟩) (by dsimp only;omega)
 refine lr (ι:=Nat) (fun m=>[(6,.int .i64 (m:Int))]) (fun m _=>m≤p.types.length∧∀ x∈p.types.take m,x.lY.length≤4) (fun m=>p.types.length-m) 0 (an ⟨⟨rfl,trivial⟩,fun M=>⟨M,auu _,by simp⟩⟩ ?_);rintro i1 w M ⟨hi1,ha⟩;refine lb 1<|an rfl<|an (fun h2=>?_) fun h2=>?_
 ·simp only[decide_eq_true_eq] at h2;obtain⟨x,hx⟩:∃ x,p.types[i1]?=some x:=⟨_,aun (by omega)⟩;obtain⟨b,o,z,rfl,⟨u,rfl,hu⟩,-,hc⟩:=ty i1 x hx;obtain⟨_,_,rfl,-⟩:=hu.get;refine lb 1<|an rfl<|ia<|an ⟨rfl,rfl,by omega⟩<|lc<|an (cell_later M.below (hc 1 _ rfl))<|an (fun h3 M=>no _ M.below) fun h3=>an (by omega)<|bk (i1+1) ⟨rfl,trivial⟩ (fun M=>⟨M,by omega,fun y hy=>?_⟩) (by dsimp only;omega)
  rw[List.take_add_one,hx] at hy;rcases auz.1 hy with hy|hy
  ·exact ha y hy
  ·obtain rfl:y=x:=by simpa using hy
   simp only[decide_eq_false_iff_not] at h3;omega
 simp only[decide_eq_false_iff_not] at h2;obtain rfl:i1=p.types.length:=by omega
 refine lr (ι:=Nat) (fun m=>[(7,.int .i64 (m:Int))]) (fun m _=>m≤p.conds.length∧∀ x∈p.conds.take m,dY 13 x≤6) (fun m=>p.conds.length-m) 0 (an ⟨⟨rfl,trivial⟩,fun M=>⟨M,auu _,by simp⟩⟩ ?_);rintro i2 w M ⟨hi2,hb⟩;refine lb 1<|an rfl<|an (fun h2=>?_) fun h2=>?_
 ·simp only[decide_eq_true_eq] at h2;obtain⟨x,hx⟩:∃ x,p.conds[i2]?=some x:=⟨_,aun (by omega)⟩;obtain⟨b,o,z,rfl,hz,-,hc⟩:=cd i2 x hx;obtain⟨nv,kv,rfl,-⟩:=hz.open;refine lb 1<|an rfl<|ia<|an ⟨rfl,rfl,by omega⟩<|lc<|an (dJ M.below hc)<|cl<|an (n_ _ _ x (bB.keep M.below hz)) fun w3 M3=>an (fun h3 M=>no _ M.below) fun h3=>an (by omega)<|bk (i2+1) ⟨rfl,trivial⟩ (fun M=>⟨M,by omega,fun y hy=>?_⟩) (by dsimp only;omega)
  rw[List.take_add_one,hx] at hy;rcases auz.1 hy with hy|hy
  ·exact hb y hy
  ·obtain rfl:y=x:=by simpa using hy
   simp only[decide_eq_false_iff_not] at h3;omega
 simp only[decide_eq_false_iff_not] at h2;obtain rfl:i2=p.conds.length:=by omega
 refine lr (ι:=Nat) (fun m=>[(8,.int .i64 (m:Int))]) (fun m _=>m≤p.cons.length∧∀ x∈p.cons.take m,dY 13 x.expr≤6) (fun m=>p.cons.length-m) 0 (an ⟨⟨rfl,trivial⟩,fun M=>⟨M,auu _,by simp⟩⟩ ?_);rintro i3 w M ⟨hi3,hcn⟩;refine lb 1<|an rfl<|an (fun h2=>?_) fun h2=>?_
 ·simp only[decide_eq_true_eq] at h2;obtain⟨x,hx⟩:∃ x,p.cons[i3]?=some x:=⟨_,aun (by omega)⟩;obtain⟨b,o,z,rfl,⟨es,rfl,hz⟩,-,hc⟩:=cn i3 x hx
  have hc3:∀ j u,es[j]?=some u→w0.cell? ⟨b,o+i3*13+3+j,none⟩=some u:=fun j u hj=>by
   have h4:=hc (j+3) u (by simpa using hj)
   rwa [show o+i3*13+(j+3)=o+i3*13+3+j by omega] at h4
  obtain⟨nv,kv,rfl,-⟩:=hz.open;refine lb 1<|an rfl<|ia<|an ⟨rfl,rfl,by omega⟩<|lc<|an (dJ M.below hc3)<|cl<|an (n_ _ _ x.expr (bB.keep M.below hz)) fun w3 M3=>an (fun h3 M=>no _ M.below) fun h3=>an (by omega)<|bk (i3+1) ⟨rfl,trivial⟩ (fun M=>⟨M,by omega,fun y hy=>?_⟩) (by dsimp only;omega)
  rw[List.take_add_one,hx] at hy;rcases auz.1 hy with hy|hy
  ·exact hcn y hy
  ·obtain rfl:y=x:=by simpa using hy
   simp only[decide_eq_false_iff_not] at h3;omega
 simp only[decide_eq_false_iff_not] at h2;obtain rfl:i3=p.cons.length:=by omega
 rw[auE] at ha hb hcn;exact ei (x:=1)<|an ⟨rfl,by decide⟩<|lb 0<|an rfl<|ei (x:=2)<|an (fun _=>⟨rfl,by decide⟩)<|lb 0<|an (fun _=>rfl)<|ei (x:=3)<|an (fun _=>⟨rfl,by decide⟩)<|lb 0<|an (fun _=>rfl) fun M=>⟨_,rfl,_,rfl,fun _=>⟨by constructor<;>omega,ha,hb,hcn⟩,M.below⟩
def bN(l:List bJ)(k:Int):Nat:=(l.filter fun t=>decide (t.kind=k)).length
theorem fF(l:List bJ)(t:bJ)(k:Int):bN (l++[t]) k=bN l k+(if t.kind=k then 1 else 0):=by
 unfold bN;rw[List.filter_append,auo];by_cases h:t.kind=k<;>simp[h]
theorem D3(l:List bJ)(m:Nat)(k:Int):bN (l.take m) k≤bN l k:=by
 have h:=bN (l.drop m) k;unfold bN
 conv=>rhs;rw[← List.take_append_drop m l,List.filter_append,auo]
 omega
def Ci(nT nC nK:Nat)(y:bJ):Int:=
 if y.kind<1 then 13 else if 3<y.kind then 13
 else if y.src.within (au.all nT)=false then 3 else if y.tgt.within (au.all nT)=false then 3
 else if bn y.cls (nC:Int)=false then 3 else if bn y.res (nT:Int)=false then 3 else if uf nK y.cond=false then 3
 else if eA y.src=false then 2 else if eA y.tgt=false then 2
 else if y.kind≠1∧gA y.name=false then 2
 else if gA y.name=false∧lM y.name=false then 10 else 0
def wL(p:aG)(i:Nat):Int:=match p.trans[i]? with
 | some y=>Ci p.types.length p.classes.length p.conds.length y
 | none=>0
def oV(p:aG):Int:=if bN p.trans 1≤1024∧bN p.trans 2≤1024∧bN p.trans 3≤1024 then aH (wL p) p.trans.length 0 else 4
theorem JN{p:aG}(h:∀ q:Int,1≤q→q≤3→bN p.trans q≤1024):oV p=aH (wL p) p.trans.length 0:=
 if_pos ⟨h 1 (by omega) (by omega),h 2 (by omega) (by omega),h 3 (by omega) (by omega)⟩
theorem oU{p:aG}{q:Int}{m:Nat}(h1:1≤q)(h2:q≤3)(h:1024<bN (p.trans.take m) q):oV p=4:=by
 have h3:=D3 p.trans m q;refine if_neg fun⟨a,b,c⟩=>?_
 rcases(show q=1∨q=2∨q=3 by omega) with rfl|rfl|rfl<;>omega
theorem Og(w0:World)(c0 c1 c2 c3 c4 c5 c6 c7 c8 c9 aW aP aO aU aT aS aR:Value)(p:aG)(hp:aL w0 c0 c1 c2 c3 c4 c5 c6 c7 c8 c9 aW aP aO aU aT aS aR p)(hok:p.Ok):Calls Tryz.prog 47 #[.agg #[c0,c1,c2,c3,c4,c5,c6,c7,c8,c9,aW,aP,aO,aU,aT,aS,aR]] w0 (RI w0 (oV p)):=by
 obtain⟨_,_,_,_,_,_,_,_,_,_,_,_,_,_,_,_,_,_,_,_,_,_,_,_,_,_,_,_,_,_,_,_,_,_,rfl,rfl,rfl,rfl,rfl,rfl,rfl,rfl,rfl,rfl,rfl,rfl,rfl,rfl,rfl,rfl,rfl⟩:=hp.open;obtain⟨_,_,e10,-,adt,-⟩:=SliceAt.form hp.trans (by decide);obtain⟨_,_,e1,-,hm1,-⟩:=aC.form hp.types (by decide);have tr:=fun m h=>SliceAt.elt (i:=m) hp.trans (fun _=>rfl) (by decide) (aun h) h
 refine fL [] (fn:=Tryz.f47) Tryz.func47 rfl Tryz.ntmps47 rfl fun g1 w1 M1=>ei<|an abj fun g2 w2 M2=>lp (ι:=Nat) (fun m=>[(4,.int .i64 (m:Int))]) (fun m=>(g2,82,#[.int .i64 0,.int .i64 ((bN (p.trans.take m) 1:Nat):Int),.int .i64 ((bN (p.trans.take m) 2:Nat):Int),.int .i64 ((bN (p.trans.take m) 3:Nat):Int)])::_) (fun _=>[]) (fun m _=>m≤p.trans.length∧∀ q:Int,1≤q→q≤3→bN (p.trans.take m) q≤1024) (fun m=>p.trans.length-m) 0 (an ⟨⟨rfl,trivial⟩,fun M=>⟨M,auu _,fun _ _ _=>auu _⟩⟩ ?_)
 rintro m w M ⟨hm,hle⟩;refine lb 1<|an rfl<|an (fun h2=>?_) fun h2=>?_
 ·simp only[decide_eq_true_eq] at h2;have hlt:m<p.trans.length:=by omega
  obtain⟨b,o,e,hc⟩:=tr m hlt;have hy:p.trans[m]?=some p.trans[m]:=aun hlt;refine lb 1<|an rfl<|ia<|an ⟨e,rfl,hlt⟩<|lc<|an (cell_later M.below (hc 0 _ rfl))<|an (fun h3=>?_) fun h3=>?_
  rotate_left
  ·have hno:∀ q:Int,1≤q→q≤3→bN (p.trans.take (m+1)) q=bN (p.trans.take m) q:=fun q h1 h2=>by
    rw[bD hy,fF,if_neg (fun e=>by simp only[Bool.and_eq_false_iff,decide_eq_false_iff_not] at h3;omega)];rfl
   exact an (by omega)<|bk (m+1) ⟨rfl,trivial⟩ (fun M=>⟨by rw[hno 1 (by omega) (by omega),hno 2 (by omega) (by omega),hno 3 (by omega) (by omega)];exact M,by omega,fun q h1 h2=>by rw[hno q h1 h2];exact hle q h1 h2⟩) (by dsimp only;omega)
  simp only[auv,decide_eq_true_eq] at h3;rcases(show p.trans[m].kind=1∨p.trans[m].kind=2∨p.trans[m].kind=3 by omega) with hk|hk|hk
  ·have hk1:bN (p.trans.take (m+1)) 1=bN (p.trans.take m) 1+1:=by rw[bD hy,fF,if_pos hk]
   have hno:∀ q:Int,q≠1→bN (p.trans.take (m+1)) q=bN (p.trans.take m) q:=fun q h1=>by rw[bD hy,fF,if_neg (by omega)];rfl
   have hq:=hle 1 (by omega) (by omega);refine ei (x:=1)<|an ⟨hk,by decide⟩<|lb 0<|an rfl<|an (by omega)<|ei (x:=1)<|an ⟨hk,by decide⟩<|lb 0<|an ⟨rfl,rfl⟩ fun w M=>ei (x:=1)<|an ⟨hk,by decide⟩<|lb 0<|an rfl<|an (fun h4 M=>⟨?_,M.below⟩) fun h4=>an (by omega)<|bk (m+1) ⟨rfl,trivial⟩ (fun M=>⟨by rw[hk1,hno 2 (by omega),hno 3 (by omega)];exact M,by omega,fun q h1 h2=>?_⟩) (by dsimp only;omega)
   ·simp only[decide_eq_true_eq] at h4;rw[oU (q:=1) (m:=m+1) (by omega) (by omega) (by rw[hk1];omega)];rfl
   ·simp only[decide_eq_false_iff_not] at h4;by_cases e:q=1
    ·subst e;rw[hk1];omega
    ·rw[hno q e];exact hle q h1 h2
  ·have hk1:bN (p.trans.take (m+1)) 2=bN (p.trans.take m) 2+1:=by rw[bD hy,fF,if_pos hk]
   have hno:∀ q:Int,q≠2→bN (p.trans.take (m+1)) q=bN (p.trans.take m) q:=fun q h1=>by rw[bD hy,fF,if_neg (by omega)];rfl
   have hq:=hle 2 (by omega) (by omega);refine ei (x:=2)<|an ⟨hk,by decide⟩<|lb 0<|an rfl<|an (by omega)<|ei (x:=2)<|an ⟨hk,by decide⟩<|lb 0<|an ⟨rfl,rfl⟩ fun w M=>ei (x:=2)<|an ⟨hk,by decide⟩<|lb 0<|an rfl<|an (fun h4 M=>⟨?_,M.below⟩) fun h4=>an (by omega)<|bk (m+1) ⟨rfl,trivial⟩ (fun M=>⟨by rw[hk1,hno 1 (by omega),hno 3 (by omega)];exact M,by omega,fun q h1 h2=>?_⟩) (by dsimp only;omega)
   ·simp only[decide_eq_true_eq] at h4;rw[oU (q:=2) (m:=m+1) (by omega) (by omega) (by rw[hk1];omega)];rfl
   ·simp only[decide_eq_false_iff_not] at h4;by_cases e:q=2
    ·subst e;rw[hk1];omega
    ·rw[hno q e];exact hle q h1 h2
  ·have hk1:bN (p.trans.take (m+1)) 3=bN (p.trans.take m) 3+1:=by rw[bD hy,fF,if_pos hk]
   have hno:∀ q:Int,q≠3→bN (p.trans.take (m+1)) q=bN (p.trans.take m) q:=fun q h1=>by rw[bD hy,fF,if_neg (by omega)];rfl
   have hq:=hle 3 (by omega) (by omega);refine ei (x:=3)<|an ⟨hk,by decide⟩<|lb 0<|an rfl<|an (by omega)<|ei (x:=3)<|an ⟨hk,by decide⟩<|lb 0<|an ⟨rfl,rfl⟩ fun w M=>ei (x:=3)<|an ⟨hk,by decide⟩<|lb 0<|an rfl<|an (fun h4 M=>⟨?_,M.below⟩) fun h4=>an (by omega)<|bk (m+1) ⟨rfl,trivial⟩ (fun M=>⟨by rw[hk1,hno 1 (by omega),hno 2 (by omega)];exact M,by omega,fun q h1 h2=>?_⟩) (by dsimp only;omega)
   ·simp only[decide_eq_true_eq] at h4;rw[oU (q:=3) (m:=m+1) (by omega) (by omega) (by rw[hk1];omega)];rfl
   ·simp only[decide_eq_false_iff_not] at h4;by_cases e:q=3
    ·subst e;rw[hk1];omega
    ·rw[hno q e];exact hle q h1 h2
 simp only[decide_eq_false_iff_not] at h2;obtain rfl:m=p.trans.length:=by omega
 rw[auE] at hle;rw[JN hle];have Bo:=hok.u_;refine lr (ι:=Nat) (fun m=>[(6,.int .i64 (m:Int))]) (fun i _=>i≤p.trans.length∧aH (wL p) p.trans.length 0=aH (wL p) (p.trans.length-i) i) (fun i=>p.trans.length-i) 0 (an ⟨⟨rfl,trivial⟩,fun M=>⟨M,auu _,by rw[Nat.sub_zero]⟩⟩ ?_);rintro i w M ⟨hi,hinv⟩;refine lb 1<|an rfl<|an (fun h2=>?_) fun h2 M=>⟨?_,M.below⟩
 ·simp only[decide_eq_true_eq] at h2;have hlz:i<p.trans.length:=by omega
  obtain⟨b,o,e,hc⟩:=tr i hlz;have OT:=hok.trans p.trans[i] (List.getElem_mem hlz);have hcf:wL p i=Ci p.types.length p.classes.length p.conds.length p.trans[i]:=by unfold wL;rw[aun hlz]
  generalize p.trans[i]=z at hc OT hcf;have out:∀ v:Int,Ci p.types.length p.classes.length p.conds.length z=v→v≠0→Ending.returned (kR [.int .i64 v])=.returned (.int .i64 (aH (wL p) p.trans.length 0)):=fun v h1 h2=>by rw[hinv,cJ hlz (by rw[hcf,h1];exact h2),hcf,h1];rfl
  unfold Ci at out hcf;refine lb 1<|an rfl<|ia<|an ⟨e,rfl,hlz⟩<|lc<|an (dJ M.below hc)<|ei<|an NT fun g3 w3 M3=>lb 0<|an ⟨rfl,rfl⟩ fun w4 M4=>lb 0<|an rfl<|lb 0<|an (fun _=>rfl)<|an (fun h M=>⟨out 13 ?_ (by decide),M.below⟩) fun h=>?_
  ·simp only[Bool.or_eq_true,decide_eq_true_eq] at h;by_cases h1:z.kind<1
   ·rw[if_pos h1]
   ·rw[if_neg h1,if_pos (by omega)]
  simp only[Bool.or_eq_false_iff,decide_eq_false_iff_not] at h;rw[if_neg h.1,if_neg h.2] at out hcf;refine lb 0<|an rfl<|lb 2<|an rfl<|cl<|an (fW _ z.src OT.src _ Bo) fun w5 M5=>lb 0<|an rfl<|lb 2<|an rfl<|cl<|an (fW _ z.tgt OT.tgt _ Bo) fun w6 M6=>?_
  refine lb 0<|an (fun _=>rfl)<|lb 2<|an (fun _=>rfl)<|cl<|an (fun _=>gD _ _ _) fun w7 M7=>lb 0<|an (fun _=>rfl)<|lb 2<|an (fun _=>rfl)<|cl<|an (fun _=>gD _ _ _) fun w8 M8=>lb 2<|an (fun _=>rfl)<|lb 0<|an (fun _=>rfl)<|cl<|an (fun _=>Ix _ _ _ _ _ _ _ _ _ _ _ _ _ _ _ _ _ _ p (hp.keep M8.below) _) fun w9 M9=>an (fun h3 M=>⟨out 3 ?_ (by decide),M.below⟩) fun h3=>?_
  ·simp only[Bool.or_eq_true,Bool.not_eq_true'] at h3;rcases h3 with(((h3|h3)|h3)|h3)|h3<;>simp[h3]
  simp only[Bool.or_eq_false_iff,Bool.not_eq_false'] at h3;obtain⟨⟨⟨⟨a1,a2⟩,a3⟩,a4⟩,a5⟩:=h3;simp only[a1,a2,a3,a4,a5,Bool.true_eq_false,if_false] at out hcf;refine lb 0<|an (fun _=>rfl)<|lb 0<|an (fun _=>rfl)<|an (fun h4 M=>⟨out 2 ?_ (by decide),M.below⟩) fun h4=>?_
  ·change (!eA z.src||!eA z.tgt||(!decide (z.kind=1)&&!gA z.name))=true at h4
   clear out hcf;cases ha:eA z.src<;>cases hb:eA z.tgt<;>cases hc:gA z.name<;>cases hd:lM z.name<;>by_cases hk:z.kind=1<;>simp_all
  refine lb 0<|an rfl<|lb 0<|an (fun _=>rfl)<|cl<|an (fun _=>(Kt _ z.name OT.name).mono fun _ _ ⟨h1,h2⟩=>⟨h1,h2▸Below.refl _ _⟩) fun xR sA=>an (fun h5 M=>⟨out 10 ?_ (by decide),M.below⟩) fun h5=>an (by omega)<|bk (i+1) ⟨rfl,trivial⟩ (fun M=>⟨M.only (.cons _ (.refl _)) (.refl _),by omega,hinv.trans (bQ hlz ?_)⟩) (by dsimp only;omega)
  ·change (!eA z.src||!eA z.tgt||(!decide (z.kind=1)&&!gA z.name))=false at h4
   change (!gA z.name&&!lM z.name)=true at h5
   clear out hcf;cases ha:eA z.src<;>cases hb:eA z.tgt<;>cases hc:gA z.name<;>cases hd:lM z.name<;>by_cases hk:z.kind=1<;>simp_all
  ·change (!eA z.src||!eA z.tgt||(!decide (z.kind=1)&&!gA z.name))=false at h4
   change (!gA z.name&&!lM z.name)=false at h5
   rw[hcf];clear out hcf;cases ha:eA z.src<;>cases hb:eA z.tgt<;>cases hc:gA z.name<;>cases hd:lM z.name<;>by_cases hk:z.kind=1<;>simp_all
 simp only[decide_eq_false_iff_not] at h2;obtain rfl:i=p.trans.length:=by omega
 rw[hinv,Nat.sub_self];rfl
theorem rW{i n:Int}:bn i n=true↔0≤i∧i<n:=by
 unfold bn;simp
def yK(p:aG)(c:wG):Int:=match p.users[c.user.toNat]?,p.roles[c.role.toNat]? with
 | some u,some r=>if vZ c.rng.low u.rng.low=false then 19 else if vZ u.rng.high c.rng.high=false then 19
  else if u.roles.mem c.role=false then 19 else if r.types.mem c.typ=false then 19 else 0
 | _,_=>0
def vG(p:aG)(c:wG):Int:=
 if bn c.user (p.users.length:Int)=false then 3 else if bn c.role (p.roles.length:Int)=false then 3 else if bn c.typ (p.types.length:Int)=false then 3
 else if pJ p.aV.length p.cats.length c.rng=false then 18 else if c.role=0 then 0 else yK p c
theorem Kl{p:aG}{c:wG}{u:j6}{r:iw}(hu:p.users[c.user.toNat]?=some u)(hr:p.roles[c.role.toNat]?=some r):yK p c=if vZ c.rng.low u.rng.low=false then 19 else if vZ u.rng.high c.rng.high=false then 19
 else if u.roles.mem c.role=false then 19 else if r.types.mem c.typ=false then 19 else 0:=by
 unfold yK;rw[hu,hr]
theorem Cv(w0:World)(c0 c1 c2 c3 c4 c5 c6 c7 c8 c9 aW aP aO aU aT aS aR:Value)(p:aG)(hp:aL w0 c0 c1 c2 c3 c4 c5 c6 c7 c8 c9 aW aP aO aU aT aS aR p)(hok:p.Ok)(c:wG)(hc:c.Ok):Calls Tryz.prog 116 #[.agg #[c0,c1,c2,c3,c4,c5,c6,c7,c8,c9,aW,aP,aO,aU,aT,aS,aR],.agg #[.int .i64 c.user,.int .i64 c.role,.int .i64 c.typ,.int .i64 c.rng.low.aV,.int .u64 c.rng.low.cats,.int .i64 c.rng.high.aV,.int .u64 c.rng.high.cats]] w0 (fun(e:Ending) (w':World)=>e=.returned (.int .i64 (vG p c))∧auk w0.heap.size w0 w'):=by
 obtain⟨_,_,_,_,_,_,_,_,_,_,_,_,_,_,_,_,_,_,_,_,_,_,_,_,_,_,_,_,_,_,_,_,_,_,rfl,rfl,rfl,rfl,rfl,rfl,rfl,rfl,rfl,rfl,rfl,rfl,rfl,rfl,rfl,rfl,rfl⟩:=hp.open;refine fL [] (fn:=Tryz.f116) Tryz.func116 rfl Tryz.ntmps116 rfl<|fun g1 w1 M1=>fun g2 w2 M2=>lb 0<|an rfl<|lb 1<|an rfl<|cl<|an (gD _ _ _) fun w3 M3=>lb 0<|an (fun _=>rfl)<|lb 1<|an (fun _=>rfl)<|cl<|an (fun _=>gD _ _ _) fun w4 M4=>lb 0<|an (fun _=>rfl)<|lb 1<|an (fun _=>rfl)<|cl<|an (fun _=>gD _ _ _) fun w5 M5=>an (fun h M=>⟨ri ?_,M.below⟩) fun h=>?_
 ·unfold vG;cases h5:bn c.user p.users.length<;>cases h6:bn c.role p.roles.length<;>cases h7:bn c.typ p.types.length<;>simp_all
 have hb:bn c.user p.users.length=true∧bn c.role p.roles.length=true∧bn c.typ p.types.length=true:=by cases h5:bn c.user p.users.length<;>cases h6:bn c.role p.roles.length<;>cases h7:bn c.typ p.types.length<;>simp_all
 clear h;have hpm:vG p c=if pJ p.aV.length p.cats.length c.rng=false then 18 else if c.role=0 then 0 else yK p c:=by unfold vG;rw[hb.1,hb.2.1,hb.2.2];rfl
 rw[rW,rW,rW] at hb;obtain⟨⟨hu0,hu1⟩,⟨hr0,hr1⟩,XB,ht1⟩:=hb;refine lb 1<|an rfl<|lb 0<|an rfl<|cl<|an (vD _ _ _ _ _ _ _ _ _ _ _ _ _ _ _ _ _ _ p (hp.keep M5.below) c.rng hc.rng) fun w6 M6=>an (fun h M=>⟨ri (by rw[hpm,if_pos (by simpa using h)]),M.below⟩) fun h=>?_
 rw[if_neg (by simpa using h)] at hpm;refine lb 0<|an rfl<|an (fun h M=>⟨ri (by rw[hpm,if_pos (by simpa using h)]),M.below⟩) fun h=>?_
 rw[if_neg (by simpa using h)] at hpm;have hlu:c.user.toNat<p.users.length:=by omega
 have hlr:c.role.toNat<p.roles.length:=by omega
 obtain⟨u,hu⟩:∃ u,p.users[c.user.toNat]?=some u:=⟨_,aun hlu⟩;obtain⟨r,hr⟩:∃ r,p.roles[c.role.toNat]?=some r:=⟨_,aun hlr⟩;have oku:=hok.users u (aum hu);have okr:=hok.roles r (aum hr);obtain⟨b,o,e,hcu⟩:=SliceAt.elt hp.users (fun _=>rfl) (by decide) hu hlu;obtain⟨b',o',e',hcr⟩:=SliceAt.elt hp.roles (fun _=>rfl) (by decide) hr hlr;rw[Kl hu hr] at hpm;refine lb 1<|an rfl<|lb 0<|an rfl<|ia<|an ⟨e,(auw hu0).symm,hlu⟩<|lc<|an (dJ M6.below hcu)<|ei<|an W9 fun g3 w7 M7=>lb 0<|an ⟨rfl,rfl⟩ fun w8 M8=>lb 1<|an rfl<|lb 0<|an rfl<|cl<|an (tZ _ c.rng.low u.rng.low hc.rng.low oku.rng.low) fun w9 M9=>lb 0<|an (fun _=>rfl)<|lb 1<|an (fun _=>rfl)<|cl<|an (fun _=>tZ _ u.rng.high c.rng.high oku.rng.high hc.rng.high) fun xR sA=>?_
 refine dr (by kernel_rfl)<|lb 0<|an (fun _=>rfl)<|lb 1<|an (fun _=>rfl)<|cl<|an (fun _ w' hb' M'=>fZ _ u.roles oku.roles _)<|lb 2<|an (fun _=>rfl)<|lb 1<|an (fun _=>rfl)<|ia<|an (fun _=>⟨e',(auw hr0).symm,hlr⟩)<|lc (x:=[.int .u64 r.types.a,.int .u64 r.types.b,.int .u64 r.types.c,.int .u64 r.types.d])<|an (fun _=>zK (dJ sA.below hcr) rfl)<|lb 1<|an (fun _=>rfl)<|cl<|an (fun _ w' hb' M'=>fZ _ r.types okr.types _) fun JJ SQ M11=>an (fun h3 M=>⟨ri ?_,M.below⟩) fun h3 M=>⟨ri ?_,M.below⟩
 all_goals rw[hpm];clear hpm;cases h4:vZ c.rng.low u.rng.low<;>cases h5:vZ u.rng.high c.rng.high<;>cases h6:u.roles.mem c.role<;>cases h7:r.types.mem c.typ<;>simp_all
theorem IG(w0:World)(x:ByteArray)(hx:dX x):Calls Tryz.prog 117 #[.agg #[.int .i64 3,.string x,.int .i64 0,.int .i64 0]] w0 (fun(e:Ending) (w':World)=>e=.returned (.bool (nH x))∧auk w0.heap.size w0 w'):=by
 exact fL [] (fn:=Tryz.f117) Tryz.func117 rfl Tryz.ntmps117 rfl<|fun g1 w1 M1=>lb 0<|an rfl<|an (fun h=>absurd h (by decide)) fun _=>an (fun h=>absurd h (by decide)) fun _=>an (fun h=>absurd h (by decide)) fun _=>an (fun _=>lb 0<|an rfl<|cl<|an ((Kj _ x hx).mono fun _ _ ⟨h1,h2⟩=>⟨h1,h2▸Below.refl _ _⟩) fun w4 M4 M=>⟨rfl,M.below⟩) fun h=>absurd h (by decide)
def Vd(p:aG)(before:List ByteArray)(y:kD):Int:=if bY [y.name] before=0 then vG p y.ctx else bY [y.name] before
def Gw(p:aG)(i:Nat):Int:=match p.bP[i]? with
 | some y=>Vd p ((p.bP.take i).map (·.name)) y
 | none=>0
def Nj(p:aG)(y:kG):Int:=if gA y.pat=true then 10 else if nH y.pat=false then 10 else if y.kind<0 then 13 else if 4<y.kind then 13 else vG p y.ctx
def Aw(p:aG)(i:Nat):Int:=match p.files[i]? with
 | some y=>Nj p y
 | none=>0
def jF(p:aG):Int:=if 1024<p.bP.length then 4 else if aH (Gw p) p.bP.length 0=0 then (if 256<p.files.length then 4 else aH (Aw p) p.files.length 0) else aH (Gw p) p.bP.length 0
theorem KQ(w0:World)(c0 c1 c2 c3 c4 c5 c6 c7 c8 c9 aW aP aO aU aT aS aR:Value)(p:aG)(hp:aL w0 c0 c1 c2 c3 c4 c5 c6 c7 c8 c9 aW aP aO aU aT aS aR p)(hok:p.Ok):Calls Tryz.prog 50 #[.agg #[c0,c1,c2,c3,c4,c5,c6,c7,c8,c9,aW,aP,aO,aU,aT,aS,aR]] w0 (RI w0 (jF p)):=by
 obtain⟨_,_,_,_,_,_,_,_,_,_,_,_,_,_,_,_,_,_,_,_,_,_,_,_,_,_,_,_,_,_,_,_,_,_,rfl,rfl,rfl,rfl,rfl,rfl,rfl,rfl,rfl,rfl,rfl,rfl,rfl,rfl,rfl,rfl,rfl⟩:=hp.open;refine fL [] (fn:=Tryz.f50) Tryz.func50 rfl Tryz.ntmps50 rfl<|fun g1 w1 M1=>lb 0<|an rfl<|an (fun h M=>⟨ri (by unfold jF;rw[if_pos (by simp at h;omega)]),M.below⟩) fun h=>?_
 have hr:¬ 1024<p.bP.length:=by simp at h;omega
 refine lq (ι:=Nat×Value) (fun(m,u)=>[(3,u),(4,.int .i64 (m:Int))]) (fun(m,u)=>[⟨u,9,1,m,((p.bP.take m).map (·.name)).flatMap aN⟩]) (fun(m,u) _=>m≤p.bP.length∧aH (Gw p) p.bP.length 0=aH (Gw p) (p.bP.length-m) m) (fun(m,u)=>p.bP.length-m) (0,.slice none 0 0) (an ⟨⟨rfl,rfl,trivial⟩,fun M=>⟨M.bX 9 1,auu _,by rw[Nat.sub_zero]⟩⟩ ?_);rintro⟨m,u⟩ w M ⟨hm,hinv⟩;refine lb 0<|an rfl<|an (fun h2=>?_) fun h2=>?_
 have hlt:m<p.bP.length:=by simp at h2;omega
 obtain⟨y,hy⟩:∃ y,p.bP[m]?=some y:=⟨_,aun hlt⟩;have pN:=hok.bP y (aum hy)
 ·obtain⟨b,o,e,hc⟩:=SliceAt.elt hp.bP (fun _=>rfl) (by decide) hy hlt;have hcf:Gw p m=Vd p ((p.bP.take m).map (·.name)) y:=by unfold Gw;rw[hy]
  have out:∀ v:Int,Vd p ((p.bP.take m).map (·.name)) y=v→v≠0→jF p=v:=fun v h1 h2=>by
   have e:aH (Gw p) p.bP.length 0=v:=by rw[hinv,cJ hlt (by rw[hcf,h1];exact h2),hcf,h1]
   unfold jF;rw[if_neg hr,e,if_neg h2]
  unfold Vd at hcf out;refine lb 0<|an rfl<|ia<|an ⟨e,rfl,hlt⟩<|lc<|an (dJ M.below hc 0 _ rfl)<|fun g2 w2 M2=>cl<|an (eW _ _ _ [y.name] ((p.bP.take m).map (·.name)) (M2.slice 0 rfl rfl rfl (by simp[maxLen])) (iX (M2.r 0 rfl) (by simp;omega) rfl) (by simpa using pN.name)) fun w3 M3=>an (fun h3 M=>⟨ri (out _ (if_neg (by simpa using h3)) (by simpa using h3)),M.below⟩) fun h3=>?_
  replace h3:bY [y.name] ((p.bP.take m).map (·.name))=0:=by simpa using h3
  rw[if_pos h3] at hcf out;exact lb 1<|an rfl<|ia<|an ⟨e,rfl,hlt⟩<|lc<|an (dJ M3.below hc 0 _ rfl)<|fun g3 w4 M4=>ap 0 id rfl (M4.slice 0 rfl rfl rfl (by simp[maxLen])) ⟨by unfold maxLen;omega,by omega⟩ fun v4 w5 M5=>dr (by kernel_rfl)<|lb 2<|an rfl<|lb 2<|an rfl<|ia<|an ⟨e,rfl,hlt⟩<|lc (x:=[.int .i64 y.ctx.user,.int .i64 y.ctx.role,.int .i64 y.ctx.typ,.int .i64 y.ctx.rng.low.aV,.int .u64 y.ctx.rng.low.cats,.int .i64 y.ctx.rng.high.aV,.int .u64 y.ctx.rng.high.cats])<|an (zK (dJ M5.below hc) rfl)<|cl<|an (fun w' hb' M'=>Cv _ _ _ _ _ _ _ _ _ _ _ _ _ _ _ _ _ _ p (hp.keep M'.below) hok y.ctx pN.ctx) fun w6 hb6 M6=>an (fun h4 M=>⟨ri (out _ rfl (by simpa using h4)),M.below⟩) fun h4=>an (by omega)<|bk (m+1,v4) ⟨rfl,rfl,trivial⟩ (fun M=>⟨(M.only (.cons _ (.cons _ (.refl _))) (.refl _)).cast rfl (by dsimp only;rw[qy hy]),by omega,hinv.trans (bQ hlt (by rw[hcf];simpa using h4))⟩) (by dsimp only;omega)
 have hz:aH (Gw p) p.bP.length 0=0:=by rw[hinv,show m=p.bP.length by simp at h2;omega,cI]
 clear hinv h2 hm;refine lb 0<|an rfl<|an (fun h M=>⟨ri (by unfold jF;rw[if_neg hr,if_pos hz,if_pos (by simp at h;omega)]),M.below⟩) fun h=>?_
 rw[show jF p=aH (Aw p) p.files.length 0 by unfold jF;rw[if_neg hr,if_pos hz,if_neg (by simp at h;omega)]];have hfl:¬ 256<p.files.length:=by simp at h;omega
 refine lp (ι:=Nat) (fun m=>[(7,.int .i64 (m:Int))]) (fun _=>_) (fun _=>[]) (fun m _=>m≤p.files.length∧aH (Aw p) p.files.length 0=aH (Aw p) (p.files.length-m) m) (fun m=>p.files.length-m) 0 (an ⟨⟨rfl,trivial⟩,fun M=>⟨M.only (.refl _) (.cons _ (.refl _)),auu _,by rw[Nat.sub_zero]⟩⟩ ?_);clear M;rintro m w M ⟨hm,hinv⟩;refine lb 0<|an rfl<|an (fun h2=>?_) fun h2 M=>⟨ri (by rw[hinv,show m=p.files.length by simp at h2;omega,cI]),M.below⟩
 have hlt:m<p.files.length:=by simp at h2;omega
 obtain⟨y,hy⟩:∃ y,p.files[m]?=some y:=⟨_,aun hlt⟩;have pN:=hok.files y (aum hy);obtain⟨b,o,e,hc⟩:=SliceAt.elt hp.files (fun _=>rfl) (by decide) hy hlt;have hcf:Aw p m=Nj p y:=by unfold Aw;rw[hy]
 have out:∀ v:Int,Nj p y=v→v≠0→aH (Aw p) p.files.length 0=v:=fun v h1 h2=>by rw[hinv,cJ hlt (by rw[hcf,h1];exact h2),hcf,h1]
 unfold Nj at hcf out;refine lb 0<|an rfl<|ia<|an ⟨e,rfl,hlt⟩<|lc<|an (dJ M.below hc)<|ei<|an abq fun g5 w7 M7=>lb 0<|an ⟨rfl,rfl⟩ fun w8 M8=>lb 0<|an rfl<|lb 0<|an (fun _=>rfl)<|ei (x:=.agg #[.int .i64 3,.string y.pat,.int .i64 0,.int .i64 0])<|an (fun _=>bd (by kernel_rfl))<|cl<|an (fun _=>IG _ y.pat pN.pat) fun w9 M9=>an (fun h3 M=>⟨ri (out 10 ?_ (by decide)),M.below⟩) fun h3=>?_
 ·change (gA y.pat||!nH y.pat)=true at h3
  clear out hcf;cases h4:gA y.pat<;>cases h5:nH y.pat<;>simp_all
 change (gA y.pat||!nH y.pat)=false at h3
 rw[if_neg (by intro e;simp[e] at h3),if_neg (by intro e;simp[e] at h3)] at hcf out;refine lb 0<|an rfl<|lb 0<|an (fun _=>rfl)<|an (fun h4 M=>⟨ri (out 13 ?_ (by decide)),M.below⟩) fun h4=>?_
 ·by_cases h5:y.kind<0
  ·rw[if_pos h5]
  ·rw[if_neg h5,if_pos (by simp at h4;omega)]
 rw[if_neg (by simp at h4;omega),if_neg (by simp at h4;omega)] at hcf out;exact lb 1<|an rfl<|lb 0<|an rfl<|cl<|an (Cv _ _ _ _ _ _ _ _ _ _ _ _ _ _ _ _ _ _ p (hp.keep M9.below) hok y.ctx pN.ctx) fun xR sA=>an (fun h5 M=>⟨ri (out _ rfl (by simpa using h5)),M.below⟩) fun h5=>an (by omega)<|bk (m+1) ⟨rfl,trivial⟩ (fun M=>⟨M.only (.cons _ (.refl _)) (.refl _),by omega,hinv.trans (bQ hlt (by rw[hcf];simpa using h5))⟩) (by dsimp only;omega)
def rtM(nT nC nR:Nat)(y:kE):Int:=
 if rF nR y.roles=false then 3 else if y.types.within (au.all nT)=false then 3 else if bn y.cls (nC:Int)=false then 3 else if bn y.res (nR:Int)=false then 3
 else if y.res=0 then 3 else if y.roles=au.zero then 2 else if eA y.types=false then 2 else 0
def Vn(p:aG)(i:Nat):Int:=match p.aQ[i]? with
 | some y=>rtM p.types.length p.classes.length p.roles.length y
 | none=>0
def rgM(nT nC nS nK:Nat)(y:kF):Int:=
 if y.src.within (au.all nT)=false then 3 else if y.tgt.within (au.all nT)=false then 3 else if bn y.cls (nC:Int)=false then 3
 else if eA y.src=false then 2 else if eA y.tgt=false then 2 else if pJ nS nK y.rng=false then 18 else 0
def Xi(p:aG)(i:Nat):Int:=match p.ranges[i]? with
 | some y=>rgM p.types.length p.classes.length p.aV.length p.cats.length y
 | none=>0
def eZ(p:aG):Int:=if 1024<p.aQ.length then 4 else if aH (Vn p) p.aQ.length 0=0 then (if 1024<p.ranges.length then 4 else aH (Xi p) p.ranges.length 0) else aH (Vn p) p.aQ.length 0
theorem II(w0:World)(c0 c1 c2 c3 c4 c5 c6 c7 c8 c9 aW aP aO aU aT aS aR:Value)(p:aG)(hp:aL w0 c0 c1 c2 c3 c4 c5 c6 c7 c8 c9 aW aP aO aU aT aS aR p)(hok:p.Ok):Calls Tryz.prog 48 #[.agg #[c0,c1,c2,c3,c4,c5,c6,c7,c8,c9,aW,aP,aO,aU,aT,aS,aR]] w0 (RI w0 (eZ p)):=by
 obtain⟨_,_,_,_,_,_,_,_,_,_,_,_,_,_,_,_,_,_,_,_,_,_,_,_,_,_,_,_,_,_,_,_,_,_,rfl,rfl,rfl,rfl,rfl,rfl,rfl,rfl,rfl,rfl,rfl,rfl,rfl,rfl,rfl,rfl,rfl⟩:=hp.open;have Bo:=hok.u_;refine fL [] (fn:=Tryz.f48) Tryz.func48 rfl Tryz.ntmps48 rfl fun g1 w1 M1=>lb 0<|an rfl<|an (fun h M=>⟨?_,M.below⟩) fun h=>?_
 ·simp only[decide_eq_true_eq] at h;unfold eZ;rw[if_pos (by omega)];rfl
 simp only[decide_eq_false_iff_not] at h;have hr:¬ 1024<p.aQ.length:=by omega
 have ahH:∀ v:Int,aH (Vn p) p.aQ.length 0=v→v≠0→eZ p=v:=fun v h1 h2=>by unfold eZ;rw[if_neg hr,if_neg (by rw[h1];exact h2),h1]
 refine lr (ι:=Nat) (fun m=>[(3,.int .i64 (m:Int))]) (fun i _=>i≤p.aQ.length∧aH (Vn p) p.aQ.length 0=aH (Vn p) (p.aQ.length-i) i) (fun i=>p.aQ.length-i) 0 (an ⟨⟨rfl,trivial⟩,fun M=>⟨M,auu _,by rw[Nat.sub_zero]⟩⟩ ?_);rintro i w M ⟨hi,hinv⟩;refine lb 0<|an rfl<|an (fun h2=>?_) fun h2=>?_
 ·simp only[decide_eq_true_eq] at h2;have hlz:i<p.aQ.length:=by omega
  obtain⟨b,o,e,hc⟩:=SliceAt.elt (i:=i) hp.aQ (fun _=>rfl) (by decide) (aun hlz) hlz;have OT:=hok.aQ p.aQ[i] (List.getElem_mem hlz);have hcf:Vn p i=rtM p.types.length p.classes.length p.roles.length p.aQ[i]:=by unfold Vn;rw[aun hlz]
  generalize p.aQ[i]=z at hc OT hcf
  have out:∀ v:Int,rtM p.types.length p.classes.length p.roles.length z=v→v≠0→Ending.returned (kR [.int .i64 v])=.returned (.int .i64 (eZ p)):=fun v h1 h2=>by
   have e:aH (Vn p) p.aQ.length 0=v:=by rw[hinv,cJ hlz (by rw[hcf,h1];exact h2),hcf,h1]
   rw[ahH _ e h2];rfl
  unfold rtM at out hcf;refine lb 0<|an rfl<|ia<|an ⟨e,rfl,hlz⟩<|lc<|an (dJ M.below hc)<|ei<|an abm fun g3 w3 M3=>lb 0<|an ⟨rfl,rfl⟩ fun w4 M4=>?_
  refine dr (by kernel_rfl)<|lb 0<|an rfl<|ei (x:=.agg #[.int .u64 0,.int .u64 0,.int .u64 0,.int .u64 0])<|an (bd (by kernel_rfl))<|ei<|an ⟨AJ,fun w=>kJ z.roles w⟩<|lb 1<|an rfl<|lb 0<|an rfl<|cl<|an (fun w' hb' M'=>ju w' _ _ _ _ _ _ _ _ _ _ _ _ _ _ _ _ _ p (hp.keep M'.below) hok z.roles OT.roles) fun w5 hb5 M5=>?_
  refine lb 0<|an rfl<|lb 1<|an rfl<|cl<|an (fW _ z.types OT.types _ Bo) fun w6 Mw6=>lb 0<|an (fun _=>rfl)<|lb 1<|an (fun _=>rfl)<|cl<|an (fun _=>gD _ _ _) fun w7 Mw7=>lb 0<|an (fun _=>rfl)<|lb 1<|an (fun _=>rfl)<|cl<|an (fun _=>gD _ _ _) fun w8 Mw8=>lb 0<|an (fun _=>rfl)<|an (fun h3 M=>⟨out 3 ?_ (by decide),M.below⟩) fun h3=>an (fun h4 M=>⟨out 2 ?_ (by decide),M.below⟩) fun h4=>an (by omega)<|bk (i+1) ⟨rfl,trivial⟩ (fun M=>⟨M.only (.cons _ (.refl _)) (.refl _),by omega,hinv.trans (bQ hlz ?_)⟩) (by dsimp only;omega)
  all_goals first|(rw[hcf];clear out hcf)|clear out hcf
  all_goals cases h5:rF p.roles.length z.roles<;>cases h6:z.types.within (au.all p.types.length)<;>cases h7:bn z.cls (p.classes.length:Int)<;>cases h8:bn z.res (p.roles.length:Int)<;>by_cases h9:z.res=0<;>by_cases Je:z.roles=au.zero<;>cases mH:eA z.types<;>simp_all
 simp only[decide_eq_false_iff_not] at h2;obtain rfl:i=p.aQ.length:=by omega
 rw[Nat.sub_self] at hinv;replace hinv:aH (Vn p) p.aQ.length 0=0:=hinv;have hz:=hinv;refine lb 0<|an rfl<|an (fun h M=>⟨?_,M.below⟩) fun h=>?_
 ·simp only[decide_eq_true_eq] at h;unfold eZ;rw[if_neg hr,if_pos hz,if_pos (by omega)];rfl
 simp only[decide_eq_false_iff_not] at h;have hg:¬ 1024<p.ranges.length:=by omega
 have aej:eZ p=aH (Xi p) p.ranges.length 0:=by unfold eZ;rw[if_neg hr,if_pos hz,if_neg hg]
 have ahG:∀ v:Int,aH (Xi p) p.ranges.length 0=v→v≠0→eZ p=v:=fun v h1 _=>aej.trans h1
 clear hinv h2;refine lr (ι:=Nat) (fun m=>[(9,.int .i64 (m:Int))]) (fun i _=>i≤p.ranges.length∧aH (Xi p) p.ranges.length 0=aH (Xi p) (p.ranges.length-i) i) (fun i=>p.ranges.length-i) 0 (an ⟨⟨rfl,trivial⟩,fun M=>⟨M,auu _,by rw[Nat.sub_zero]⟩⟩ ?_);rintro i w M ⟨hi,hinv⟩;refine lb 0<|an rfl<|an (fun h2=>?_) fun h2=>?_
 ·simp only[decide_eq_true_eq] at h2;have hlz:i<p.ranges.length:=by omega
  obtain⟨b,o,e,hc⟩:=SliceAt.elt (i:=i) hp.ranges (fun _=>rfl) (by decide) (aun hlz) hlz;have OT:=hok.ranges p.ranges[i] (List.getElem_mem hlz);have hcf:Xi p i=rgM p.types.length p.classes.length p.aV.length p.cats.length p.ranges[i]:=by unfold Xi;rw[aun hlz]
  generalize p.ranges[i]=z at hc OT hcf
  have out:∀ v:Int,rgM p.types.length p.classes.length p.aV.length p.cats.length z=v→v≠0→Ending.returned (kR [.int .i64 v])=.returned (.int .i64 (eZ p)):=fun v h1 h2=>by
   have e:aH (Xi p) p.ranges.length 0=v:=by rw[hinv,cJ hlz (by rw[hcf,h1];exact h2),hcf,h1]
   rw[ahG _ e h2];rfl
  unfold rgM at out hcf;refine lb 0<|an rfl<|ia<|an ⟨e,rfl,hlz⟩<|lc<|an (dJ M.below hc)<|ei<|an abl fun g3 w3 M3=>lb 0<|an ⟨rfl,rfl⟩ fun w4 M4=>?_
  refine lb 0<|an rfl<|lb 1<|an rfl<|cl<|an (fW _ z.src OT.src _ Bo) fun w5 Mw5=>lb 0<|an rfl<|lb 1<|an rfl<|cl<|an (fW _ z.tgt OT.tgt _ Bo) fun w6 Mw6=>lb 0<|an (fun _=>rfl)<|lb 1<|an (fun _=>rfl)<|cl<|an (fun _=>gD _ _ _) fun w7 Mw7=>an (fun h3 M=>⟨out 3 ?_ (by decide),M.below⟩) fun h3=>an (fun h4 M=>⟨out 2 ?_ (by decide),M.below⟩) fun h4=>lb 1<|an rfl<|lb 0<|an rfl<|cl<|an (vD _ _ _ _ _ _ _ _ _ _ _ _ _ _ _ _ _ _ p (hp.keep Mw7.below) z.rng OT.rng) fun w8 M8=>an (fun h5 M=>⟨out 18 ?_ (by decide),M.below⟩) fun h5=>an (by omega)<|bk (i+1) ⟨rfl,trivial⟩ (fun M=>⟨M.only (.cons _ (.refl _)) (.refl _),by omega,hinv.trans (bQ hlz ?_)⟩) (by dsimp only;omega)
  all_goals first|(rw[hcf];clear out hcf)|clear out hcf
  all_goals cases h6:z.src.within (au.all p.types.length)<;>cases h7:z.tgt.within (au.all p.types.length)<;>cases h8:bn z.cls (p.classes.length:Int)<;>cases h9:eA z.src<;>cases Je:eA z.tgt<;>cases mH:pJ p.aV.length p.cats.length z.rng<;>simp_all
 simp only[decide_eq_false_iff_not] at h2;obtain rfl:i=p.ranges.length:=by omega
 rw[Nat.sub_self] at hinv;exact fun M=>⟨by rw[aej,hinv];rfl,M.below⟩
def Fj(before:List ByteArray)(y:lG):Int:=
 if bY [y.name] before=0 then (if 32<y.perms.length then 4 else if y.perms.length=0 then 2 else bY y.perms []) else bY [y.name] before
def rV(p:aG)(i:Nat):Int:=match p.classes[i]? with
 | some y=>Fj ((p.classes.take i).map (·.name)) y
 | none=>0
def nk(p:aG):Int:=if 32<p.classes.length then 4 else aH (rV p) p.classes.length 0
theorem IE(w0:World)(c0 c1 c2 c3 c4 c5 c6 c7 c8 c9 aW aP aO aU aT aS aR:Value)(p:aG)(hp:aL w0 c0 c1 c2 c3 c4 c5 c6 c7 c8 c9 aW aP aO aU aT aS aR p)(hok:p.Ok):Calls Tryz.prog 41 #[.agg #[c0,c1,c2,c3,c4,c5,c6,c7,c8,c9,aW,aP,aO,aU,aT,aS,aR]] w0 (RI w0 (nk p)):=by
 obtain⟨_,_,_,_,_,_,_,_,_,_,_,_,_,_,_,_,_,_,_,_,_,_,_,_,_,_,_,_,_,_,_,_,_,_,rfl,rfl,rfl,rfl,rfl,rfl,rfl,rfl,rfl,rfl,rfl,rfl,rfl,rfl,rfl,rfl,rfl⟩:=hp.open;refine fL [] (fn:=Tryz.f41) Tryz.func41 rfl Tryz.ntmps41 rfl<|fun g1 w1 M1=>lb 0<|an rfl<|an (fun h M=>⟨ri (by unfold nk;rw[if_pos (by simp at h;omega)]),M.below⟩) fun h=>?_
 have hr:¬ 32<p.classes.length:=by simp at h;omega
 rw[show nk p=aH (rV p) p.classes.length 0 from if_neg hr];refine lq (ι:=Nat×Value) (fun(m,u)=>[(3,u),(4,.int .i64 (m:Int))]) (fun(m,u)=>[⟨u,9,1,m,((p.classes.take m).map (·.name)).flatMap aN⟩]) (fun(m,u) _=>m≤p.classes.length∧aH (rV p) p.classes.length 0=aH (rV p) (p.classes.length-m) m) (fun(m,u)=>p.classes.length-m) (0,.slice none 0 0) (an ⟨⟨rfl,rfl,trivial⟩,fun M=>⟨M.bX 9 1,auu _,by rw[Nat.sub_zero]⟩⟩ ?_);rintro⟨m,u⟩ w M ⟨hm,hinv⟩;refine lb 0<|an rfl<|an (fun h2=>?_) fun h2 M=>⟨ri (by rw[hinv,show m=p.classes.length by simp at h2;omega,cI]),M.below⟩
 have hlt:m<p.classes.length:=by simp at h2;omega
 obtain⟨y,hy⟩:∃ y,p.classes[m]?=some y:=⟨_,aun hlt⟩;have pN:=hok.classes y (aum hy);obtain⟨b,o,_,e,⟨v,rfl,hv⟩,hc⟩:=aC.elt hp.classes (by decide) hy;obtain⟨va,vc,rfl,-⟩:=bp.get hv;have hcf:rV p m=Fj ((p.classes.take m).map (·.name)) y:=by unfold rV;rw[hy]
 have out:∀ v:Int,Fj ((p.classes.take m).map (·.name)) y=v→v≠0→aH (rV p) p.classes.length 0=v:=fun v h1 h2=>by rw[hinv,cJ hlt (by rw[hcf,h1];exact h2),hcf,h1]
 unfold Fj at hcf out;refine lb 0<|an rfl<|ia<|an ⟨e,rfl,hlt⟩<|lc<|an (dJ M.below hc)<|ei<|an Mc fun g2 w2 M2=>lb 0<|an ⟨rfl,rfl⟩ fun w3 M3=>lb 0<|an rfl<|fun g3 w4 M4=>cl<|an (eW _ _ _ [y.name] ((p.classes.take m).map (·.name)) (M4.slice 0 rfl rfl rfl (by simp[maxLen])) (iX (M4.r 0 rfl) (by simp;omega) rfl) (by simpa using pN.name)) fun w5 M5=>an (fun h3 M=>⟨ri (out _ (if_neg (by simpa using h3)) (by simpa using h3)),M.below⟩) fun h3=>?_
 replace h3:bY [y.name] ((p.classes.take m).map (·.name))=0:=by simpa using h3
 rw[if_pos h3] at hcf out;refine lb 1<|an rfl<|fun g4 w6 M6=>ap 0 id rfl (M6.slice 0 rfl rfl rfl (by simp[maxLen])) ⟨by unfold maxLen;omega,by omega⟩ fun v5 w7 M7=>lb 2<|an rfl<|an (fun h4 M=>⟨ri (out _ (if_pos (by simp at h4;omega)) (by decide)),M.below⟩) fun h4=>?_
 rw[if_neg (by simp at h4;omega)] at hcf out;refine lb 2<|an rfl<|an (fun h5 M=>⟨ri (out _ (if_pos (by simp at h5;simp[h5])) (by decide)),M.below⟩) fun h5=>?_
 rw[if_neg (by simp at h5;simp[h5])] at hcf out;exact lb 2<|an rfl<|cl<|an (eW _ _ _ y.perms [] (hv.keep M7.below) (SliceAt.nil _ _) pN.perms.all) fun w8 M8=>an (fun h6 M=>⟨ri (out _ rfl (by simpa using h6)),M.below⟩) fun h6=>an (by omega)<|bk (m+1,v5) ⟨rfl,rfl,trivial⟩ (fun M=>⟨(M.only (.cons _ (.cons _ (.cons _ (.refl _)))) (.refl _)).cast rfl (by dsimp only;rw[qy hy]),by omega,hinv.trans (bQ hlt (by rw[hcf];simpa using h6))⟩) (by dsimp only;omega)
def Mh(nR nS nC:Nat)(before:List ByteArray)(y:j6):Int:=
 if bY [y.name] before=0 then
  (if rF nR y.roles=false then 3
   else if pJ nS nC y.rng=false then 18 else if pP nS nC y.dflt=false then 18
   else if vZ y.rng.high y.dflt=false then 18 else if vZ y.dflt y.rng.low=false then 18 else 0)
 else bY [y.name] before
def zu(p:aG)(i:Nat):Int:=match p.users[i]? with
 | some y=>Mh p.roles.length p.aV.length p.cats.length ((p.users.take i).map (·.name)) y
 | none=>0
def u6(p:aG):Int:=if 32<p.users.length then 4 else aH (zu p) p.users.length 0
theorem Ob(w0:World)(c0 c1 c2 c3 c4 c5 c6 c7 c8 c9 aW aP aO aU aT aS aR:Value)(p:aG)(hp:aL w0 c0 c1 c2 c3 c4 c5 c6 c7 c8 c9 aW aP aO aU aT aS aR p)(hok:p.Ok):Calls Tryz.prog 44 #[.agg #[c0,c1,c2,c3,c4,c5,c6,c7,c8,c9,aW,aP,aO,aU,aT,aS,aR]] w0 (RI w0 (u6 p)):=by
 obtain⟨_,_,_,_,_,_,_,_,_,_,_,_,_,_,_,_,_,_,_,_,_,_,_,_,_,_,_,_,_,_,_,_,_,_,rfl,rfl,rfl,rfl,rfl,rfl,rfl,rfl,rfl,rfl,rfl,rfl,rfl,rfl,rfl,rfl,rfl⟩:=hp.open;refine fL [] (fn:=Tryz.f44) Tryz.func44 rfl Tryz.ntmps44 rfl<|fun g1 w1 M1=>lb 0<|an rfl<|an (fun h M=>⟨ri (by unfold u6;rw[if_pos (by simp at h;omega)]),M.below⟩) fun h=>?_
 have hr:¬ 32<p.users.length:=by simp at h;omega
 rw[show u6 p=aH (zu p) p.users.length 0 from if_neg hr];refine lq (ι:=Nat×Value) (fun(m,u)=>[(3,u),(4,.int .i64 (m:Int))]) (fun(m,u)=>[⟨u,9,1,m,((p.users.take m).map (·.name)).flatMap aN⟩]) (fun(m,u) _=>m≤p.users.length∧aH (zu p) p.users.length 0=aH (zu p) (p.users.length-m) m) (fun(m,u)=>p.users.length-m) (0,.slice none 0 0) (an ⟨⟨rfl,rfl,trivial⟩,fun M=>⟨M.bX 9 1,auu _,by rw[Nat.sub_zero]⟩⟩ ?_);rintro⟨m,u⟩ w M ⟨hm,hinv⟩;refine lb 0<|an rfl<|an (fun h2=>?_) fun h2 M=>⟨ri (by rw[hinv,show m=p.users.length by simp at h2;omega,cI]),M.below⟩
 have hlt:m<p.users.length:=by simp at h2;omega
 obtain⟨y,hy⟩:∃ y,p.users[m]?=some y:=⟨_,aun hlt⟩;have pN:=hok.users y (aum hy);obtain⟨b,o,e,hc⟩:=SliceAt.elt hp.users (fun _=>rfl) (by decide) hy hlt;have hcf:zu p m=Mh p.roles.length p.aV.length p.cats.length ((p.users.take m).map (·.name)) y:=by unfold zu;rw[hy]
 have out:∀ v:Int,Mh p.roles.length p.aV.length p.cats.length ((p.users.take m).map (·.name)) y=v→v≠0→aH (zu p) p.users.length 0=v:=fun v h1 h2=>by rw[hinv,cJ hlt (by rw[hcf,h1];exact h2),hcf,h1]
 unfold Mh at hcf out;refine lb 0<|an rfl<|ia<|an ⟨e,rfl,hlt⟩<|lc<|an (dJ M.below hc)<|ei<|an W9 fun g2 w2 M2=>lb 0<|an ⟨rfl,rfl⟩ fun w3 M3=>lb 0<|an rfl<|fun g3 w4 M4=>cl<|an (eW _ _ _ [y.name] ((p.users.take m).map (·.name)) (M4.slice 0 rfl rfl rfl (by simp[maxLen])) (iX (M4.r 0 rfl) (by simp;omega) rfl) (by simpa using pN.name)) fun w5 M5=>an (fun h3 M=>⟨ri (out _ (if_neg (by simpa using h3)) (by simpa using h3)),M.below⟩) fun h3=>?_
 replace h3:bY [y.name] ((p.users.take m).map (·.name))=0:=by simpa using h3
 rw[if_pos h3] at hcf out;refine lb 1<|an rfl<|fun g4 w6 M6=>ap 0 id rfl (M6.slice 0 rfl rfl rfl (by simp[maxLen])) ⟨by unfold maxLen;omega,by omega⟩ fun v5 w7 M7=>lb 3<|an rfl<|lb 2<|an rfl<|cl<|an (ju _ _ _ _ _ _ _ _ _ _ _ _ _ _ _ _ _ _ p (hp.keep M7.below) hok y.roles pN.roles) fun w8 M8=>an (fun h4 M=>⟨ri (out 3 (if_pos (by simpa using h4)) (by decide)),M.below⟩) fun h4=>?_
 rw[if_neg (by simpa using h4)] at hcf out;refine lb 3<|an rfl<|lb 2<|an rfl<|cl<|an (vD _ _ _ _ _ _ _ _ _ _ _ _ _ _ _ _ _ _ p (hp.keep M8.below) y.rng pN.rng) fun w9 M9=>lb 3<|an (fun _=>rfl)<|lb 2<|an (fun _=>rfl)<|cl<|an (fun _=>kL _ _ _ _ _ _ _ _ _ _ _ _ _ _ _ _ _ _ p (hp.keep M9.below) y.dflt pN.dflt) fun xR sA=>lb 2<|an (fun _=>rfl)<|lb 2<|an (fun _=>rfl)<|cl<|an (fun _=>tZ _ y.rng.high y.dflt pN.rng.high pN.dflt) fun JJ M11=>lb 2<|an (fun _=>rfl)<|lb 2<|an (fun _=>rfl)<|cl<|an (fun _=>tZ _ y.dflt y.rng.low pN.dflt pN.rng.low) fun Mg Jg=>an (fun h5 M=>⟨ri (out 18 ?_ (by decide)),M.below⟩) fun h5=>an (by omega)<|bk (m+1,v5) ⟨rfl,rfl,trivial⟩ (fun M=>⟨(M.only (.cons _ (.cons _ (.cons _ (.refl _)))) (.refl _)).cast rfl (by dsimp only;rw[qy hy]),by omega,hinv.trans (bQ hlt ?_)⟩) (by dsimp only;omega)
 all_goals first|(rw[hcf];clear hcf out)|clear hcf out
 all_goals cases h6:pJ p.aV.length p.cats.length y.rng<;>cases h7:pP p.aV.length p.cats.length y.dflt<;>cases h8:vZ y.rng.high y.dflt<;>cases h9:vZ y.dflt y.rng.low<;>simp_all
def WC(nU nR nT:Nat)(cl:List lG)(y:oh):Int:=
 if kq cl y.cls y.perms=false then 3 else if ¬ y.val=decide (y.perms=0) then 2 else iK nU nR nT y.val y.expr
def Lx(p:aG)(i:Nat):Int:=match p.cons[i]? with
 | some y=>WC p.users.length p.roles.length p.types.length p.classes y
 | none=>0
def C0(p:aG):Int:=if 64<p.cons.length then 4 else aH (Lx p) p.cons.length 0
theorem yg(w:World)(c0 c1 c2 c3 c4 c5 c6 c7 c8 c9 aW aP aO aU aT aS aR:Value)(p:aG)(hp:aL w c0 c1 c2 c3 c4 c5 c6 c7 c8 c9 aW aP aO aU aT aS aR p)(hok:p.Ok):Calls Tryz.prog 49 #[.agg #[c0,c1,c2,c3,c4,c5,c6,c7,c8,c9,aW,aP,aO,aU,aT,aS,aR]] w fun e w'=>e=.returned (.int .i64 (C0 p))∧auk w.heap.size w w':=by
 obtain⟨_,_,_,_,_,_,_,_,_,_,_,_,_,_,_,_,_,_,_,_,_,_,_,_,_,_,_,_,_,_,_,_,_,_,rfl,rfl,rfl,rfl,rfl,rfl,rfl,rfl,rfl,rfl,rfl,rfl,rfl,rfl,rfl,rfl,rfl⟩:=hp.open;refine fL [] (fn:=Tryz.f49) Tryz.func49 rfl Tryz.ntmps49 rfl<|fun g1 w1 M1=>lb 0<|an rfl<|an (fun h M=>⟨ri (by unfold C0;rw[if_pos (by simp at h;omega)]),M.below⟩) fun h=>?_
 have hr:¬ 64<p.cons.length:=by simp at h;omega
 rw[show C0 p=aH (Lx p) p.cons.length 0 from if_neg hr];refine lr (ι:=Nat) (fun m=>[(3,.int .i64 (m:Int))]) (fun m _=>m≤p.cons.length∧aH (Lx p) p.cons.length 0=aH (Lx p) (p.cons.length-m) m) (fun m=>p.cons.length-m) 0 (an ⟨⟨rfl,trivial⟩,fun M=>⟨M,auu _,by rw[Nat.sub_zero]⟩⟩ ?_);rintro m w2 M ⟨hm,hinv⟩;refine lb 0<|an rfl<|an (fun h2=>?_) fun h2 M=>⟨ri (by rw[hinv,show m=p.cons.length by simp at h2;omega,cI]),M.below⟩
 have hlt:m<p.cons.length:=by simp at h2;omega
 obtain⟨y,hy⟩:∃ y,p.cons[m]?=some y:=⟨_,aun hlt⟩;have pN:=hok.cons y (aum hy);obtain⟨b,o,_,e,⟨_,rfl,hE⟩,hc⟩:=aC.elt hp.cons (by decide) hy;obtain⟨nv,kv,rfl,hn,hk⟩:=hE.open;obtain⟨_,_,rfl,-⟩:=bp.get hn;obtain⟨_,_,rfl,-⟩:=aC.form hk (by decide);have hcf:Lx p m=WC p.users.length p.roles.length p.types.length p.classes y:=by unfold Lx;rw[hy]
 have out:∀ v:Int,WC p.users.length p.roles.length p.types.length p.classes y=v→v≠0→aH (Lx p) p.cons.length 0=v:=fun v h1 h2=>by rw[hinv,cJ hlt (by rw[hcf,h1];exact h2),hcf,h1]
 unfold WC at hcf out;refine lb 0<|an rfl<|ia<|an ⟨e,rfl,hlt⟩<|lc<|an (dJ M.below hc)<|ei<|an NS fun g2 w2 M2=>lb 0<|an ⟨rfl,rfl⟩ fun w3 M3=>lb 1<|an rfl<|lb 0<|an rfl<|lb 0<|an rfl<|cl<|an (zo _ _ _ _ _ _ _ _ _ _ _ _ _ _ _ _ _ _ p (hp.keep M3.below) y.cls y.perms pN.perms) fun w4 M4=>an (fun h3 M=>⟨ri (out 3 (if_pos (by simpa using h3)) (by decide)),M.below⟩) fun h3=>?_
 rw[if_neg (by simpa using h3)] at hcf out;refine lb 0<|an rfl<|lb 0<|an rfl<|an (fun h4 M=>⟨ri (out 2 (if_pos (by simpa using h4)) (by decide)),M.below⟩) fun h4=>?_
 rw[if_neg (by simpa using h4)] at hcf out;exact lb 1<|an rfl<|lb 0<|an rfl<|lb 0<|an rfl<|cl<|an (Bj y.expr pN.expr _ _ _ _ _ _ _ _ _ _ _ _ _ _ _ _ _ _ _ p (hp.keep M4.below) hok (hE.keep M4.below) y.val) fun w5 M5=>an (fun h5 M=>⟨ri (out _ rfl (by simpa using h5)),M.below⟩) fun h5=>an (by omega)<|bk (m+1) ⟨rfl,trivial⟩ (fun M=>⟨M.only (.cons _ (.refl _)) (.refl _),by omega,hinv.trans (bQ hlt (by rw[hcf];simpa using h5))⟩) (by dsimp only;omega)
def tI(p:aG):Int:=
 if 16<p.bools.length then 4
 else if ¬ bY (p.bools.map (·.name)) []=0 then bY (p.bools.map (·.name)) []
 else if 16<p.aV.length then 4
 else if ¬ bY p.aV []=0 then bY p.aV []
 else if 64<p.cats.length then 4
 else bY p.cats []
theorem Kp(w:World)(c0 c1 c2 c3 c4 c5 c6 c7 c8 c9 aW aP aO aU aT aS aR:Value)(p:aG)(hp:aL w c0 c1 c2 c3 c4 c5 c6 c7 c8 c9 aW aP aO aU aT aS aR p)(hok:p.Ok):Calls Tryz.prog 45 #[.agg #[c0,c1,c2,c3,c4,c5,c6,c7,c8,c9,aW,aP,aO,aU,aT,aS,aR]] w fun e w'=>e=.returned (.int .i64 (tI p))∧auk w.heap.size w w':=by
 obtain⟨_,_,_,_,_,_,_,_,_,_,_,_,_,_,_,_,_,_,_,_,_,_,_,_,_,_,_,_,_,_,_,_,_,_,rfl,rfl,rfl,rfl,rfl,rfl,rfl,rfl,rfl,rfl,rfl,rfl,rfl,rfl,rfl,rfl,rfl⟩:=hp.open;refine fL [] (fn:=Tryz.f45) Tryz.func45 rfl Tryz.ntmps45 rfl<|fun g1 w1 M1=>lb 0<|an rfl<|an (fun h M=>⟨ri (if_pos (by simp at h;omega)),M.below⟩) fun h=>?_
 have hr:¬ 16<p.bools.length:=by simp at h;omega
 refine lq (ι:=Nat×Value) (fun(m,u)=>[(3,u),(4,.int .i64 (m:Int))]) (fun(m,u)=>[⟨u,9,1,m,((p.bools.take m).map (·.name)).flatMap aN⟩]) (fun(m,u) _=>m≤p.bools.length) (fun(m,u)=>p.bools.length-m) (0,.slice none 0 0) (an ⟨⟨rfl,rfl,trivial⟩,fun M=>⟨M.bX 9 1,auu _⟩⟩ ?_);rintro⟨m,u⟩ w2 M hm;refine lb 0<|an rfl<|an (fun h2=>?_) fun h2=>?_
 ·have hlt:m<p.bools.length:=by simp at h2;omega
  obtain⟨y,hy⟩:∃ y,p.bools[m]?=some y:=⟨_,aun hlt⟩;obtain⟨b,o,e,hc⟩:=SliceAt.elt hp.bools (fun _=>rfl) (by decide) hy hlt;exact lb 0<|an rfl<|ia<|an ⟨e,rfl,hlt⟩<|lc<|an (dJ M.below hc 0 _ rfl)<|fun g2 w2 M2=>ap 0 id rfl (M2.slice 0 rfl rfl rfl (by simp[maxLen])) ⟨by unfold maxLen;omega,by omega⟩ fun v3 w3 M3=>an (by omega)<|bk (m+1,v3) ⟨rfl,rfl,trivial⟩ (fun M=>⟨(M.only (.cons _ (.refl _)) (.refl _)).cast rfl (by dsimp only;rw[qy hy]),by omega⟩) (by dsimp only;omega)
 obtain rfl:m=p.bools.length:=by simp at h2;omega
 have hM:tI p=if ¬ bY (p.bools.map (·.name)) []=0 then bY (p.bools.map (·.name)) [] else if 16<p.aV.length then 4 else if ¬ bY p.aV []=0 then bY p.aV [] else if 64<p.cats.length then 4 else bY p.cats []:=if_neg hr
 refine cl<|an (eW _ _ _ (p.bools.map (·.name)) [] (iX (M.r 0 rfl) (by simp) (by rw[auE])) (SliceAt.nil _ _) (fun s hs=>by obtain⟨y,hy,rfl⟩:=auD.1 hs;exact(hok.bools y hy).name)) fun w4 M4=>an (fun h3 M=>⟨ri (by rw[hM,if_pos (by simpa using h3)]),M.below⟩) fun h3=>?_
 rw[if_neg (by simpa using h3)] at hM;refine lb 0<|an rfl<|an (fun h4 M=>⟨ri (by rw[hM,if_pos (by simp at h4;omega)]),M.below⟩) fun h4=>?_
 rw[if_neg (by simp at h4;omega)] at hM;refine lb 0<|an rfl<|cl<|an (eW _ _ _ p.aV [] (hp.aV.keep M4.below) (SliceAt.nil _ _) hok.aV) fun w5 M5=>an (fun h5 M=>⟨ri (by rw[hM,if_pos (by simpa using h5)]),M.below⟩) fun h5=>?_
 rw[if_neg (by simpa using h5)] at hM;refine lb 0<|an rfl<|an (fun h6 M=>⟨ri (by rw[hM,if_pos (by simp at h6;omega)]),M.below⟩) fun h6=>?_
 rw[if_neg (by simp at h6;omega)] at hM;exact lb 0<|an rfl<|cl<|an (eW _ _ _ p.cats [] (hp.cats.keep M5.below) (SliceAt.nil _ _) hok.cats) fun w6 M6 M=>⟨ri hM,M.below⟩
def AV(p:aG):Int:=
 if nV [nk p,oP p,pG p]=0 then nV [u6 p,tI p,jZ p,oV p,eZ p,C0 p,jF p,p8 p] else nV [nk p,oP p,pG p]
theorem Tm{w:World}{l:List Int}{n:Nat}{u:Value}{w0:World}(h:Ca w0 42 n (l.map jT) u w)(hn:n=l.length)(hm:l.length≤maxLen:=by simp[maxLen]):Calls Tryz.prog 40 #[u] w fun e w'=>e=.returned (.int .i64 (nV l))∧auk w.heap.size w w':=by
 subst hn;obtain⟨g,rfl,hW,-⟩:=h;exact(PJ _ _ l (SliceAt.zQ hW (by simp) (by simp[jT,Value.oneCell']) hm)).mono fun _ _ ⟨h1,h2⟩=>⟨h1,h2▸Below.refl _ _⟩
theorem PZ(w0:World)(c0 c1 c2 c3 c4 c5 c6 c7 c8 c9 aW aP aO aU aT aS aR:Value)(p:aG)(hp:aL w0 c0 c1 c2 c3 c4 c5 c6 c7 c8 c9 aW aP aO aU aT aS aR p)(hok:p.Ok)(iN:p.Few):Calls Tryz.prog 12 #[.agg #[c0,c1,c2,c3,c4,c5,c6,c7,c8,c9,aW,aP,aO,aU,aT,aS,aR]] w0 (RI w0 (AV p)):=by
 refine fL [] (fn:=Tryz.f12) Tryz.func12 rfl Tryz.ntmps12 rfl<|fun g1 w1 M1=>dr (by kernel_rfl)<|lb 0<|an rfl<|cl<|an (fun w' hb M=>IE _ _ _ _ _ _ _ _ _ _ _ _ _ _ _ _ _ _ p (hp.keep M.below) hok)<|lb 0<|an rfl<|cl<|an (fun w' hb M=>Oe _ _ _ _ _ _ _ _ _ _ _ _ _ _ _ _ _ _ p (hp.keep M.below) hok iN)<|lb 0<|an rfl<|cl<|an (fun w' hb M=>OI _ _ _ _ _ _ _ _ _ _ _ _ _ _ _ _ _ _ p (hp.keep M.below) hok)<|br (Ca w1 42 3 ([nk p,oP p,pG p].map jT))<|an kZ<|an (fun w1 a o' hb M' hop ny=>bK (p:=fun _=>True) (kk:=1) (b:=8) (by kernel_rfl) rfl rfl (by decide) (by decide) (by simp[Value.cells]) rfl w1 a o' hb trivial hop ny)<|cu<|an (fun u _ w' hb' M' hR=>Tm hR rfl)<|fun w2 hb2 M2=>an (fun h M=>⟨ri (if_neg (by simpa using h)),M.below⟩) fun h=>?_
 rw[show AV p=nV [u6 p,tI p,jZ p,oV p,eZ p,C0 p,jF p,p8 p] from if_pos (by simpa using h)];exact dr (by kernel_rfl)<|lb 0<|an rfl<|cl<|an (fun w' hb M=>Ob _ _ _ _ _ _ _ _ _ _ _ _ _ _ _ _ _ _ p (hp.keep M.below) hok)<|lb 0<|an rfl<|cl<|an (fun w' hb M=>Kp _ _ _ _ _ _ _ _ _ _ _ _ _ _ _ _ _ _ p (hp.keep M.below) hok)<|lb 0<|an rfl<|cl<|an (fun w' hb M=>OD _ _ _ _ _ _ _ _ _ _ _ _ _ _ _ _ _ _ p (hp.keep M.below) hok)<|lb 0<|an rfl<|cl<|an (fun w' hb M=>Og _ _ _ _ _ _ _ _ _ _ _ _ _ _ _ _ _ _ p (hp.keep M.below) hok)<|lb 0<|an rfl<|cl<|an (fun w' hb M=>II _ _ _ _ _ _ _ _ _ _ _ _ _ _ _ _ _ _ p (hp.keep M.below) hok)<|lb 0<|an rfl<|cl<|an (fun w' hb M=>yg _ _ _ _ _ _ _ _ _ _ _ _ _ _ _ _ _ _ p (hp.keep M.below) hok)<|lb 0<|an rfl<|cl<|an (fun w' hb M=>KQ _ _ _ _ _ _ _ _ _ _ _ _ _ _ _ _ _ _ p (hp.keep M.below) hok)<|lb 0<|an rfl<|cl<|an (fun w' hb M=>IW _ _ _ _ _ _ _ _ _ _ _ _ _ _ _ _ _ _ p (hp.keep M.below) hok)<|br (Ca w2 42 8 ([u6 p,tI p,jZ p,oV p,eZ p,C0 p,jF p,p8 p].map jT))<|an kZ<|an (fun w1 a o' hb M' hop ny=>bK (p:=fun _=>True) (kk:=1) (b:=8) (by kernel_rfl) rfl rfl (by decide) (by decide) (by simp[Value.cells]) rfl w1 a o' hb trivial hop ny)<|cu<|an (fun u _ w' hb' M' hR=>Tm hR rfl)<|fun w3 Pw M3 M=>⟨rfl,M.below⟩
theorem JX(w0:World)(c0 c1 c2 c3 c4 c5 c6 c7 c8 c9 aW aP aO aU aT aS aR:Value)(p:aG)(hp:aL w0 c0 c1 c2 c3 c4 c5 c6 c7 c8 c9 aW aP aO aU aT aS aR p)(hok:p.Ok):Calls Tryz.prog 11 #[.agg #[c0,c1,c2,c3,c4,c5,c6,c7,c8,c9,aW,aP,aO,aU,aT,aS,aR]] w0 fun e w'=>∃ v,e=.returned v∧((∃ b:Bool,v=.bool b∧(b=true→p.sj))∧auk w0.heap.size w0 w'):=
 (Ow w0 c0 c1 c2 c3 c4 c5 c6 c7 c8 c9 aW aP aO aU aT aS aR p hp hok).mono fun _ _ ⟨v,h1,b,h2,h3,h4⟩=>⟨v,h1,⟨b,h2,h3⟩,h4⟩
structure W8 (p:aG):Prop where
 small:p.sj
 rules:p.rules.length≤20
 bools:p.bools.length≤4
 check:AV p=0
theorem Nk(w0:World)(c0 c1 c2 c3 c4 c5 c6 c7 c8 c9 aW aP aO aU aT aS aR:Value)(p:aG)(hp:aL w0 c0 c1 c2 c3 c4 c5 c6 c7 c8 c9 aW aP aO aU aT aS aR p)(hok:p.Ok):Calls Tryz.prog 20 #[.agg #[c0,c1,c2,c3,c4,c5,c6,c7,c8,c9,aW,aP,aO,aU,aT,aS,aR]] w0 (fun(e:Ending) (w':World)=>∃ v,e=.returned v∧((∃ b:Bool,v=.bool b∧(b=true→W8 p))∧auk w0.heap.size w0 w')):=by
 obtain⟨gh,f_,rfl,Uy,hm5,Ec⟩:=SliceAt.form hp.bools (by decide);obtain⟨Sh,O3,rfl,hk9,hm9,Lb⟩:=SliceAt.form hp.rules (by decide);have aM:=hr1 Tryz.prog Tryz.f20 (fun(e:Ending) (w':World)=>∃ v,e=.returned v∧((∃ b:Bool,v=.bool b∧(b=true→W8 p))∧auk w0.heap.size w0 w')) 22 2 rfl;refine en Tryz.func20 rfl Tryz.ntmps20 rfl (vs:=[.agg #[c0,c1,c2,c3,c4,.slice gh p.bools.length f_,c6,c7,c8,.slice Sh p.rules.length O3,aW,aP,aO,aU,aT,aS,aR]]) rfl fun _ F=>?_
 have M:=Mm.start w0;refine auq fun K1 dw=>ah<|oG (on rfl) rfl (F.u rf) rfl F rfl M fun g1 _ _ F M=>xA (v:=.bool false) F rf rf rf fun _ F=>aur<|dw _ _ ?_
 refine auq fun K2 cQ=>ah<|xW F (M.b 0 rfl) rf rf rf iU rf kS rf fun _ F=>kx (on rfl) (bw rfl Tryz.func11 af6 rfl (args1 (F.u rf))) (JX _ _ _ _ _ _ _ _ _ _ _ _ _ _ _ _ _ _ p (hp.keep M.below) hok) rfl F rfl M fun sv _ _ agD hB F M=>?_
 obtain⟨sb,rfl,ada⟩:=agD;refine xM F rf rf rf fun _ F=>?_
 cases Na:(sb:Bool) with
 | true=>
  have F:=F.eq 5 rfl (congrArg Value.bool Na);refine ke (u:=.pointer (some ⟨g1,9,none⟩)) (gn rfl rfl (F.g 5 rfl)) (aI rfl (F.u rf) iU rfl U9) rfl F rfl rfl fun _ F=>kv (gn rfl rfl (F.g 5 rfl)) (aD rfl (F.u rf) Yw rfl ((M.b 0 rfl).c1 9)) rfl F rfl fun _ F=>kv (gn rfl rfl (F.g 5 rfl)) (bA rfl (F.u rf) Yw) rfl F rfl fun _ F=>kv (gn rfl rfl (F.g 5 rfl)) (Nu rfl (F.u rf) rfl) rfl F rfl fun _ F=>ke (u:=.bool (decide ((p.rules.length:Int)≤20))) (on rfl) (bq rfl (F.u rf) (F.u rf) rfl) rfl F rfl rfl fun _ F=>xM F rf rf rf fun _ F=>?_
  cases Uw:(decide ((p.rules.length:Int)≤20):Bool) with
  | true=>
   have F:=F.eq 11 rfl (congrArg Value.bool Uw);have BH:=of_decide_eq_true Uw;refine ke (u:=.pointer (some ⟨g1,5,none⟩)) (gn rfl rfl (F.g 11 rfl)) (aI rfl (F.u rf) iU rfl U_) rfl F rfl rfl fun _ F=>kv (gn rfl rfl (F.g 11 rfl)) (aD rfl (F.u rf) u27 rfl ((M.b 0 rfl).c1 5)) rfl F rfl fun _ F=>kv (gn rfl rfl (F.g 11 rfl)) (bA rfl (F.u rf) u27) rfl F rfl fun _ F=>kv (gn rfl rfl (F.g 11 rfl)) (Nu rfl (F.u rf) rfl) rfl F rfl fun _ F=>ke (u:=.bool (decide ((p.bools.length:Int)≤4))) (on rfl) (bq rfl (F.u rf) (F.u rf) rfl) rfl F rfl rfl fun _ F=>xM F rf rf rf fun _ F=>?_
   cases hq5:(decide ((p.bools.length:Int)≤4):Bool) with
   | true=>
    have F:=F.eq 17 rfl (congrArg Value.bool hq5);have vU:=of_decide_eq_true hq5;refine kv (gn rfl rfl (F.g 17 rfl)) (lV rfl (F.u rf) iU rfl (M.b 0 rfl) kS rfl) rfl F rfl fun _ F=>?_
    have iN:p.sj:=ada (by assumption);refine kc (gn rfl rfl (F.g 17 rfl)) (bw rfl Tryz.func12 af5 rfl (args1 (F.u rf))) (PZ _ _ _ _ _ _ _ _ _ _ _ _ _ _ _ _ _ _ p (hp.keep M.below) hok iN.few) rfl F rfl M fun _ _ F M=>kv (gn rfl rfl (F.g 17 rfl)) (eX rfl (F.u rf) rfl) rfl F rfl fun _ F=>ke (u:=.bool (decide (AV p=0))) (on rfl) (bq rfl (F.u rf) (F.u rf) rfl) rfl F rfl rfl fun _ F=>xA F rf rf rf fun _ F=>aur<|cQ _ _ ?_
    refine wp_ret<|aM _ _ _ _ F rfl ?_;exact⟨_,rfl,⟨_,rfl,fun h=>⟨ada (by assumption),by omega,by omega,by first|exact of_decide_eq_true h|exact of_decide_eq_true (by assumption)⟩⟩,M.below⟩
   | false=>
    have F:=F.eq 17 rfl (congrArg Value.bool hq5);have QA:=of_decide_eq_false hq5;refine ko rfl rfl rfl (F.g 17 rfl) rfl F rfl fun _ F=>ko rfl rfl rfl (F.g 17 rfl) rfl F rfl fun _ F=>ko rfl rfl rfl (F.g 17 rfl) rfl F rfl fun _ F=>ke (u:=.bool false) (on rfl) (bq rfl (F.u rf) (F.u rf) rfl) rfl F rfl rfl fun _ F=>xA F rf rf rf fun _ F=>aur<|cQ _ _ ?_
    refine wp_ret<|aM _ _ _ _ F rfl ?_;exact⟨_,rfl,⟨false,rfl,fun h=>(by cases h)⟩,M.below⟩
  | false=>
   have F:=F.eq 11 rfl (congrArg Value.bool Uw);have Qz:=of_decide_eq_false Uw;refine ko rfl rfl rfl (F.g 11 rfl) rfl F rfl fun _ F=>ko rfl rfl rfl (F.g 11 rfl) rfl F rfl fun _ F=>ko rfl rfl rfl (F.g 11 rfl) rfl F rfl fun _ F=>ko rfl rfl rfl (F.g 11 rfl) rfl F rfl fun _ F=>ke (u:=.bool false) (on rfl) (bq rfl (F.u rf) (F.u rf) rfl) rfl F rfl rfl fun _ F=>xM F rf rf rf fun _ F=>ko rfl rfl rfl (F.g 17 rfl) rfl F rfl fun _ F=>ko rfl rfl rfl (F.g 17 rfl) rfl F rfl fun _ F=>ko rfl rfl rfl (F.g 17 rfl) rfl F rfl fun _ F=>ke (u:=.bool false) (on rfl) (bq rfl (F.u rf) (F.u rf) rfl) rfl F rfl rfl fun _ F=>xA F rf rf rf fun _ F=>aur<|cQ _ _ ?_
   refine wp_ret<|aM _ _ _ _ F rfl ?_;exact⟨_,rfl,⟨false,rfl,fun h=>(by cases h)⟩,M.below⟩
 | false=>
  have F:=F.eq 5 rfl (congrArg Value.bool Na);refine ko rfl rfl rfl (F.g 5 rfl) rfl F rfl fun _ F=>ko rfl rfl rfl (F.g 5 rfl) rfl F rfl fun _ F=>ko rfl rfl rfl (F.g 5 rfl) rfl F rfl fun _ F=>ko rfl rfl rfl (F.g 5 rfl) rfl F rfl fun _ F=>ke (u:=.bool false) (on rfl) (bq rfl (F.u rf) (F.u rf) rfl) rfl F rfl rfl fun _ F=>xM F rf rf rf fun _ F=>ko rfl rfl rfl (F.g 11 rfl) rfl F rfl fun _ F=>ko rfl rfl rfl (F.g 11 rfl) rfl F rfl fun _ F=>ko rfl rfl rfl (F.g 11 rfl) rfl F rfl fun _ F=>ko rfl rfl rfl (F.g 11 rfl) rfl F rfl fun _ F=>ke (u:=.bool false) (on rfl) (bq rfl (F.u rf) (F.u rf) rfl) rfl F rfl rfl fun _ F=>xM F rf rf rf fun _ F=>ko rfl rfl rfl (F.g 17 rfl) rfl F rfl fun _ F=>ko rfl rfl rfl (F.g 17 rfl) rfl F rfl fun _ F=>ko rfl rfl rfl (F.g 17 rfl) rfl F rfl fun _ F=>ke (u:=.bool false) (on rfl) (bq rfl (F.u rf) (F.u rf) rfl) rfl F rfl rfl fun _ F=>xA F rf rf rf fun _ F=>aur<|cQ _ _ ?_
  refine wp_ret<|aM _ _ _ _ F rfl ?_;exact⟨_,rfl,⟨false,rfl,fun h=>(by cases h)⟩,M.below⟩
theorem Uc{x y i:Nat}(hy:y<18446744073709551616)(hi:i<64):(qM x y).testBit i=(x.testBit i&&!y.testBit i):=by
 unfold qM;rw[Nat.testBit_and,show 18446744073709551615-y=2^64-(y+1) by omega,Nat.testBit_two_pow_sub_succ (by simpa using hy),decide_eq_true hi,Bool.true_and]
theorem O2{a b:au}(hb:b.Ok){k:Nat}(hk:k<256):(a.minus b).has k=(a.has k&&!b.has k):=by
 unfold au.has;rw[au.zm a b (by omega),Uc (au.iy hb _) (Nat.mod_lt _ (by decide))]
theorem I3{k:Nat}(hk:k<256):∀ n,n≤256→(Fu n).has k=decide (k<n)
 | 0,_=>by rw[Fu,au.H7];rfl
 | n+1,h=>by
  have e:(Fu (n+1))=(Fu n).add n:=by
   rw[Fu]
   unfold au.with
   rw[if_pos ⟨by omega,by omega⟩,Int.toNat_natCast]
  rw[e,au.has_add _ (by omega) hk,I3 hk n (by omega),← Bool.decide_or];exact decide_eq_decide.2 (by omega)
theorem Cb{a:au}{T k:Nat}(h:a.within (au.all T)=true)(hT:T≤256)(hk:k<256)(ha:a.has k=true):k<T:=by
 unfold au.within at h;have h2:=of_decide_eq_true h;have h3:=O2 (a:=a) (b:=au.all T) (A_ T) hk;rw[h2,au.H7,ha] at h3;unfold au.all at h3;rw[Nat.min_eq_left hT,I3 hk T hT] at h3;by_cases hlt:k<T
 ·exact hlt
 ·rw[decide_eq_false hlt] at h3;cases h3
theorem RL{r:ak}{T:Nat}(hT:T≤256)(h1:r.src.within (au.all T)=true)(h2:r.tgt.within (au.all T)=true):∀ p∈r.pairs,p.1<T∧p.2<T:=fun p hp=>by
 obtain⟨hs,ht⟩:=vH hp;obtain⟨h3,h4⟩:=(zX (r:=r) (s:=p.1) (o:=p.2) hs ht).1 hp;have ha:=Cb h1 hT hs h3;refine⟨ha,?_⟩;rw[Bool.or_eq_true,auv,decide_eq_true_eq] at h4;rcases h4 with h4|⟨-,h4⟩
 ·exact Cb h2 hT ht h4
 ·omega
theorem Iy{n:Nat}:∀ e:aA,ng n e=0→nw n e
 | .node op a rel b names set kids,h=>by
  have ih:∀ k∈kids,ng n k=0→nw n k:=fun k hk=>Iy k
  rw[ud] at h
  cases hb:nX (.node op a rel b names set kids) with
  | true=>rw[hb] at h;simp at h
  | false=>
   rw[hb,if_neg (by decide)] at h
   cases h1:(decide (op=1)&&!bn a (n:Int)) with
   | true=>rw[show(decide ((aA.node op a rel b names set kids).op=1)&&!bn (aA.node op a rel b names set kids).a (n:Int))=true from h1] at h;simp at h
   | false=>
    rw[show(decide ((aA.node op a rel b names set kids).op=1)&&!bn (aA.node op a rel b names set kids).a (n:Int))=false from h1,if_neg (by decide)] at h;replace h:nh n kids=0:=h;unfold nX at hb;simp only[Bool.or_eq_false_iff,decide_eq_false_iff_not,Bool.not_eq_false',decide_eq_true_eq,aA.op,aA.kids] at hb;have hop:¬ op=8∧¬ op=9:=⟨of_decide_eq_false hb.1.1.1.1.1.1.1,of_decide_eq_false hb.1.1.1.1.1.1.2⟩;have hkl:qW op=(kids.length:Int):=of_decide_eq_true hb.1.1.1.1.1.2
    have two:3≤op→op≤7→nw n (.node op a rel b names set kids):=fun h3 h7=>by
     have hk2:qW op=2:=by
      have e:op=3∨op=4∨op=5∨op=6∨op=7:=by omega
      rcases e with rfl|rfl|rfl|rfl|rfl<;>rfl
     rw[hk2] at hkl
     match kids,h,hkl,ih with
     | [k,l],h,_,ih=>
      unfold nh at h;split at h
      ·rename_i hk;unfold nh at h;split at h
       ·rename_i hl;exact .bin h3 h7 (ih k (by simp) hk) (ih l (by simp) hl)
       ·rename_i hl;exact absurd h hl
      ·rename_i hk;exact absurd h hk
    by_cases e1:op=1
    ·subst e1;have hk0:kids=[]:=List.eq_nil_of_length_eq_zero (by have:qW 1=0:=rfl;omega);subst hk0;rw[decide_eq_true rfl,Bool.true_and,Bool.not_eq_false'] at h1;unfold bn at h1;rw[auv,decide_eq_true_eq,decide_eq_true_eq] at h1;exact .bool h1.1 h1.2
    by_cases e2:op=2
    ·subst e2;have hk1:qW 2=1:=rfl;rw[hk1] at hkl
     match kids,h,hkl,ih with
     | [k],h,_,ih=>
      unfold nh at h;split at h
      ·rename_i hk;exact .not (ih k (by simp) hk)
      ·rename_i hk;exact absurd h hk
    by_cases e3:3≤op∧op≤7
    ·exact two e3.1 e3.2
    exfalso
    have hm:qW op<0:=by
     unfold qW;rw[if_neg e1,if_neg hop.1,if_neg hop.2,if_neg e2,if_neg (by omega),if_neg (by omega),if_neg (by omega),if_neg (by omega),if_neg (by omega)];decide
    omega
 termination_by e=>SizeOf.sizeOf e
 decreasing_by
  have:=List.sizeOf_lt_of_mem hk;simp only[aA.node.sizeOf_spec];omega
theorem Ik{p:aG}(h:W8 p)(hok:p.Ok):rz p∧LN p:=by
 have hc:=h.check;unfold AV at hc;split at hc
 case isFalse hne=>exact absurd hc hne
 rw[Ih] at hc;have hr:jZ p=0:=hc _ (by simp);have ht:oV p=0:=hc _ (by simp);have hT:p.types.length≤256:=auC h.small.sizes.types (by decide);have hCl:p.classes.length≤256:=auC h.small.sizes.classes (by decide);unfold jZ at hr;split at hr
 ·cases hr
 split at hr
 case isFalse _ hne=>exact absurd hr hne
 rename_i _ Hz;split at hr
 ·cases hr
 rw[lS] at hr Hz
 have R:∀ r∈p.rules,Ct p.types.length p.conds.length p.classes r=0:=fun r hr'=>by
  obtain⟨i,hi⟩:=List.getElem?_of_mem hr';have:=hr i (auu _) (by have:=(auB.1 hi).1;omega);unfold wT at this
  rwa [hi] at this
 have C:∀ e∈p.conds,nw p.bools.length e:=fun e he=>by
  obtain⟨i,hi⟩:=List.getElem?_of_mem he;have:=Hz i (auu _) (by have:=(auB.1 hi).1;omega);unfold ni at this;rw[hi] at this;replace this:gB p.bools.length e=0:=this;unfold gB at this;split at this
  ·cases this
  ·exact Iy e this
 have RD:∀ r∈p.rules,RV p.types.length p.classes.length r∧(r.kind=4→r.cond=0)∧-(p.conds.length:Int)≤r.cond∧r.cond≤p.conds.length:=fun r hr'=>by
  have h0:=R r hr';unfold Ct at h0;split at h0
  ·cases h0
  rename_i k1;split at h0
  ·cases h0
  rename_i k4;split at h0
  ·cases h0
  rename_i ho;split at h0
  ·cases h0
  rename_i ha;simp only[Bool.not_eq_true] at ho ha;unfold yJ at ho;unfold DJ at ha;simp only[Bool.or_eq_false_iff,Bool.not_eq_false'] at ho ha;obtain⟨⟨⟨o1,o2⟩,o3⟩,o4⟩:=ho
  have ag6:0≤r.cls∧r.cls<p.classes.length:=by
   cases hb:bn r.cls (p.classes.length:Int) with
   | false=>rw[wJ hb] at o3;cases o3
   | true=>unfold bn at hb;simpa using hb
  unfold uf at o4;rw[auv,decide_eq_true_eq,decide_eq_true_eq] at o4;refine⟨⟨⟨by omega,by omega⟩,ag6,(hok.rules r hr').perms,RL hT o1 o2⟩,fun h4=>?_,o4⟩;have:=ha.2;rw[h4] at this;simpa using this
 have TD:∀ y∈p.trans,-(p.conds.length:Int)≤y.cond∧y.cond≤p.conds.length:=fun y hy=>by
  unfold oV at ht;split at ht
  case isFalse=>cases ht
  rw[lS] at ht;obtain⟨i,hi⟩:=List.getElem?_of_mem hy;have h0:=ht i (auu _) (by have:=(auB.1 hi).1;omega);unfold wL at h0;rw[hi] at h0;replace h0:Ci p.types.length p.classes.length p.conds.length y=0:=h0;unfold Ci at h0
  cases hb:uf p.conds.length y.cond with
  | true=>
   unfold uf at hb
   rwa [auv,decide_eq_true_eq,decide_eq_true_eq] at hb
  | false=>
   rw[hb,if_pos rfl] at h0
   repeat' (split at h0;·cases h0)
   cases h0
 exact⟨⟨auC h.bools (by decide),fun r hr'=>(RD r hr').1,fun r hr'=>(RD r hr').2.1,C,fun r hr'=>(RD r hr').2.2,TD⟩,auC h.bools (by decide),auC h.small.sizes.conds (by decide),hT,hCl,fun r hr'=>⟨(RD r hr').1,hok.rules r hr'⟩⟩
theorem KU(w0:World):Calls Tryz.prog 128 #[] w0 (fun(r:Ending) (w':World)=>r=.returned (.agg #[.int .i64 0,.int .i64 1,.int .i64 0,.int .i64 0,.int .u64 0,.int .i64 0,.int .u64 0])∧auk w0.heap.size w0 w'):=by
 have aM:=hrC Tryz.prog Tryz.f128 (fun(r:Ending) (w':World)=>r=.returned (.agg #[.int .i64 0,.int .i64 1,.int .i64 0,.int .i64 0,.int .u64 0,.int .i64 0,.int .u64 0])∧auk w0.heap.size w0 w') 2 0 74 rfl u74 rfl U8;refine en Tryz.func128 rfl Tryz.ntmps128 rfl (vs:=[]) rfl fun _ F=>?_
 have M:=Mm.start w0;refine auq fun K1 dw=>ah<|sF (on rfl) rfl abk rfl F rfl M fun g1 _ _ F M=>aur<|dw _ _ ?_
 refine auq fun K2 cQ=>ah<|
  kz F rf (tX rfl (pv:=#[(1,.int .i64 1),(2,.int .i64 0)]) (by simp[BigFrame.eval_const]) (cells:=#[.int .i64 0,.int .i64 1,.int .i64 0,.int .i64 0,.int .u64 0,.int .i64 0,.int .u64 0]) (by kernel_rfl)) fun _ F=>
  sE (on rfl) rfl (F.u rf) (F.u rf) F M 0 rfl U8 rfl rfl rfl fun _ M=>
  aur<|
  cQ _ _ ?_
 refine wp_ret<|aM _ _ _ _ _ _ F rfl (M.b 0 rfl) rfl ?_;exact⟨rfl,M.below⟩
theorem Ax(w0:World):Calls Tryz.prog 129 #[] w0 (fun(r:Ending) (w':World)=>r=.returned (.agg #[.int .i64 0,.int .i64 0,.int .i64 2,.int .i64 0,.int .u64 0,.int .i64 0,.int .u64 0])∧auk w0.heap.size w0 w'):=by
 have aM:=hrC Tryz.prog Tryz.f129 (fun(r:Ending) (w':World)=>r=.returned (.agg #[.int .i64 0,.int .i64 0,.int .i64 2,.int .i64 0,.int .u64 0,.int .i64 0,.int .u64 0])∧auk w0.heap.size w0 w') 2 0 74 rfl u74 rfl U8;refine en Tryz.func129 rfl Tryz.ntmps129 rfl (vs:=[]) rfl fun _ F=>?_
 have M:=Mm.start w0;refine auq fun K1 dw=>ah<|sF (on rfl) rfl abk rfl F rfl M fun g1 _ _ F M=>aur<|dw _ _ ?_
 refine auq fun K2 cQ=>ah<|
  kz F rf (tX rfl (pv:=#[(2,.int .i64 2)]) (by simp[BigFrame.eval_const]) (cells:=#[.int .i64 0,.int .i64 0,.int .i64 2,.int .i64 0,.int .u64 0,.int .i64 0,.int .u64 0]) (by kernel_rfl)) fun _ F=>
  sE (on rfl) rfl (F.u rf) (F.u rf) F M 0 rfl U8 rfl rfl rfl fun _ M=>
  aur<|
  cQ _ _ ?_
 refine wp_ret<|aM _ _ _ _ _ _ F rfl (M.b 0 rfl) rfl ?_;exact⟨rfl,M.below⟩
theorem sS{w0 w:World}{B:Nat}{bs:List Bx}{rs:List Rw}(M:bg B w0 w bs rs)(i:Nat){l:List Int}{x:Int}{g:Nat}{t:TypeId}(hb:bs[i]?=some (g,t,(l.flatMap anyI).toArray))(hx:J0 l=x)(hl:∀ y∈l,0≤y∧y<64:=by simp)(hn:l.length≤100:=by decide)(ht:Nat.blt t 9000=true:=by rfl):
 Calls Tryz.prog 127 #[.slice (some ⟨g,0,none⟩) l.length l.length] w fun r w'=>r=.returned (.agg #[.int .u64 x,.int .u64 0,.int .u64 0,.int .u64 0])∧auk w.heap.size w w':=by
 subst hx
 have hlen:(l.flatMap anyI).length=l.length*1:=by
  clear hb hl hn
  induction l with
  | nil=>rfl
  | cons x r ih=>rw[List.flatMap_cons,auo,ih,List.length_cons];simp[anyI];omega
 refine Vg w _ l (M.slice i hb (by simpa using hlen) ?_ (by unfold maxLen;omega) ht) hl;rw[auG];intro u hu;obtain⟨y,-,hy⟩:=List.mem_flatMap.1 (by simpa using hu);simp only[anyI,aul] at hy;rw[hy];rfl
def Both{α:Type}(R:List Value→α→Prop):List (List Value)→List α→Prop
 | [],[]=>True
 | x::r,y::s=>R x y∧Both R r s
 | _,_=>False
theorem Mt{α:Type}{R:List Value→α→Prop}:∀ {es:List (List Value)} {l:List α},Both R es l→∀ (i:Nat) x y,es[i]?=some x→l[i]?=some y→R x y
 | [],_,_,i,x,y,h,_=>by simp at h
 | x::r,[],h,_,_,_,_,_=>h.elim
 | x::r,y::s,h,0,_,_,h1,h2=>by simp at h1 h2;rw[← h1,← h2];exact h.1
 | x::r,y::s,h,i+1,_,_,h1,h2=>Mt h.2 i _ _ (by simpa using h1) (by simpa using h2)
theorem VJ{α:Type}{k:Nat}{R:List Value→α→Prop}{w:World}:aC k R w (.slice none 0 0) []:=⟨[],rfl,by simp,SliceAt.nil _ k,by simp⟩
def yI:aG:={
 classes:=[⟨⟨#[112,114,111,99,101,115,115]⟩,[⟨#[102,111,114,107]⟩,⟨#[116,114,97,110,115,105,116,105,111,110]⟩,⟨#[100,121,110,116,114,97,110,115,105,116,105,111,110]⟩,⟨#[115,101,110,100]⟩]⟩,⟨⟨#[102,105,108,101]⟩,[⟨#[114,101,97,100]⟩,⟨#[119,114,105,116,101]⟩,⟨#[99,114,101,97,116,101]⟩,⟨#[117,110,108,105,110,107]⟩,⟨#[101,120,101,99,117,116,101]⟩,⟨#[101,110,116,114,121,112,111,105,110,116]⟩,⟨#[114,101,108,97,98,101,108,102,114,111,109]⟩,⟨#[114,101,108,97,98,101,108,116,111]⟩]⟩,⟨⟨#[100,105,114]⟩,[⟨#[114,101,97,100]⟩,⟨#[119,114,105,116,101]⟩,⟨#[99,114,101,97,116,101]⟩,⟨#[117,110,108,105,110,107]⟩,⟨#[97,100,100]⟩,⟨#[114,101,109,111,118,101]⟩,⟨#[114,101,108,97,98,101,108,102,114,111,109]⟩,⟨#[114,101,108,97,98,101,108,116,111]⟩]⟩],
 types:=[⟨⟨#[105,110,105,116,95,116]⟩,[],false⟩,⟨⟨#[117,115,101,114,95,116]⟩,[],false⟩,⟨⟨#[102,105,108,101,95,116]⟩,[],false⟩,⟨⟨#[115,104,101,108,108,95,116]⟩,[],false⟩],
 attrs:=[⟨⟨#[100,111,109,97,105,110]⟩,⟨3,0,0,0⟩⟩],
 roles:=[⟨⟨#[111,98,106,101,99,116,95,114]⟩,⟨0,0,0,0⟩,⟨0,0,0,0⟩⟩,⟨⟨#[115,121,115,116,101,109]⟩,⟨3,0,0,0⟩,⟨0,0,0,0⟩⟩],
 users:=[⟨⟨#[114,111,111,116]⟩,⟨2,0,0,0⟩,⟨0,0⟩,⟨⟨0,0⟩,⟨0,0⟩⟩⟩],
 bools:=[⟨⟨#[115,104,97,114,101]⟩,false⟩],
 aV:=[⟨#[115,48]⟩],
 cats:=[],
 conds:=[.node 1 0 0 0 [] ⟨0,0,0,0⟩ []],
 rules:=[⟨1,⟨3,0,0,0⟩,⟨0,0,0,0⟩,true,0,9,0⟩,⟨1,⟨1,0,0,0⟩,⟨12,0,0,0⟩,false,1,17,0⟩,⟨1,⟨1,0,0,0⟩,⟨2,0,0,0⟩,false,0,2,0⟩,⟨1,⟨2,0,0,0⟩,⟨8,0,0,0⟩,false,1,32,0⟩,⟨1,⟨2,0,0,0⟩,⟨4,0,0,0⟩,false,1,1,1⟩],
 trans:=[⟨1,⟨1,0,0,0⟩,⟨8,0,0,0⟩,0,ByteArray.empty,1,0⟩],
 aQ:=[],
 ranges:=[],
 cons:=[],
 bP:=[⟨⟨#[107,101,114,110,101,108]⟩,⟨0,1,0,⟨⟨0,0⟩,⟨0,0⟩⟩⟩⟩,⟨⟨#[114,111,111,116]⟩,⟨0,0,2,⟨⟨0,0⟩,⟨0,0⟩⟩⟩⟩,⟨⟨#[117,110,108,97,98,101,108,101,100]⟩,⟨0,0,2,⟨⟨0,0⟩,⟨0,0⟩⟩⟩⟩],
 files:=[],
 asserts:=[] }
def SB(g2 g3 g4 g5 g6 g9 g12 g15 g16 g17 g18 UD UC UA:Nat):List Bx:=[(UA,125,#[.string (⟨#[107,101,114,110,101,108]⟩),.int .i64 0,.int .i64 1,.int .i64 0,.int .i64 0,.int .u64 0,.int .i64 0,.int .u64 0,.string (⟨#[114,111,111,116]⟩),.int .i64 0,.int .i64 0,.int .i64 2,.int .i64 0,.int .u64 0,.int .i64 0,.int .u64 0,.string (⟨#[117,110,108,97,98,101,108,101,100]⟩),.int .i64 0,.int .i64 0,.int .i64 2,.int .i64 0,.int .u64 0,.int .i64 0,.int .u64 0]),
 (UC,84,#[.int .i64 1,.int .u64 1,.int .u64 0,.int .u64 0,.int .u64 0,.int .u64 8,.int .u64 0,.int .u64 0,.int .u64 0,.int .i64 0,.string ByteArray.empty,.int .i64 1,.int .i64 0]),
 (UD,56,#[.int .i64 1,.int .u64 3,.int .u64 0,.int .u64 0,.int .u64 0,.int .u64 0,.int .u64 0,.int .u64 0,.int .u64 0,.bool true,.int .i64 0,.int .u32 9,.int .i64 0,.int .i64 1,.int .u64 1,.int .u64 0,.int .u64 0,.int .u64 0,.int .u64 12,.int .u64 0,.int .u64 0,.int .u64 0,.bool false,.int .i64 1,.int .u32 17,.int .i64 0,.int .i64 1,.int .u64 1,.int .u64 0,.int .u64 0,.int .u64 0,.int .u64 2,.int .u64 0,.int .u64 0,.int .u64 0,.bool false,.int .i64 0,.int .u32 2,.int .i64 0,.int .i64 1,.int .u64 2,.int .u64 0,.int .u64 0,.int .u64 0,.int .u64 8,.int .u64 0,.int .u64 0,.int .u64 0,.bool false,.int .i64 1,.int .u32 32,.int .i64 0,.int .i64 1,.int .u64 2,.int .u64 0,.int .u64 0,.int .u64 0,.int .u64 4,.int .u64 0,.int .u64 0,.int .u64 0,.bool false,.int .i64 1,.int .u32 1,.int .i64 1]),
 (g18,89,#[.int .i64 1,.int .i64 0,.int .i64 0,.int .i64 0,.slice none 0 0,.int .u64 0,.int .u64 0,.int .u64 0,.int .u64 0,.slice none 0 0]),
 (g17,9,#[.string (⟨#[115,48]⟩)]),
 (g16,197,#[.string (⟨#[115,104,97,114,101]⟩),.bool false]),
 (g15,192,#[.string (⟨#[114,111,111,116]⟩),.int .u64 2,.int .u64 0,.int .u64 0,.int .u64 0,.int .i64 0,.int .u64 0,.int .i64 0,.int .u64 0,.int .i64 0,.int .u64 0]),
 (g12,188,#[.string (⟨#[111,98,106,101,99,116,95,114]⟩),.int .u64 0,.int .u64 0,.int .u64 0,.int .u64 0,.int .u64 0,.int .u64 0,.int .u64 0,.int .u64 0,.string (⟨#[115,121,115,116,101,109]⟩),.int .u64 3,.int .u64 0,.int .u64 0,.int .u64 0,.int .u64 0,.int .u64 0,.int .u64 0,.int .u64 0]),
 (g9,184,#[.string (⟨#[100,111,109,97,105,110]⟩),.int .u64 3,.int .u64 0,.int .u64 0,.int .u64 0]),
 (g6,86,#[.string (⟨#[105,110,105,116,95,116]⟩),.slice none 0 0,.bool false,.string (⟨#[117,115,101,114,95,116]⟩),.slice none 0 0,.bool false,.string (⟨#[102,105,108,101,95,116]⟩),.slice none 0 0,.bool false,.string (⟨#[115,104,101,108,108,95,116]⟩),.slice none 0 0,.bool false]),
 (g5,180,#[.string (⟨#[112,114,111,99,101,115,115]⟩),.slice (some ⟨g4,0,none⟩) 4 4,.string (⟨#[102,105,108,101]⟩),.slice (some ⟨g2,0,none⟩) 8 8,.string (⟨#[100,105,114]⟩),.slice (some ⟨g3,0,none⟩) 8 8]),
 (g4,9,#[.string (⟨#[102,111,114,107]⟩),.string (⟨#[116,114,97,110,115,105,116,105,111,110]⟩),.string (⟨#[100,121,110,116,114,97,110,115,105,116,105,111,110]⟩),.string (⟨#[115,101,110,100]⟩)]),
 (g3,9,#[.string (⟨#[114,101,97,100]⟩),.string (⟨#[119,114,105,116,101]⟩),.string (⟨#[99,114,101,97,116,101]⟩),.string (⟨#[117,110,108,105,110,107]⟩),.string (⟨#[97,100,100]⟩),.string (⟨#[114,101,109,111,118,101]⟩),.string (⟨#[114,101,108,97,98,101,108,102,114,111,109]⟩),.string (⟨#[114,101,108,97,98,101,108,116,111]⟩)]),
 (g2,9,#[.string (⟨#[114,101,97,100]⟩),.string (⟨#[119,114,105,116,101]⟩),.string (⟨#[99,114,101,97,116,101]⟩),.string (⟨#[117,110,108,105,110,107]⟩),.string (⟨#[101,120,101,99,117,116,101]⟩),.string (⟨#[101,110,116,114,121,112,111,105,110,116]⟩),.string (⟨#[114,101,108,97,98,101,108,102,114,111,109]⟩),.string (⟨#[114,101,108,97,98,101,108,116,111]⟩)])]
theorem J3{B:Nat}{w0 w:World}{rs:List Rw}{g2 g3 g4 g5 g6 g9 g12 g15 g16 g17 g18 UD UC UA:Nat}(M:bg B w0 w (SB g2 g3 g4 g5 g6 g9 g12 g15 g16 g17 g18 UD UC UA) rs):aL w (.slice (some ⟨g5,0,none⟩) 3 3) (.slice (some ⟨g6,0,none⟩) 4 4) (.slice (some ⟨g9,0,none⟩) 1 1) (.slice (some ⟨g12,0,none⟩) 2 2) (.slice (some ⟨g15,0,none⟩) 1 1) (.slice (some ⟨g16,0,none⟩) 1 1) (.slice (some ⟨g17,0,none⟩) 1 1) (.slice none 0 0) (.slice (some ⟨g18,0,none⟩) 1 1) (.slice (some ⟨UD,0,none⟩) 5 5) (.slice (some ⟨UC,0,none⟩) 1 1) (.slice none 0 0) (.slice none 0 0) (.slice none 0 0) (.slice (some ⟨UA,0,none⟩) 3 3) (.slice none 0 0) (.slice none 0 0) yI:=
 ⟨⟨[[.string (⟨#[112,114,111,99,101,115,115]⟩),.slice (some ⟨g4,0,none⟩) 4 4],[.string (⟨#[102,105,108,101]⟩),.slice (some ⟨g2,0,none⟩) 8 8],[.string (⟨#[100,105,114]⟩),.slice (some ⟨g3,0,none⟩) 8 8]],rfl,by simp,(M.slice 10 rfl rfl rfl (by simp[maxLen])),Mt ⟨⟨_,rfl,(M.slice 11 rfl rfl rfl (by simp[maxLen]))⟩,⟨_,rfl,(M.slice 13 rfl rfl rfl (by simp[maxLen]))⟩,⟨_,rfl,(M.slice 12 rfl rfl rfl (by simp[maxLen]))⟩,trivial⟩⟩,
  ⟨[[.string (⟨#[105,110,105,116,95,116]⟩),.slice none 0 0,.bool false],[.string (⟨#[117,115,101,114,95,116]⟩),.slice none 0 0,.bool false],[.string (⟨#[102,105,108,101,95,116]⟩),.slice none 0 0,.bool false],[.string (⟨#[115,104,101,108,108,95,116]⟩),.slice none 0 0,.bool false]],rfl,by simp,(M.slice 9 rfl rfl rfl (by simp[maxLen])),Mt ⟨⟨_,rfl,(SliceAt.nil _ 1)⟩,⟨_,rfl,(SliceAt.nil _ 1)⟩,⟨_,rfl,(SliceAt.nil _ 1)⟩,⟨_,rfl,(SliceAt.nil _ 1)⟩,trivial⟩⟩,
  (M.slice 8 rfl rfl rfl (by simp[maxLen])),
  (M.slice 7 rfl rfl rfl (by simp[maxLen])),
  (M.slice 6 rfl rfl rfl (by simp[maxLen])),
  (M.slice 5 rfl rfl rfl (by simp[maxLen])),
  (M.slice 4 rfl rfl rfl (by simp[maxLen])),
  (SliceAt.nil _ 1),
  ⟨[[.int .i64 1,.int .i64 0,.int .i64 0,.int .i64 0,.slice none 0 0,.int .u64 0,.int .u64 0,.int .u64 0,.int .u64 0,.slice none 0 0]],rfl,by simp,(M.slice 3 rfl rfl rfl (by simp[maxLen])),Mt ⟨bB.node (names:=[]) (kids:=[]) (set:=⟨0,0,0,0⟩) (SliceAt.nil _ 1) (es:=[]) rfl (by simp) (SliceAt.nil _ 10) (by simp),trivial⟩⟩,
  (M.slice 2 rfl rfl rfl (by simp[maxLen])),
  (M.slice 1 rfl rfl rfl (by simp[maxLen])),
  (SliceAt.nil _ 10),
  (SliceAt.nil _ 13),
  VJ,
  (M.slice 0 rfl rfl rfl (by simp[maxLen])),
  (SliceAt.nil _ 9),
  (SliceAt.nil _ 10)⟩
theorem J4(w0:World):Calls Tryz.prog 65 #[] w0 fun r w'=>∃ v,r=.returned v∧∃ g2 g3 g4 g5 g6 g9 g12 g15 g16 g17 g18 UD UC UA:Nat,v=.agg #[.slice (some ⟨g5,0,none⟩) 3 3,.slice (some ⟨g6,0,none⟩) 4 4,.slice (some ⟨g9,0,none⟩) 1 1,.slice (some ⟨g12,0,none⟩) 2 2,.slice (some ⟨g15,0,none⟩) 1 1,.slice (some ⟨g16,0,none⟩) 1 1,.slice (some ⟨g17,0,none⟩) 1 1,.slice none 0 0,.slice (some ⟨g18,0,none⟩) 1 1,.slice (some ⟨UD,0,none⟩) 5 5,.slice (some ⟨UC,0,none⟩) 1 1,.slice none 0 0,.slice none 0 0,.slice none 0 0,.slice (some ⟨UA,0,none⟩) 3 3,.slice none 0 0,.slice none 0 0]∧bg w0.heap.size w0 w' (SB g2 g3 g4 g5 g6 g9 g12 g15 g16 g17 g18 UD UC UA) []:=by
 refine fL [] (fn:=Tryz.f65) Tryz.func65 rfl Tryz.ntmps65 rfl<|ei<|an oI fun g1 w1 M1=>fun g2 w2 M2=>fun g3 w3 M3=>fun g4 w4 M4=>
  ei (x:=.agg #[.string (⟨#[112,114,111,99,101,115,115]⟩),.slice (some ⟨g4,0,none⟩) 4 4])<|an (bd (by kernel_rfl))<|
  ei (x:=.agg #[.string (⟨#[102,105,108,101]⟩),.slice (some ⟨g2,0,none⟩) 8 8])<|an (bd (by kernel_rfl))<|
  ei (x:=.agg #[.string (⟨#[100,105,114]⟩),.slice (some ⟨g3,0,none⟩) 8 8])<|an (bd (by kernel_rfl))<|
  fun g5 w5 M5=>
  ei (x:=.agg #[.string (⟨#[105,110,105,116,95,116]⟩),.slice none 0 0,.bool false])<|an (bd (by kernel_rfl))<|
  ei (x:=.agg #[.string (⟨#[117,115,101,114,95,116]⟩),.slice none 0 0,.bool false])<|an (bd (by kernel_rfl))<|
  ei (x:=.agg #[.string (⟨#[102,105,108,101,95,116]⟩),.slice none 0 0,.bool false])<|an (bd (by kernel_rfl))<|
  ei (x:=.agg #[.string (⟨#[115,104,101,108,108,95,116]⟩),.slice none 0 0,.bool false])<|an (bd (by kernel_rfl))<|
  fun g6 w6 M6=>
  fun g7 w7 M7=>
  cl<|an (sS M7 0 (l:=[0,1]) (x:=3) rfl rfl) fun w8 M8=>
  ei (x:=.agg #[.string (⟨#[100,111,109,97,105,110]⟩),.int .u64 3,.int .u64 0,.int .u64 0,.int .u64 0])<|an (bd (by kernel_rfl))<|
  fun g9 w9 M9=>
  ei (x:=.agg #[.string (⟨#[111,98,106,101,99,116,95,114]⟩),.int .u64 0,.int .u64 0,.int .u64 0,.int .u64 0,.int .u64 0,.int .u64 0,.int .u64 0,.int .u64 0])<|an (bd (by kernel_rfl))<|
  fun g10 xR sA=>
  cl<|an (sS sA 0 (l:=[0,1]) (x:=3) rfl rfl) fun JJ M11=>
  ei (x:=.agg #[.string (⟨#[115,121,115,116,101,109]⟩),.int .u64 3,.int .u64 0,.int .u64 0,.int .u64 0,.int .u64 0,.int .u64 0,.int .u64 0,.int .u64 0])<|an (bd (by kernel_rfl))<|
  fun g12 Mg Jg=>
  fun g13 N_ zh=>
  cl<|an (sS zh 0 (l:=[1]) (x:=2) rfl rfl) fun Ut Jf=>
  ei (x:=.agg #[.string (⟨#[114,111,111,116]⟩),.int .u64 2,.int .u64 0,.int .u64 0,.int .u64 0,.int .i64 0,.int .u64 0,.int .i64 0,.int .u64 0,.int .i64 0,.int .u64 0])<|an (bd (by kernel_rfl))<|
  fun g15 N9 FK=>
  ei (x:=.agg #[.string (⟨#[115,104,97,114,101]⟩),.bool false])<|an (bd (by kernel_rfl))<|
  fun g16 Xb LO=>
  fun g17 Xa W4=>
  ei (x:=.agg #[.int .i64 1,.int .i64 0,.int .i64 0,.int .i64 0,.slice none 0 0,.int .u64 0,.int .u64 0,.int .u64 0,.int .u64 0,.slice none 0 0])<|an (bd (by kernel_rfl))<|
  fun g18 w18 WZ=>
  fun g19 w19 Ya=>
  cl<|an (sS Ya 0 (l:=[0,1]) (x:=3) rfl rfl) fun w20 M20=>
  ei (x:=.agg #[.int .i64 1,.int .u64 3,.int .u64 0,.int .u64 0,.int .u64 0,.int .u64 0,.int .u64 0,.int .u64 0,.int .u64 0,.bool true,.int .i64 0,.int .u32 9,.int .i64 0])<|an (bd (by kernel_rfl))<|
  fun g21 w21 M21=>
  cl<|an (sS M21 0 (l:=[0]) (x:=1) rfl rfl) fun w22 M22=>
  fun g23 w23 M23=>
  cl<|an (sS M23 0 (l:=[2,3]) (x:=12) rfl rfl) fun w24 M24=>
  ei (x:=.agg #[.int .i64 1,.int .u64 1,.int .u64 0,.int .u64 0,.int .u64 0,.int .u64 12,.int .u64 0,.int .u64 0,.int .u64 0,.bool false,.int .i64 1,.int .u32 17,.int .i64 0])<|an (bd (by kernel_rfl))<|
  fun g25 w25 M25=>
  cl<|an (sS M25 0 (l:=[0]) (x:=1) rfl rfl) fun w26 M26=>
  fun g27 w27 M27=>
  cl<|an (sS M27 0 (l:=[1]) (x:=2) rfl rfl) fun w28 M28=>
  ei (x:=.agg #[.int .i64 1,.int .u64 1,.int .u64 0,.int .u64 0,.int .u64 0,.int .u64 2,.int .u64 0,.int .u64 0,.int .u64 0,.bool false,.int .i64 0,.int .u32 2,.int .i64 0])<|an (bd (by kernel_rfl))<|
  fun g29 w29 M29=>
  cl<|an (sS M29 0 (l:=[1]) (x:=2) rfl rfl) fun w30 M30=>
  fun g31 w31 M31=>
  cl<|an (sS M31 0 (l:=[3]) (x:=8) rfl rfl) fun w32 M32=>
  ei (x:=.agg #[.int .i64 1,.int .u64 2,.int .u64 0,.int .u64 0,.int .u64 0,.int .u64 8,.int .u64 0,.int .u64 0,.int .u64 0,.bool false,.int .i64 1,.int .u32 32,.int .i64 0])<|an (bd (by kernel_rfl))<|
  fun g33 w33 M33=>
  cl<|an (sS M33 0 (l:=[1]) (x:=2) rfl rfl) fun w34 M34=>
  fun g35 w35 M35=>
  cl<|an (sS M35 0 (l:=[2]) (x:=4) rfl rfl) fun w36 M36=>
  ei (x:=.agg #[.int .i64 1,.int .u64 2,.int .u64 0,.int .u64 0,.int .u64 0,.int .u64 4,.int .u64 0,.int .u64 0,.int .u64 0,.bool false,.int .i64 1,.int .u32 1,.int .i64 1])<|an (bd (by kernel_rfl))<|
  fun UD w37 M37=>
  fun g38 w38 M38=>
  cl<|an (sS M38 0 (l:=[0]) (x:=1) rfl rfl) fun w39 M39=>
  fun g40 w40 M40=>
  cl<|an (sS M40 0 (l:=[3]) (x:=8) rfl rfl) fun w41 M41=>
  ei (x:=.agg #[.int .i64 1,.int .u64 1,.int .u64 0,.int .u64 0,.int .u64 0,.int .u64 8,.int .u64 0,.int .u64 0,.int .u64 0,.int .i64 0,.string ByteArray.empty,.int .i64 1,.int .i64 0])<|an (bd (by kernel_rfl))<|
  fun UC w42 M42=>
  cl<|an (KU w42) fun w43 M43=>
  ei (x:=.agg #[.string (⟨#[107,101,114,110,101,108]⟩),.int .i64 0,.int .i64 1,.int .i64 0,.int .i64 0,.int .u64 0,.int .i64 0,.int .u64 0])<|an (bd (by kernel_rfl))<|
  cl<|an (Ax w43) fun w44 M44=>
  ei (x:=.agg #[.string (⟨#[114,111,111,116]⟩),.int .i64 0,.int .i64 0,.int .i64 2,.int .i64 0,.int .u64 0,.int .i64 0,.int .u64 0])<|an (bd (by kernel_rfl))<|
  cl<|an (Ax w44) fun w45 M45=>
  ei (x:=.agg #[.string (⟨#[117,110,108,97,98,101,108,101,100]⟩),.int .i64 0,.int .i64 0,.int .i64 2,.int .i64 0,.int .u64 0,.int .i64 0,.int .u64 0])<|an (bd (by kernel_rfl))<|
  fun UA w46 M46=>
  ei (x:=.agg #[.slice (some ⟨g5,0,none⟩) 3 3,.slice (some ⟨g6,0,none⟩) 4 4,.slice (some ⟨g9,0,none⟩) 1 1,.slice (some ⟨g12,0,none⟩) 2 2,.slice (some ⟨g15,0,none⟩) 1 1,.slice (some ⟨g16,0,none⟩) 1 1,.slice (some ⟨g17,0,none⟩) 1 1,.slice none 0 0,.slice (some ⟨g18,0,none⟩) 1 1,.slice (some ⟨UD,0,none⟩) 5 5,.slice (some ⟨UC,0,none⟩) 1 1,.slice none 0 0,.slice none 0 0,.slice none 0 0,.slice (some ⟨UA,0,none⟩) 3 3,.slice none 0 0,.slice none 0 0])<|an (bd (by kernel_rfl))<|
  lb 28<|an ⟨rfl,rfl⟩ fun w M=>?_
 exact ei (x:=28)<|an rfl fun M=>⟨_,rfl,g2,g3,g4,g5,g6,g9,g12,g15,g16,g17,g18,UD,UC,UA,rfl,M.only (.cons_cons _<|(.cons_cons _<|(.cons _<|(.cons _<|(.cons_cons _<|(.cons _<|(.cons _<|(.cons _<|(.cons _<|(.cons _<|(.cons _<|(.cons _<|(.cons _<|(.cons _<|(.cons_cons _<|(.cons_cons _<|(.cons_cons _<|(.cons_cons _<|(.cons _<|(.cons_cons _<|(.cons _<|(.cons_cons _<|(.cons _<|(.cons_cons _<|(.cons_cons _<|(.cons_cons _<|(.cons_cons _<|(.cons_cons _<|(.cons _<|.refl []))))))))))))))))))))))))))))) (.refl _)⟩
def dW:aG:={ yI with rules:=[⟨1,⟨1,0,0,0⟩,⟨2,0,0,0⟩,false,1,1,0⟩,⟨1,⟨1,0,0,0⟩,⟨2,0,0,0⟩,false,1,2,0⟩,⟨1,⟨1,0,0,0⟩,⟨4,0,0,0⟩,false,1,3,0⟩,⟨1,⟨1,0,0,0⟩,⟨4,0,0,0⟩,false,1,1,1⟩] }
def Fv:aG:={ dW with rules:=dW.rules.take 3 }
def Bb:aG:={ dW with rules:=[⟨1,⟨1,0,0,0⟩,⟨6,0,0,0⟩,false,1,3,0⟩] }
def Fw:aG:={ Bb with conds:=[] }
theorem P8:tD dW=[3]:=by kernel_rfl
theorem WS:eY dW=dW:=by kernel_rfl
theorem NK:UQ (eY dW) (tE (eY dW))=Fv:=by kernel_rfl
theorem WR:vw Fv=Bb:=by kernel_rfl
theorem WQ:YP dW=Fw:=by kernel_rfl
theorem WO:pq dW Fw=true:=by kernel_rfl
instance (n:Nat):Decidable (oH n):=inferInstanceAs (Decidable (_≤_))
instance (s:ByteArray):Decidable (dX s):=inferInstanceAs (Decidable (_≤_))
instance (n:Int):Decidable (jq n):=inferInstanceAs (Decidable (_∧_))
instance (n:Int):Decidable (UJ n):=inferInstanceAs (Decidable (_∧_))
instance (n:Nat):Decidable (yq n):=inferInstanceAs (Decidable (_<_))
theorem ux:dW.Ok:=by
 repeat' (first|decide|refine List.forall_mem_cons.2 ⟨?_,?_⟩|exact List.forall_mem_nil _|constructor)
theorem I4:qg dW:=by
 repeat' (first|decide|refine List.forall_mem_cons.2 ⟨?_,?_⟩|exact List.forall_mem_nil _|constructor)
theorem P_:Fv.Ok:=by
 repeat' (first|decide|refine List.forall_mem_cons.2 ⟨?_,?_⟩|exact List.forall_mem_nil _|constructor)
theorem P9:qg Fv:=by
 repeat' (first|decide|refine List.forall_mem_cons.2 ⟨?_,?_⟩|exact List.forall_mem_nil _|constructor)
theorem Qc:Bb.Ok:=by
 repeat' (first|decide|refine List.forall_mem_cons.2 ⟨?_,?_⟩|exact List.forall_mem_nil _|constructor)
theorem Qb:qg Bb:=by
 repeat' (first|decide|refine List.forall_mem_cons.2 ⟨?_,?_⟩|exact List.forall_mem_nil _|constructor)
theorem Qa:Fw.Ok:=by
 repeat' (first|decide|refine List.forall_mem_cons.2 ⟨?_,?_⟩|exact List.forall_mem_nil _|constructor)
theorem I5(p:aG)(hb:p.bools=yI.bools)(hc:p.conds=yI.conds):∀ e∈p.conds,∃ d,d≤12∧jo d (dN p.bools e)∧(ct (dN p.bools e)).length≤5:=by
 rw[hb,hc];intro e he;obtain rfl:=aul.1 he;exact⟨1,by decide,.name (by kernel_rfl) (by decide),by decide +kernel⟩
theorem Uj:CdH dW:=⟨ux,I4,by decide,by decide,by repeat' (first|decide|refine List.forall_mem_cons.2 ⟨?_,?_⟩|exact List.forall_mem_nil _|constructor),by repeat' (first|decide|refine List.forall_mem_cons.2 ⟨?_,?_⟩|exact List.forall_mem_nil _|constructor),I5 _ rfl rfl,by decide,by decide⟩
theorem Qd:CdH Bb:=⟨Qc,Qb,by decide,by decide,by repeat' (first|decide|refine List.forall_mem_cons.2 ⟨?_,?_⟩|exact List.forall_mem_nil _|constructor),by repeat' (first|decide|refine List.forall_mem_cons.2 ⟨?_,?_⟩|exact List.forall_mem_nil _|constructor),I5 _ rfl rfl,by decide,by decide⟩
theorem wv(l:List Int):∀ u∈l.map jT,u.oneCell'=true:=fun u hu=>by
 obtain⟨y,-,rfl⟩:=auD.1 hu;rfl
theorem Xo{w0 w:World}{B:Nat}{bs:List Bx}{rs:List Rw}(M:bg B w0 w bs rs)(i:Nat){l:List Int}{s:au}{g:Nat}{t:TypeId}(hb:bs[i]?=some (g,t,(l.map jT).toArray))(hx:YQ l=s)(hn:l.length≤100:=by decide)(ht:Nat.blt t 9000=true:=by rfl):
 Calls Tryz.prog 66 #[.slice (some ⟨g,0,none⟩) l.length l.length] w fun r w'=>r=.returned (.agg #[.int .u64 s.a,.int .u64 s.b,.int .u64 s.c,.int .u64 s.d])∧auk w.heap.size w w':=by
 subst hx;exact RQ w _ l (M.slice i hb (by simp) (by rw[auG];exact fun u hu=>wv l u (by simpa using hu)) (by unfold maxLen;omega) ht)
theorem ofK{w w':World}{u:Value}{l:List Int}{s:au}(h:Ca w 3 l.length (l.map jT) u w')(hx:YQ l=s)(hn:l.length≤100:=by decide):
 Calls Tryz.prog 66 #[u] w' fun r w''=>r=.returned (.agg #[.int .u64 s.a,.int .u64 s.b,.int .u64 s.c,.int .u64 s.d])∧auk w'.heap.size w' w'':=by
 subst hx;obtain⟨g,rfl,hW,-⟩:=h;exact RQ w' _ l (SliceAt.zQ hW (by simp) (by rw[auG];exact fun u hu=>wv l u (by simpa using hu)) (by unfold maxLen;omega))
theorem WE{w w':World}{u:Value}{l:List Int}(h:Ca w 3 l.length (l.map jT) u w')(hn:l.length≤100:=by decide):SliceAt w' u 1 l.length (l.flatMap anyI):=by
 obtain⟨g,rfl,hW,-⟩:=h
 have e:l.flatMap anyI=l.map jT:=by
  clear hW hn
  induction l with
  | nil=>rfl
  | cons x r ih=>rw[List.flatMap_cons,ih];rfl
 rw[e];exact SliceAt.zQ hW (by simp) (by rw[auG];exact fun u hu=>wv l u (by simpa using hu)) (by unfold maxLen;omega)
theorem RowsIn.tail{B:Nat}{w:World}{r:Rw}{T:List Rw}(h:RowsIn B w (r::T)):RowsIn B w T:=⟨fun x hx=>h.1 x (auy _ hx),(List.pairwise_cons.1 h.2).2⟩
theorem KT(w0:World)(v v':Value)(a b:List Int)(ha:SliceAt w0 v 1 a.length (a.flatMap anyI))(hb:SliceAt w0 v' 1 b.length (b.flatMap anyI)):Calls Tryz.prog 28 #[v,v'] w0 fun r w'=>r=.returned (.bool (decide (a=b)))∧auk w0.heap.size w0 w':=by
 obtain⟨la,ka,rfl,-,hm,-⟩:=SliceAt.form ha (by decide);obtain⟨lb',kb,rfl,-⟩:=SliceAt.form hb (by decide);have no:a≠b→Ending.returned (kR [Value.bool false])=.returned (.bool (decide (a=b))):=fun h=>by rw[decide_eq_false h];rfl
 refine fL [] (fn:=Tryz.f28) Tryz.func28 rfl Tryz.ntmps28 rfl<|an (fun h M=>⟨no fun e=>by rw[e] at h;simp at h,M.below⟩) fun h=>lr (ι:=Nat) (fun m=>[(5,.int .i64 (m:Int))]) (fun m _=>m≤a.length∧a.take m=b.take m) (fun m=>a.length-m) 0 (an ⟨⟨rfl,trivial⟩,fun M=>⟨M,auu _,rfl⟩⟩ ?_)
 have hll:a.length=b.length:=Int.ofNat_inj.1 (by simpa using h);intro m w M ⟨hmm,ht⟩;refine an (fun h2=>?_) fun h2 M=>⟨?_,M.below⟩
 ·simp only[decide_eq_true_eq] at h2;obtain⟨x,y,b1,o1,b2,o2,hx,hy,⟨rfl,hc⟩,rfl,hc'⟩:=dL (f:=anyI) (fun _=>rfl) (by decide) ha hb rfl rfl (m:=m) (by omega) hll M.below;refine dr (by kernel_rfl)<|ia<|an ⟨rfl,rfl,by omega⟩<|lc<|an (hc 0 _ rfl)<|ia<|an ⟨rfl,rfl,by omega⟩<|lc<|an (hc' 0 _ rfl) fun w2 hb2 M2=>an (fun h3 M=>⟨no fun e=>?_,M.below⟩) fun h3=>an (by omega)<|bk (m+1) ⟨rfl,trivial⟩ (fun M=>⟨M,by omega,iW ht hx hy (by simpa using h3)⟩) (by dsimp only;omega)
  subst e;rw[hx] at hy;obtain rfl:=Option.some.inj hy;simp at h3
 ·simp only[decide_eq_false_iff_not] at h2;rw[decide_eq_true (oW ht hll (by omega))];rfl
theorem wz{B:Nat}{w0 w:World}{rs:List Rw}{rg h2 h3 h4 h5 h6 h9 h12 CS CR QD QC h37 h42 h46:Nat}(M:bg B w0 w ((rg,56,(dW.rules.flatMap ak.cells).toArray)::SB h2 h3 h4 h5 h6 h9 h12 CS CR QD QC h37 h42 h46) rs):aL w (.slice (some ⟨h5,0,none⟩) 3 3) (.slice (some ⟨h6,0,none⟩) 4 4) (.slice (some ⟨h9,0,none⟩) 1 1) (.slice (some ⟨h12,0,none⟩) 2 2) (.slice (some ⟨CS,0,none⟩) 1 1) (.slice (some ⟨CR,0,none⟩) 1 1) (.slice (some ⟨QD,0,none⟩) 1 1) (.slice none 0 0) (.slice (some ⟨QC,0,none⟩) 1 1) (.slice (some ⟨rg,0,none⟩) 4 4) (.slice (some ⟨h42,0,none⟩) 1 1) (.slice none 0 0) (.slice none 0 0) (.slice none 0 0) (.slice (some ⟨h46,0,none⟩) 3 3) (.slice none 0 0) (.slice none 0 0) dW:=
 have h:=J3 (M.only (.cons _ (.refl _)) (.refl _))
 ⟨h.classes,h.types,h.attrs,h.roles,h.users,h.bools,h.aV,h.cats,h.conds,M.slice 0 rfl rfl rfl (by simp[maxLen]),h.trans,h.aQ,h.ranges,h.cons,h.bP,h.files,h.asserts⟩
theorem Uh:RdH (eY dW):=by rw[WS];exact⟨ux,I4,by decide,by decide,by decide⟩
theorem Ug:RuH (UQ (eY dW) (tE (eY dW))):=by rw[NK];exact⟨P_,P9,by decide⟩
theorem Ui:CdH (vw (UQ (eY dW) (tE (eY dW)))):=by rw[NK,WR];exact Qd
theorem C_(w0:World):Calls Tryz.prog 21 #[] w0 fun r w'=>r=.returned (.bool true)∧auk w0.heap.size w0 w':=by
 refine fL [] (fn:=Tryz.f21) Tryz.func21 rfl Tryz.ntmps21 rfl<|cg<|an ((J4 w0).mono fun _ _ h=>h) fun v w1 hS=>?_
 obtain⟨h2,h3,h4,h5,h6,h9,h12,CS,CR,QD,QC,h37,h42,h46,rfl,hS⟩:=hS
 refine⟨_,_,hS,ei<|an oI fun q w2 M2=>lb 0<|an ⟨rfl,rfl⟩ fun w3 M3=>fun g4 w4 M4=>cl<|an (Xo M4 0 (l:=[0]) (s:=⟨1,0,0,0⟩) rfl rfl) fun w5 M5=>fun g6 w6 M6=>cl<|an (Xo M6 0 (l:=[1]) (s:=⟨2,0,0,0⟩) rfl rfl) fun w7 M7=>
  ei (x:=.agg #[.int .i64 1,.int .u64 1,.int .u64 0,.int .u64 0,.int .u64 0,.int .u64 2,.int .u64 0,.int .u64 0,.int .u64 0,.bool false,.int .i64 1,.int .u32 1,.int .i64 0])<|an (bd (by kernel_rfl))<|
  fun g8 w8 M8=>
  cl<|an (Xo M8 0 (l:=[0]) (s:=⟨1,0,0,0⟩) rfl rfl) fun w9 M9=>
  fun g10 xR sA=>
  cl<|an (Xo sA 0 (l:=[1]) (s:=⟨2,0,0,0⟩) rfl rfl) fun JJ M11=>
  ei (x:=.agg #[.int .i64 1,.int .u64 1,.int .u64 0,.int .u64 0,.int .u64 0,.int .u64 2,.int .u64 0,.int .u64 0,.int .u64 0,.bool false,.int .i64 1,.int .u32 2,.int .i64 0])<|an (bd (by kernel_rfl))<|
  fun g12 Mg Jg=>
  cl<|an (Xo Jg 0 (l:=[0]) (s:=⟨1,0,0,0⟩) rfl rfl) fun N_ zh=>
  fun g14 Ut Jf=>
  cl<|an (Xo Jf 0 (l:=[2]) (s:=⟨4,0,0,0⟩) rfl rfl) fun N9 FK=>
  ei (x:=.agg #[.int .i64 1,.int .u64 1,.int .u64 0,.int .u64 0,.int .u64 0,.int .u64 4,.int .u64 0,.int .u64 0,.int .u64 0,.bool false,.int .i64 1,.int .u32 3,.int .i64 0])<|an (bd (by kernel_rfl))<|
  fun g16 Xb LO=>
  cl<|an (Xo LO 0 (l:=[0]) (s:=⟨1,0,0,0⟩) rfl rfl) fun Xa W4=>
  fun g18 w18 WZ=>
  cl<|an (Xo WZ 0 (l:=[2]) (s:=⟨4,0,0,0⟩) rfl rfl) fun w19 Ya=>
  ei (x:=.agg #[.int .i64 1,.int .u64 1,.int .u64 0,.int .u64 0,.int .u64 0,.int .u64 4,.int .u64 0,.int .u64 0,.int .u64 0,.bool false,.int .i64 1,.int .u32 1,.int .i64 1])<|an (bd (by kernel_rfl))<|
  fun g20 w20 M20=>
  lb 9<|an ⟨rfl,rfl⟩ fun w M=>?_⟩
 have hP:=wz (M.only (.cons_cons _<|.cons _<|.cons _<|.cons _<|.cons _<|.cons _<|.cons _<|.cons _<|.cons _<|.cons _<|.refl _) (.refl _));refine lb 9<|an rfl<|cg<|an (DR _ _ _ _ _ _ _ _ _ _ _ _ _ _ _ _ _ _ dW hP Uj Uh Ug Ui) fun v2 w4 hO=>?_
 obtain⟨hG,hb⟩:=hO;rw[WQ] at hG;obtain⟨x0,n0,x1,n1,x2,n2,x3,n3,x4,n4,x5,n5,x6,n6,x7,n7,x8,n8,x9,n9,x10,n10,oF,n11,oD,n12,JG,n13,JF,n14,JE,n15,JD,n16,T,rfl,hT,hPO⟩:=hG;refine⟨_,T,M.fR hb hT,ei<|an oI fun q2 w5 M5=>lb 0<|an ⟨rfl,rfl⟩ fun w6 M6=>?_⟩;have adi:=qR w6 _ _ _ _ _ _ _ _ _ _ _ _ _ _ _ _ _ dW (wz (M6.only (.cons _ (.cons_cons _<|.cons _<|.cons _<|.cons _<|.cons _<|.cons _<|.cons _<|.cons _<|.cons _<|.cons _<|.refl _)) (.refl _))) ux (by decide) (by decide) (by decide);rw[P8] at adi;refine lb 10<|an rfl<|cw M6 adi fun u w7 M7=>?_
 obtain⟨ua,uc,rfl,-⟩:=M7.shape 0 rfl;have hO7:=hPO _ _ (RowsIn.tail M7.iE);obtain⟨ob,oo,rfl,hoc⟩:=SliceAt.elt hO7.rules (fun _=>rfl) (by decide) (i:=0) rfl (by decide)
 refine dr (by kernel_rfl)<|lb 0<|an rfl<|lb 0<|an (fun _=>rfl)<|ia (i:=0)<|an (fun _=>⟨rfl,rfl,by decide⟩)<|lc<|an (fun _=>hoc)<|
  br (Ca w7 3 1 [jT 0])<|an kZ<|an (fun _ w1 a o' hb M' hop ny=>bK (p:=fun _=>True) (kk:=1) (b:=8) (by kernel_rfl) rfl rfl (by decide) (by decide) (by simp[Value.cells]) rfl w1 a o' hb trivial hop ny)<|
  cu<|an (fun u h w' hb' M' hR=>ofK (l:=[0]) (s:=⟨1,0,0,0⟩) (hR h) rfl)<|
  br (Ca w7 3 2 [jT 1,jT 2])<|an kZ<|an (fun _ w1 a o' hb M' hop ny=>bK (p:=fun _=>True) (kk:=1) (b:=8) (by kernel_rfl) rfl rfl (by decide) (by decide) (by simp[Value.cells]) rfl w1 a o' hb trivial hop ny)<|
  cu<|an (fun u h w' hb' M' hR=>ofK (l:=[1,2]) (s:=⟨6,0,0,0⟩) (hR h) rfl)<|
  ei (x:=.agg #[.int .i64 1,.int .u64 1,.int .u64 0,.int .u64 0,.int .u64 0,.int .u64 6,.int .u64 0,.int .u64 0,.int .u64 0,.bool false,.int .i64 1,.int .u32 3,.int .i64 0])<|an (fun _=>bd (by kernel_rfl))<|
  ei<|an (fun _=>⟨aak,fun w=>Tw ⟨1,⟨1,0,0,0⟩,⟨6,0,0,0⟩,false,1,3,0⟩ ⟨1,⟨1,0,0,0⟩,⟨6,0,0,0⟩,false,1,3,0⟩ w⟩)<|
  lb 0<|an (fun _=>rfl)<|
  br (Ca w7 3 1 [jT 3])<|an kZ<|an (fun _ w1 a o' hb M' hop ny=>bK (p:=fun _=>True) (kk:=1) (b:=8) (by kernel_rfl) rfl rfl (by decide) (by decide) (by simp[Value.cells]) rfl w1 a o' hb trivial hop ny)<|
  cu<|an (fun u h w' hb' M' hR=>KT w' _ _ [3] [3] (by have h2:=SliceAt.bM (M'.r 0 rfl) (Hg [3]);exact h2) (WE (l:=[3]) (hR h)))<|
  lb 10<|an (fun _=>rfl)<|lb 0<|an (fun _=>rfl)<|cl<|an (fun _ w' hb' M'=>zI w' _ _ _ _ _ _ _ _ _ _ _ _ _ _ _ _ _ _ _ _ _ _ _ _ _ _ _ _ _ _ _ _ _ _ dW Fw (wz (M'.only (.cons _ (.cons_cons _<|.cons _<|.cons _<|.cons _<|.cons _<|.cons _<|.cons _<|.cons _<|.cons _<|.cons _<|.refl _)) (.refl _))) (hPO _ _ (RowsIn.tail M'.iE)) ux Qa (by decide) (by decide) (by decide) (by decide) (by decide) (by decide) (by decide) (by decide)) fun xR SR sA=>?_
 exact fun M=>⟨by rw[WO];rfl,M.below⟩
theorem lD{α:Type}{P:α→α→Bool}(h:∀ x,P x x=true):∀ l:List α,aq P l l=true
 | []=>rfl
 | x::l=>by show(P x x&&aq P l l)=true;rw[h,lD h l];rfl
mutual
theorem rE:∀ e:aA,dI e e=true
 | .node op a rel b names set kids=>by rw[dI];simp[aA.op,aA.a,aA.rel,aA.b,aA.set,aA.names,aA.kids,wS kids]
theorem wS:∀ l:List aA,mo l l=true
 | []=>by rw[mo]
 | x::l=>by rw[mo,rE x,wS l];rfl
end
theorem DI(p:aG):eO p p=true:=by
 unfold eO i_;rw[lD (P:=iJ) (fun x=>by simp[iJ]),lD (P:=iZ) (fun x=>by simp[iZ]),lD (P:=dI) rE,lD (P:=j_) (fun x=>by simp[j_,rE])];simp
theorem Oy{p:aG}(h:rz p):pq p p=true:=by
 rw[Cl h h];unfold Ms;rw[DI];simp
theorem Oi(w0:World)(c0 c1 c2 c3 c4 c5 c6 c7 c8 c9 aW aP aO aU aT aS aR d0 d1 d2 d3 d4 d5 d6 d7 d8 d9 ru q_ q8 q7 q6 q5 qZ:Value)(p q:aG)(hp:aL w0 c0 c1 c2 c3 c4 c5 c6 c7 c8 c9 aW aP aO aU aT aS aR p)(hq:aL w0 d0 d1 d2 d3 d4 d5 d6 d7 d8 d9 ru q_ q8 q7 q6 q5 qZ q)(hop:p.Ok)(hoq:q.Ok):
 Calls Tryz.prog 5 #[.agg #[c0,c1,c2,c3,c4,c5,c6,c7,c8,c9,aW,aP,aO,aU,aT,aS,aR],.agg #[d0,d1,d2,d3,d4,d5,d6,d7,d8,d9,ru,q_,q8,q7,q6,q5,qZ]] w0 fun r w'=>r=.returned (.bool true)∧auk w0.heap.size w0 w':=by
 refine fL [] (fn:=Tryz.f5) Tryz.func5 rfl Tryz.ntmps5 rfl fun g1 w1 M1=>fun g2 w2 M2=>lb 1<|an rfl<|cg<|an (Nk _ _ _ _ _ _ _ _ _ _ _ _ _ _ _ _ _ _ p (hp.keep M2.below) hop) fun v w3 hR=>?_
 obtain⟨⟨b1,rfl,hb1⟩,hB⟩:=hR;have M3:=M2.keep hB;refine⟨_,_,M3,lb 0<|an (fun _=>rfl)<|cg (R:=fun v w'=>(∃ b:Bool,v=.bool b∧(b=true→W8 q))∧auk w3.heap.size w3 w')<|an (fun _=>Nk _ _ _ _ _ _ _ _ _ _ _ _ _ _ _ _ _ _ q (hq.keep M3.below) hoq)<|an (fun _=>⟨.bool false,⟨false,rfl,fun h=>by cases h⟩,auk.refl _ _⟩) fun v w4 hR=>⟨_,_,M3.keep hR.2,?_⟩⟩;have M4:=M3.keep hR.2;obtain⟨⟨b2,rfl,hb2⟩,-⟩:=hR;refine an (fun h=>cl<|an (C_ _) fun w M=>fun M=>⟨rfl,M.below⟩) fun h=>?_
 have e1:b1=true:=by cases b1<;>cases b2<;>simp_all
 have e2:b2=true:=by cases b1<;>cases b2<;>simp_all
 have fp:=hb1 e1;have fq:=hb2 e2;obtain⟨tp,sp⟩:=Ik fp hop;obtain⟨tq,sq⟩:=Ik fq hoq;have zp:=fp.small.sizes;have zq:=fq.small.sizes;have same:∀ w,aL w c0 c1 c2 c3 c4 c5 c6 c7 c8 c9 aW aP aO aU aT aS aR p→aL w d0 d1 d2 d3 d4 d5 d6 d7 d8 d9 ru q_ q8 q7 q6 q5 qZ q→_:=fun w h1 h2=>zI w _ _ _ _ _ _ _ _ _ _ _ _ _ _ _ _ _ _ _ _ _ _ _ _ _ _ _ _ _ _ _ _ _ _ p q h1 h2 hop hoq (auC fp.bools (by decide)) (auC zp.conds (by decide)) (auC zp.trans (by decide)) (auC fq.bools (by decide)) (auC zq.conds (by decide)) (auC zq.trans (by decide)) (auC zp.rules (by decide)) (auC zq.rules (by decide))
 have self:∀ w,aL w c0 c1 c2 c3 c4 c5 c6 c7 c8 c9 aW aP aO aU aT aS aR p→_:=fun w h1=>zI w _ _ _ _ _ _ _ _ _ _ _ _ _ _ _ _ _ _ _ _ _ _ _ _ _ _ _ _ _ _ _ _ _ _ p p h1 h1 hop hop (auC fp.bools (by decide)) (auC zp.conds (by decide)) (auC zp.trans (by decide)) (auC fp.bools (by decide)) (auC zp.conds (by decide)) (auC zp.trans (by decide)) (auC zp.rules (by decide)) (auC zp.rules (by decide))
 refine dr (by kernel_rfl)<|lb 1<|an rfl<|lb 0<|an rfl<|cl<|an (fun w' hb' M'=>same w' (hp.keep M'.below) (hq.keep M'.below))<|lb 1<|an rfl<|lb 0<|an rfl<|cl<|an (fun w' hb' M'=>J5 w' _ _ _ _ _ _ _ _ _ _ _ _ _ _ _ _ _ _ _ _ _ _ _ _ _ _ _ _ _ _ _ _ _ _ p q (hp.keep M'.below) (hq.keep M'.below) sp sq (auC zp.trans (by decide)) (auC zq.trans (by decide)) (fun y hy=>(hop.trans y hy).cond) (fun y hy=>(hoq.trans y hy).cond))<|lb 1<|an (fun _=>rfl)<|lb 1<|an (fun _=>rfl)<|cl<|an (fun _ w' hb' M'=>self w' (hp.keep M'.below))<|cl<|an (fun _ w' hb' M'=>C_ w') fun xR SR sA=>?_
 exact fun M=>⟨by rw[Cl tp tq,Oy tp];simp[kR],M.below⟩
end Go.Proofs.YtdcofoaihmongaaGreat
namespace Go.Proofs.YtdcofoaihmongaaGreat
open Go
theorem dV{a b:Bool}(ha:a=true)(hb:b=true):(a&&b)=true:=by rw[ha,hb];rfl
theorem jp2:(mapsRowed Tryz.prog)=true:=by kernel_rfl
theorem jp6:((Tryz.prog.stops == []))=true:=by kernel_rfl
theorem jp8:((Tryz.prog.stopKnobs == []))=true:=by kernel_rfl
theorem agk:(Tryz.prog.stopsHeard)=true:=by kernel_rfl
theorem agj:(Tryz.prog.mayEnter)=true:=by kernel_rfl
end Go.Proofs.YtdcofoaihmongaaGreat

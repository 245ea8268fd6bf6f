import Derived.Test.YtdcofoaihmongaaGreatS4
open Bool renaming and_eq_true→as4
open Go renaming cell_later→atd
open Go.RowKit renaming Below→as2
open List renaming getElem?_eq_getElem→as5,mem_of_getElem?→as6,length_map→as7,getD_eq_getElem?_getD→as8,getElem?_map→as9,mem_cons→ata,getElem?_eq_some_iff→atb,take_length→atc,mem_cons_self→ate,mem_cons_of_mem→atf,length_append→atg,mem_append→ath,mem_map→ati,all_eq_true→atk,mem_singleton→atl
open Nat renaming zero_le→as3,le_trans→atj
open Option.some renaming inj→as_
set_option maxRecDepth 100000
set_option maxHeartbeats 8000000
namespace Go.Proofs.YtdcofoaihmongaaGreat
open Go Go.RowKit
def fO(f s t:dI)(k:Nat):dI:=if k/5=0 then f else if k/5=1 then s else t
theorem afr{P:Program}{a:Act}{w:World}{o:Oper}{ty yt:TypeId}{x y:Operand}{k:Nat}(hk:k<100)(ho:o.op=.binOp .quo ty x y yt)(hx:a.eval x=.int .i64 (k:Int))(hy:a.eval y=.int .i64 5):(execOp a.eval o).run P w=.ok (.value (.int .i64 ((k/5:Nat):Int))) w:=by
 rw[IC ho hx hy (by decide),Int.tdiv_eq_ediv_of_nonneg (by omega),show((k:Int)/5)=((k/5:Nat):Int) by omega,wrap_i64];constructor<;>omega
theorem r_(w0:World)(f s t:dI)(k:Nat)(hk:k<15):Calls Tryz.prog 277 #[.agg #[.int .i64 f.user,.int .i64 f.role,.int .i64 f.typ,.int .i64 f.rng.low.aC,.int .u64 f.rng.low.cats,.int .i64 f.rng.high.aC,.int .u64 f.rng.high.cats,.int .i64 s.user,.int .i64 s.role,.int .i64 s.typ,.int .i64 s.rng.low.aC,.int .u64 s.rng.low.cats,.int .i64 s.rng.high.aC,.int .u64 s.rng.high.cats,.int .i64 t.user,.int .i64 t.role,.int .i64 t.typ,.int .i64 t.rng.low.aC,.int .u64 t.rng.low.cats,.int .i64 t.rng.high.aC,.int .u64 t.rng.high.cats],.int .i64 (k:Int)] w0 (fun(r:Ending) (w':World)=>r=.returned (.tuple #[.agg #[.int .i64 (fO f s t k).user,.int .i64 (fO f s t k).role,.int .i64 (fO f s t k).typ,.int .i64 (fO f s t k).rng.low.aC,.int .u64 (fO f s t k).rng.low.cats,.int .i64 (fO f s t k).rng.high.aC,.int .u64 (fO f s t k).rng.high.cats],.int .i64 ((k%5:Nat):Int)])∧as2 w0.heap.size w0 w'):=by
 refine bX [] (fn:=Tryz.f277) Tryz.func277 rfl Tryz.ntmps277 rfl<|fun g1 w1 M1=>ei<|an sU fun g2 w2 M2=>ei<|an (fun a w o ho hv=>afr (k:=k) (by omega) ho (dJ hv) (dX hv))<|an (fun h=>?_) fun h=>an (fun h2=>?_) fun h2=>?_
 all_goals simp only[decide_eq_true_eq,decide_eq_false_iff_not] at *
 ·have hp:fO f s t k=f:=if_pos (by omega);rw[hp];exact lb 1<|an rfl<|lb 0<|an ⟨rfl,rfl⟩ fun w M=>ei (x:=0)<|an rfl fun M=>⟨congrArg (fun q:Int=>Ending.returned (.tuple #[_,.int .i64 q])) (show(k:Int)=((k%5:Nat):Int) by omega),M.below⟩
 ·have hp:fO f s t k=s:=by unfold fO;rw[if_neg (by omega),if_pos (by omega)]
  rw[hp];exact lb 1<|an rfl<|an (by omega)<|lb 0<|an ⟨rfl,rfl⟩ fun w M=>ei (x:=0)<|an rfl fun M=>⟨congrArg (fun q:Int=>Ending.returned (.tuple #[_,.int .i64 q])) (show(k:Int)-5=((k%5:Nat):Int) by omega),M.below⟩
 ·have hp:fO f s t k=t:=by unfold fO;rw[if_neg (by omega),if_neg (by omega)]
  rw[hp];exact lb 1<|an rfl<|an (by omega)<|lb 0<|an ⟨rfl,rfl⟩ fun w M=>ei (x:=0)<|an rfl fun M=>⟨congrArg (fun q:Int=>Ending.returned (.tuple #[_,.int .i64 q])) (show(k:Int)-10=((k%5:Nat):Int) by omega),M.below⟩
def KW(f s t:dI)(k:Nat):Int:=if k%5=0 then (fO f s t k).user else if k%5=1 then (fO f s t k).role else (fO f s t k).typ
theorem nO(w0:World)(f s t:dI)(k:Nat)(hk:k<15):Calls Tryz.prog 242 #[.agg #[.int .i64 f.user,.int .i64 f.role,.int .i64 f.typ,.int .i64 f.rng.low.aC,.int .u64 f.rng.low.cats,.int .i64 f.rng.high.aC,.int .u64 f.rng.high.cats,.int .i64 s.user,.int .i64 s.role,.int .i64 s.typ,.int .i64 s.rng.low.aC,.int .u64 s.rng.low.cats,.int .i64 s.rng.high.aC,.int .u64 s.rng.high.cats,.int .i64 t.user,.int .i64 t.role,.int .i64 t.typ,.int .i64 t.rng.low.aC,.int .u64 t.rng.low.cats,.int .i64 t.rng.high.aC,.int .u64 t.rng.high.cats],.int .i64 (k:Int)] w0 (fun(r:Ending) (w':World)=>r=.returned (.int .i64 (KW f s t k))∧as2 w0.heap.size w0 w'):=by
 have hN:∀ x,fO f s t k=x→KW f s t k=if k%5=0 then x.user else if k%5=1 then x.role else x.typ:=fun x hx=>by unfold KW;rw[hx]
 have hc:=fun w=>r_ w f s t k hk
 obtain⟨x,hx⟩:∃ x,fO f s t k=x:=⟨_,rfl⟩;rw[hx] at hc;rw[hN x hx];refine bX [] (fn:=Tryz.f242) Tryz.func242 rfl Tryz.ntmps242 rfl<|fun g1 w1 M1=>lb 0<|an rfl<|cl<|an (hc _) fun w2 M2=>ei<|an sU fun g2 w3 M3=>lb 0<|an ⟨rfl,rfl⟩ fun w4 M4=>an (fun h=>lb 0<|an rfl<|fun M=>⟨?_,M.below⟩) fun h=>an (fun h2=>lb 0<|an rfl<|fun M=>⟨?_,M.below⟩) fun h2=>lb 0<|an rfl<|fun M=>⟨?_,M.below⟩
 all_goals simp only[decide_eq_true_eq,decide_eq_false_iff_not] at *
 ·rw[if_pos (by omega)];rfl
 ·rw[if_neg (by omega),if_pos (by omega)];rfl
 ·rw[if_neg (by omega),if_neg (by omega)];rfl
def Cp(f s t:dI)(k:Nat):lM:=if k%5=4 then (fO f s t k).rng.high else (fO f s t k).rng.low
def ad5(rel:Int)(l m:lM):Bool:=if rel=0 then uD l.aC l.cats m.aC m.cats&&uD m.aC m.cats l.aC l.cats else if rel=1 then !uD l.aC l.cats m.aC m.cats||!uD m.aC m.cats l.aC l.cats else if rel=2 then uD l.aC l.cats m.aC m.cats else if rel=3 then uD m.aC m.cats l.aC l.cats else !uD l.aC l.cats m.aC m.cats&&!uD m.aC m.cats l.aC l.cats
def I_(f s t:dI)(a b:Nat)(rel:Int):Bool:=if a%5<3 then decide (KW f s t a=KW f s t b) == decide (rel=0) else ad5 rel (Cp f s t a) (Cp f s t b)
theorem Cz(w0:World)(f s t:dI)(e:aq)(cs:List Value)(hE:bh w0 cs e)(a b:Nat)(ha:e.a=(a:Int))(hb:e.b=(b:Int))(ha2:a<15)(hb2:b<15):Calls Tryz.prog 241 #[.agg cs.toArray,.agg #[.int .i64 f.user,.int .i64 f.role,.int .i64 f.typ,.int .i64 f.rng.low.aC,.int .u64 f.rng.low.cats,.int .i64 f.rng.high.aC,.int .u64 f.rng.high.cats,.int .i64 s.user,.int .i64 s.role,.int .i64 s.typ,.int .i64 s.rng.low.aC,.int .u64 s.rng.low.cats,.int .i64 s.rng.high.aC,.int .u64 s.rng.high.cats,.int .i64 t.user,.int .i64 t.role,.int .i64 t.typ,.int .i64 t.rng.low.aC,.int .u64 t.rng.low.cats,.int .i64 t.rng.high.aC,.int .u64 t.rng.high.cats]] w0 (fun(r:Ending) (w':World)=>r=.returned (.bool (I_ f s t a b e.rel))∧as2 w0.heap.size w0 w'):=by
 obtain⟨nv,kv,rfl,hn,hkk⟩:=hE.open;obtain⟨_,_,rfl,-⟩:=aH.get hn;obtain⟨_,_,rfl,-⟩:=ak.form hkk (by decide);rw[ha,hb];refine bX [] (fn:=Tryz.f241) Tryz.func241 rfl Tryz.ntmps241 rfl<|fun g1 w1 M1=>fun g2 w2 M2=>lb 1<|an rfl<|ei<|an (fun a w o ho hv=>Zu (Int.natCast_nonneg _) ho (dJ hv) (dX hv))<|an (fun h=>?_) fun h=>?_
 ·have h:a%5<3:=by simp only[decide_eq_true_eq,Int.toNat_natCast] at h;omega
  unfold I_;rw[if_pos h];refine dr (by kernel_rfl)<|lb 0<|an rfl<|lb 1<|an rfl<|cl<|an (fun w' hb' M'=>nO w' f s t a ha2)<|lb 0<|an rfl<|lb 1<|an rfl<|cl<|an (fun w' hb' M'=>nO w' f s t b hb2)<|lb 1<|an rfl<|fun w3 zu M3=>fun M=>⟨?_,M.below⟩
  rfl
 have h:¬ a%5<3:=by simp only[decide_eq_false_iff_not,Int.toNat_natCast] at h;omega
 unfold I_;rw[if_neg h];refine ei<|an abM fun g3 w5 M5=>lp (ι:=Nat×lM×lM) (fun(m,l,k)=>[(6,.int .i64 (m:Int))]) (fun(m,l,k)=>(g3,344,#[.int .i64 l.aC,.int .u64 l.cats,.int .i64 k.aC,.int .u64 k.cats])::_) (fun _=>[]) (fun(m,l,k) _=>m≤2∧(1≤m→l=Cp f s t a)∧(2≤m→k=Cp f s t b)) (fun(m,l,k)=>2-m) (0,⟨0,0⟩,⟨0,0⟩) (an ⟨⟨rfl,trivial⟩,fun M=>⟨M,as3 _,(fun h=>absurd h (by decide)),fun h=>absurd h (by decide)⟩⟩ ?_)
 rintro⟨m,l,k⟩ w M ⟨hm,h1,h2⟩;refine an (fun h3=>?_) fun h3=>?_
 ·have hlt:m<2:=by simp at h3;omega
  obtain rfl|rfl:m=0∨m=1:=by omega
  ·have hc:=fun w=>r_ w f s t a ha2
   have wg:∀ x,fO f s t a=x→Cp f s t a=if a%5=4 then x.rng.high else x.rng.low:=fun x hx=>by unfold Cp;rw[hx]
   obtain⟨x,hx⟩:∃ x,fO f s t a=x:=⟨_,rfl⟩;rw[hx] at hc;have wg:=wg x hx;refine spk [(8,41,.int .i64 (a:Int)),(9,42,.tuple #[.agg #[.int .i64 x.user,.int .i64 x.role,.int .i64 x.typ,.int .i64 x.rng.low.aC,.int .u64 x.rng.low.cats,.int .i64 x.rng.high.aC,.int .u64 x.rng.high.cats],.int .i64 ((a%5:Nat):Int)])] [0,1,2,3,4,6,10,11,12] (.alt (.step 13 (.step 5 (.step 7 (.step 8 (.step 9 (.step 14 (.step 15 .done))))))) (.step 5 (.alt (.step 13 (.step 7 (.step 8 (.step 9 (.step 14 (.step 15 .done)))))) (.step 7 (.alt (.step 13 (.step 8 (.step 9 (.step 14 (.step 15 .done))))) (.step 8 (.alt (.step 13 (.step 9 (.step 14 (.step 15 .done)))) (.step 9 (.step 13 (.step 14 (.step 15 .done))))))))))) [0,1] (by rfl) (by kernel_rfl)<|lb 1<|an rfl<|lb 0<|an rfl<|lb 0<|an rfl<|fun w6 N_ M6=>an (ei<|an sU fun gx wx Mx=>an rfl<|fun ga wa Ma=>an rfl<|ia<|an ⟨rfl,rfl,by decide⟩<|an rfl<|lb 0<|an rfl<|an rfl<|an rfl<|cl<|an (hc _) fun wb Mb=>an rfl<|an rfl<|lb 1<|an ⟨rfl,rfl⟩ fun wc Mc=>an rfl<|an rfl<|?_) (fun ga wa Ma=>an rfl<|an (ei<|an sU fun gx wx Mx=>an rfl<|ia<|an ⟨rfl,rfl,by decide⟩<|an rfl<|lb 1<|an rfl<|an rfl<|an rfl<|cl<|an (hc _) fun wb Mb=>an rfl<|an rfl<|lb 0<|an ⟨rfl,rfl⟩ fun wc Mc=>an rfl<|an rfl<|?_) (ia<|an ⟨rfl,rfl,by decide⟩<|an rfl<|an (ei<|an sU fun gx wx Mx=>an rfl<|lb 1<|an rfl<|an rfl<|an rfl<|cl<|an (hc _) fun wb Mb=>an rfl<|an rfl<|lb 0<|an ⟨rfl,rfl⟩ fun wc Mc=>an rfl<|an rfl<|?_) (lb 0<|an rfl<|an rfl<|an rfl<|an (ei<|an sU fun gx wx Mx=>an rfl<|cl<|an (hc _) fun wb Mb=>an rfl<|an rfl<|lb 0<|an ⟨rfl,rfl⟩ fun wc Mc=>an rfl<|an rfl<|?_) (cl<|an (hc _) fun wb Mb=>an rfl<|an rfl<|ei<|an sU fun gx wx Mx=>an rfl<|lb 0<|an ⟨rfl,rfl⟩ fun wc Mc=>an rfl<|an rfl<|?_))))
   all_goals first|exact lb 1<|an rfl<|ei<|an ⟨rfl,by decide⟩<|lb 2<|an ⟨rfl,rfl⟩ fun w M=>an (fun h4=>lb 1<|an rfl<|ei<|an ⟨rfl,by decide⟩<|lb 2<|an ⟨rfl,rfl⟩ fun w M=>an (by omega)<|bk (1,x.rng.high,k) ⟨rfl,trivial⟩ (fun M=>⟨M.only (.cons _ (.cons _ (.refl _))) (.refl _),by omega,(fun _=>by rw[wg,if_pos (by simp only[decide_eq_true_eq] at h4;omega)]),fun h=>absurd h (by decide)⟩) (by dsimp only;omega)) fun h4=>an (by omega)<|bk (1,x.rng.low,k) ⟨rfl,trivial⟩ (fun M=>⟨M.only (.cons _ (.cons _ (.refl _))) (.refl _),by omega,(fun _=>by rw[wg,if_neg (by simp only[decide_eq_false_iff_not] at h4;omega)]),fun h=>absurd h (by decide)⟩) (by dsimp only;omega)|exact lb 0<|an rfl<|ei<|an ⟨rfl,by decide⟩<|lb 2<|an ⟨rfl,rfl⟩ fun w M=>an (fun h4=>lb 0<|an rfl<|ei<|an ⟨rfl,by decide⟩<|lb 2<|an ⟨rfl,rfl⟩ fun w M=>an (by omega)<|bk (1,x.rng.high,k) ⟨rfl,trivial⟩ (fun M=>⟨M.only (.cons _ (.cons _ (.refl _))) (.refl _),by omega,(fun _=>by rw[wg,if_pos (by simp only[decide_eq_true_eq] at h4;omega)]),fun h=>absurd h (by decide)⟩) (by dsimp only;omega)) fun h4=>an (by omega)<|bk (1,x.rng.low,k) ⟨rfl,trivial⟩ (fun M=>⟨M.only (.cons _ (.cons _ (.refl _))) (.refl _),by omega,(fun _=>by rw[wg,if_neg (by simp only[decide_eq_false_iff_not] at h4;omega)]),fun h=>absurd h (by decide)⟩) (by dsimp only;omega)
  ·have hc:=fun w=>r_ w f s t b hb2
   have wg:∀ x,fO f s t b=x→Cp f s t b=if b%5=4 then x.rng.high else x.rng.low:=fun x hx=>by unfold Cp;rw[hx]
   obtain⟨x,hx⟩:∃ x,fO f s t b=x:=⟨_,rfl⟩;rw[hx] at hc;have wg:=wg x hx;refine spk [(8,41,.int .i64 (b:Int)),(9,42,.tuple #[.agg #[.int .i64 x.user,.int .i64 x.role,.int .i64 x.typ,.int .i64 x.rng.low.aC,.int .u64 x.rng.low.cats,.int .i64 x.rng.high.aC,.int .u64 x.rng.high.cats],.int .i64 ((b%5:Nat):Int)])] [0,1,2,3,4,6,10,11,12] (.alt (.step 13 (.step 5 (.step 7 (.step 8 (.step 9 (.step 14 (.step 15 .done))))))) (.step 5 (.alt (.step 13 (.step 7 (.step 8 (.step 9 (.step 14 (.step 15 .done)))))) (.step 7 (.alt (.step 13 (.step 8 (.step 9 (.step 14 (.step 15 .done))))) (.step 8 (.alt (.step 13 (.step 9 (.step 14 (.step 15 .done)))) (.step 9 (.step 13 (.step 14 (.step 15 .done))))))))))) [0,1] (by rfl) (by kernel_rfl)<|lb 1<|an rfl<|lb 0<|an rfl<|lb 0<|an rfl<|fun w6 N_ M6=>an (ei<|an sU fun gx wx Mx=>an rfl<|fun ga wa Ma=>an rfl<|ia<|an ⟨rfl,rfl,by decide⟩<|an rfl<|lb 0<|an rfl<|an rfl<|an rfl<|cl<|an (hc _) fun wb Mb=>an rfl<|an rfl<|lb 1<|an ⟨rfl,rfl⟩ fun wc Mc=>an rfl<|an rfl<|?_) (fun ga wa Ma=>an rfl<|an (ei<|an sU fun gx wx Mx=>an rfl<|ia<|an ⟨rfl,rfl,by decide⟩<|an rfl<|lb 1<|an rfl<|an rfl<|an rfl<|cl<|an (hc _) fun wb Mb=>an rfl<|an rfl<|lb 0<|an ⟨rfl,rfl⟩ fun wc Mc=>an rfl<|an rfl<|?_) (ia<|an ⟨rfl,rfl,by decide⟩<|an rfl<|an (ei<|an sU fun gx wx Mx=>an rfl<|lb 1<|an rfl<|an rfl<|an rfl<|cl<|an (hc _) fun wb Mb=>an rfl<|an rfl<|lb 0<|an ⟨rfl,rfl⟩ fun wc Mc=>an rfl<|an rfl<|?_) (lb 0<|an rfl<|an rfl<|an rfl<|an (ei<|an sU fun gx wx Mx=>an rfl<|cl<|an (hc _) fun wb Mb=>an rfl<|an rfl<|lb 0<|an ⟨rfl,rfl⟩ fun wc Mc=>an rfl<|an rfl<|?_) (cl<|an (hc _) fun wb Mb=>an rfl<|an rfl<|ei<|an sU fun gx wx Mx=>an rfl<|lb 0<|an ⟨rfl,rfl⟩ fun wc Mc=>an rfl<|an rfl<|?_))))
   all_goals first|exact lb 1<|an rfl<|ei<|an ⟨rfl,by decide⟩<|lb 2<|an ⟨rfl,rfl⟩ fun w M=>an (fun h4=>lb 1<|an rfl<|ei<|an ⟨rfl,by decide⟩<|lb 2<|an ⟨rfl,rfl⟩ fun w M=>an (by omega)<|bk (2,l,x.rng.high) ⟨rfl,trivial⟩ (fun M=>⟨M.only (.cons _ (.cons _ (.refl _))) (.refl _),by omega,(fun _=>h1 (by decide)),fun _=>by rw[wg,if_pos (by simp only[decide_eq_true_eq] at h4;omega)]⟩) (by dsimp only;omega)) fun h4=>an (by omega)<|bk (2,l,x.rng.low) ⟨rfl,trivial⟩ (fun M=>⟨M.only (.cons _ (.cons _ (.refl _))) (.refl _),by omega,(fun _=>h1 (by decide)),fun _=>by rw[wg,if_neg (by simp only[decide_eq_false_iff_not] at h4;omega)]⟩) (by dsimp only;omega)|exact lb 0<|an rfl<|ei<|an ⟨rfl,by decide⟩<|lb 2<|an ⟨rfl,rfl⟩ fun w M=>an (fun h4=>lb 0<|an rfl<|ei<|an ⟨rfl,by decide⟩<|lb 2<|an ⟨rfl,rfl⟩ fun w M=>an (by omega)<|bk (2,l,x.rng.high) ⟨rfl,trivial⟩ (fun M=>⟨M.only (.cons _ (.cons _ (.refl _))) (.refl _),by omega,(fun _=>h1 (by decide)),fun _=>by rw[wg,if_pos (by simp only[decide_eq_true_eq] at h4;omega)]⟩) (by dsimp only;omega)) fun h4=>an (by omega)<|bk (2,l,x.rng.low) ⟨rfl,trivial⟩ (fun M=>⟨M.only (.cons _ (.cons _ (.refl _))) (.refl _),by omega,(fun _=>h1 (by decide)),fun _=>by rw[wg,if_neg (by simp only[decide_eq_false_iff_not] at h4;omega)]⟩) (by dsimp only;omega)
 ·obtain rfl:m=2:=by simp at h3;omega
  obtain rfl:=h1 (by decide);obtain rfl:=h2 (Nat.le_refl _);generalize Cp f s t a=l;generalize Cp f s t b=k;unfold ad5;refine dr (by kernel_rfl)<|ei (x:=0)<|an ⟨rfl,by decide⟩<|lb 0<|an rfl<|ei (x:=1)<|an ⟨rfl,by decide⟩<|lb 0<|an rfl<|cl<|an (fun w' hb' M'=>nj w' l.aC l.cats k.aC k.cats)<|ei (x:=1)<|an ⟨rfl,by decide⟩<|lb 0<|an rfl<|ei (x:=0)<|an ⟨rfl,by decide⟩<|lb 0<|an rfl<|cl<|an (fun w' hb' M'=>nj w' k.aC k.cats l.aC l.cats)<|fun w6 N_ M6=>?_
  generalize uD l.aC l.cats k.aC k.cats=up;generalize uD k.aC k.cats l.aC l.cats=down;refine lb 2<|an rfl<|an (fun r0 M=>⟨?_,M.below⟩) fun r0=>an (fun r1 M=>⟨?_,M.below⟩) fun r1=>an (fun r2 M=>⟨?_,M.below⟩) fun r2=>an (fun r3 M=>⟨?_,M.below⟩) fun r3 M=>⟨?_,M.below⟩
  all_goals simp only[decide_eq_true_eq,decide_eq_false_iff_not] at *
  ·rw[if_pos r0];rfl
  ·rw[if_neg r0,if_pos r1];rfl
  ·rw[if_neg r0,if_neg r1,if_pos r2];rfl
  ·rw[if_neg r0,if_neg r1,if_neg r2,if_pos r3];rfl
  ·rw[if_neg r0,if_neg r1,if_neg r2,if_neg r3];rfl
inductive wO:aq→Prop
 | node {op a rel b:Int} {names:List ByteArray} {set:ay} {kids:List aq}:(op=8→(0≤a∧a<15)∧0≤b∧b<15)→(op=9→0≤a∧a<15)→set.Ok→(∀ k∈kids,wO k)→wO (.node op a rel b names set kids)
theorem wO.parts{e:aq}(h:wO e):(e.op=8→(0≤e.a∧e.a<15)∧0≤e.b∧e.b<15)∧(e.op=9→0≤e.a∧e.a<15)∧e.set.Ok∧∀ k∈e.kids,wO k:=by
 cases h with|node h1 h2 h3 h4=>exact⟨h1,h2,h3,h4⟩
def A9(f s t:dI)(op a rel b:Int)(set:ay)(l:List Bool):Bool:=
 if op=8 then I_ f s t a.toNat b.toNat rel else if op=9 then set.mem (KW f s t a.toNat) else if op=2∧l.length=1 then !(l.getD 0 false) else if l.length≠2 then false
 else if op=3 then l.getD 0 false&&l.getD 1 false else decide (op=4)&&(l.getD 0 false||l.getD 1 false)
mutual
def gG(f s t:dI):aq→Bool
 | .node op a rel b _ set kids=>A9 f s t op a rel b set (Dn f s t kids)
def Dn(f s t:dI):List aq→List Bool
 | []=>[]
 | k::l=>gG f s t k::Dn f s t l
end
theorem ng(f s t:dI)(e:aq):gG f s t e=A9 f s t e.op e.a e.rel e.b e.set (Dn f s t e.kids):=by cases e;rw[gG];rfl
theorem Dm(f s t:dI):∀ l,Dn f s t l=l.map (gG f s t)
 | []=>by rw[Dn];rfl
 | k::l=>by rw[Dn,List.map_cons,Dm f s t l]
theorem LG(f s t:dI):∀ (e:aq) (w0:World) (cs:List Value),bh w0 cs e→wO e→Calls Tryz.prog 188 #[.agg cs.toArray,.agg #[.int .i64 f.user,.int .i64 f.role,.int .i64 f.typ,.int .i64 f.rng.low.aC,.int .u64 f.rng.low.cats,.int .i64 f.rng.high.aC,.int .u64 f.rng.high.cats,.int .i64 s.user,.int .i64 s.role,.int .i64 s.typ,.int .i64 s.rng.low.aC,.int .u64 s.rng.low.cats,.int .i64 s.rng.high.aC,.int .u64 s.rng.high.cats,.int .i64 t.user,.int .i64 t.role,.int .i64 t.typ,.int .i64 t.rng.low.aC,.int .u64 t.rng.low.cats,.int .i64 t.rng.high.aC,.int .u64 t.rng.high.cats]] w0 (fun(r:Ending) (w':World)=>r=.returned (.bool (gG f s t e))∧as2 w0.heap.size w0 w'):=by
 refine aq.ind fun e ih=>?_
 intro w0 cs hE hH;obtain⟨p8,p9,ps,pk⟩:=hH.parts;have hE0:=hE;obtain⟨_,_,rfl,hn,hkk⟩:=hE0.open;obtain⟨_,_,rfl,-⟩:=aH.get hn;obtain⟨_,_,rfl,-⟩:=ak.form hkk (by decide);have hm:=Dm f s t e.kids;refine bX [] (fn:=Tryz.f188) Tryz.func188 rfl Tryz.ntmps188 rfl<|fun g1 w1 M1=>fun g2 w2 M2=>lb 1<|an rfl<|an (fun h=>?_) fun h=>?_
 ·have h1:e.op=8:=by simpa using h
  obtain⟨⟨a1,a2⟩,b1,b2⟩:=p8 h1;have hv:gG f s t e=I_ f s t e.a.toNat e.b.toNat e.rel:=by rw[ng,A9,if_pos h1]
  rw[hv];exact lb 1<|an rfl<|lb 0<|an rfl<|cl<|an (Cz _ f s t e _ (hE.keep M2.below) e.a.toNat e.b.toNat (by omega) (by omega) (by omega) (by omega)) fun w3 M3=>fun M=>⟨rfl,M.below⟩
 have h1:e.op≠8:=by simpa using h
 refine lb 1<|an rfl<|an (fun h=>?_) fun h=>?_
 ·have h2:e.op=9:=by simpa using h
  obtain⟨a1,a2⟩:=p9 h2;have hv:gG f s t e=e.set.mem (KW f s t e.a.toNat):=by rw[ng,A9,if_neg h1,if_pos h2]
  rw[hv];obtain⟨k,hk⟩:∃ k:Nat,e.a=(k:Int):=⟨e.a.toNat,by omega⟩;rw[hk,Int.toNat_natCast];exact dr (by kernel_rfl)<|lb 1<|an rfl<|lb 0<|an rfl<|lb 1<|an rfl<|cl<|an (fun w' hb' M'=>nO w' f s t k (by omega))<|cl<|an (fun w' hb' M'=>kK w' e.set ps _)<|fun w3 zu M3=>fun M=>⟨rfl,M.below⟩
 have h2:e.op≠9:=by simpa using h
 refine lb 1<|an rfl<|lb 1<|an (fun _=>rfl)<|an (fun h=>?_) fun h=>?_
 ·obtain⟨h3,h4⟩:e.op=2∧e.kids.length=1:=by
   simp only[as4,decide_eq_true_eq] at h;omega
  obtain⟨y,hy⟩:∃ y,e.kids[0]?=some y:=⟨_,as5 (by omega)⟩;have sR:=as6 hy;obtain⟨b,o,_,e1,rz,hc⟩:=ak.elt hkk (by decide) hy;obtain⟨_,_,rfl,-⟩:=rz.open;have hv:gG f s t e=!gG f s t y:=by rw[ng f s t e,A9,if_neg h1,if_neg h2,hm,if_pos ⟨h3,by rw[as7];exact h4⟩,as8,as9,hy];rfl
  rw[hv];exact dr (by kernel_rfl)<|lb 1<|an rfl<|ia (i:=0)<|an ⟨e1,rfl,by omega⟩<|lc<|an (cG M2.below hc)<|lb 0<|an rfl<|cl<|an (fun w' hb' M'=>ih y sR w' _ (rz.keep M'.below) (pk y sR))<|fun w3 zu M3=>fun M=>⟨rfl,M.below⟩
 have h3:¬ (e.op=2∧e.kids.length=1):=by
  simp only[Bool.and_eq_false_iff,decide_eq_false_iff_not] at h;omega
 refine lb 1<|an rfl<|an (fun h M=>⟨?_,M.below⟩) fun h=>?_
 ·have h4:e.kids.length≠2:=by
   intro h5;rw[h5] at h;simp at h
  rw[ng,A9,if_neg h1,if_neg h2,hm,if_neg (by rw[as7];exact h3),if_pos (by rw[as7];exact h4)];rfl
 have h4:e.kids.length=2:=by simp at h;omega
 obtain⟨y,hy⟩:∃ y,e.kids[0]?=some y:=⟨_,as5 (by omega)⟩;have sR:=as6 hy;obtain⟨b,o,_,e1,rz,hc⟩:=ak.elt hkk (by decide) hy;obtain⟨_,_,rfl,-⟩:=rz.open;obtain⟨z,hz⟩:∃ z,e.kids[1]?=some z:=⟨_,as5 (by omega)⟩;have Vw:=as6 hz;obtain⟨bz,oz,_,e2,Rs,hcz⟩:=ak.elt hkk (by decide) hz;obtain⟨_,_,rfl,-⟩:=Rs.open
 have hv:gG f s t e=if e.op=3 then gG f s t y&&gG f s t z else decide (e.op=4)&&(gG f s t y||gG f s t z):=by
  rw[ng f s t e,A9,if_neg h1,if_neg h2,hm,if_neg (by rw[as7];exact h3),if_neg (by rw[as7];exact fun h=>h h4),as8,as8,as9,as9,hy,hz];rfl
 rw[hv];refine lb 1<|an rfl<|an (fun h=>?_) fun h=>?_
 ·rw[if_pos (show e.op=3 by simpa using h)];exact dr (by kernel_rfl)<|lb 1<|an rfl<|ia (i:=0)<|an ⟨e1,rfl,by omega⟩<|lc<|an (cG M2.below hc)<|lb 0<|an rfl<|cl<|an (fun w' hb' M'=>ih y sR w' _ (rz.keep M'.below) (pk y sR))<|lb 1<|an (fun _=>rfl)<|ia (i:=1)<|an (fun _=>⟨e2,rfl,by omega⟩)<|lc<|an (fun _=>cG M2.below hcz)<|lb 0<|an (fun _=>rfl)<|cl<|an (fun _ w' hb' M'=>ih z Vw w' _ (Rs.keep M'.below) (pk z Vw))<|fun w3 zu M3=>fun M=>⟨rfl,M.below⟩
 ·rw[if_neg (show e.op≠3 by simpa using h)];exact dr (by kernel_rfl)<|lb 1<|an rfl<|lb 1<|an (fun _=>rfl)<|ia (i:=0)<|an (fun _=>⟨e1,rfl,by omega⟩)<|lc<|an (fun _=>cG M2.below hc)<|lb 0<|an (fun _=>rfl)<|cl<|an (fun _ w' hb' M'=>ih y sR w' _ (rz.keep M'.below) (pk y sR))<|lb 1<|an (fun _=>rfl)<|ia (i:=1)<|an (fun _=>⟨e2,rfl,by omega⟩)<|lc<|an (fun _=>cG M2.below hcz)<|lb 0<|an (fun _=>rfl)<|cl<|an (fun _ w' hb' M'=>ih z Vw w' _ (Rs.keep M'.below) (pk z Vw))<|fun w3 zu M3=>fun M=>⟨rfl,M.below⟩
def I7(nU nR nT:Nat)(cl:List iB)(y:nA):Int:=
 if eS cl y.cls y.perms=false then 3 else if ¬ y.val=decide (y.perms=0) then 2 else eO nU nR nT y.val y.expr
def E3(p:aA)(i:Nat):Int:=match p.cons[i]? with
 | some y=>I7 p.users.length p.roles.length p.types.length p.classes y
 | none=>0
def qv(p:aA):Int:=if 64<p.cons.length then 4 else aG (E3 p) p.cons.length 0
theorem yG(w:World)(c0 c1 c2 c3 c4 c5 c6 c7 c8 c9 aS aN aM aR aQ aP aO:Value)(p:aA)(hp:aJ w c0 c1 c2 c3 c4 c5 c6 c7 c8 c9 aS aN aM aR aQ aP aO p)(hok:p.Ok):Calls Tryz.prog 49 #[.agg #[c0,c1,c2,c3,c4,c5,c6,c7,c8,c9,aS,aN,aM,aR,aQ,aP,aO]] w fun e w'=>e=.returned (.int .i64 (qv p))∧as2 w.heap.size w w':=by
 obtain⟨_,_,_,_,_,_,_,_,_,_,_,_,_,_,_,_,_,_,_,_,_,_,_,_,_,_,_,_,_,_,_,_,_,_,rfl,rfl,rfl,rfl,rfl,rfl,rfl,rfl,rfl,rfl,rfl,rfl,rfl,rfl,rfl,rfl,rfl⟩:=hp.open;refine bX [] (fn:=Tryz.f49) Tryz.func49 rfl Tryz.ntmps49 rfl<|fun g1 w1 M1=>lb 0<|an rfl<|an (fun h M=>⟨ri (by unfold qv;rw[if_pos (by simp at h;omega)]),M.below⟩) fun h=>?_
 have hr:¬ 64<p.cons.length:=by simp at h;omega
 rw[show qv p=aG (E3 p) p.cons.length 0 from if_neg hr];refine lr (ι:=Nat) (fun m=>[(3,.int .i64 (m:Int))]) (fun m _=>m≤p.cons.length∧aG (E3 p) p.cons.length 0=aG (E3 p) (p.cons.length-m) m) (fun m=>p.cons.length-m) 0 (an ⟨⟨rfl,trivial⟩,fun M=>⟨M,as3 _,by rw[Nat.sub_zero]⟩⟩ ?_);rintro m w2 M ⟨hm,hinv⟩;refine lb 0<|an rfl<|an (fun h2=>?_) fun h2 M=>⟨ri (by rw[hinv,show m=p.cons.length by simp at h2;omega,bY]),M.below⟩
 have hlt:m<p.cons.length:=by simp at h2;omega
 obtain⟨y,hy⟩:∃ y,p.cons[m]?=some y:=⟨_,as5 hlt⟩;have pU:=hok.cons y (as6 hy);obtain⟨b,o,_,e,⟨_,rfl,hE⟩,hc⟩:=ak.elt hp.cons (by decide) hy;obtain⟨nv,kv,rfl,hn,hk⟩:=hE.open;obtain⟨_,_,rfl,-⟩:=aH.get hn;obtain⟨_,_,rfl,-⟩:=ak.form hk (by decide);have hcf:E3 p m=I7 p.users.length p.roles.length p.types.length p.classes y:=by unfold E3;rw[hy]
 have out:∀ v:Int,I7 p.users.length p.roles.length p.types.length p.classes y=v→v≠0→aG (E3 p) p.cons.length 0=v:=fun v h1 h2=>by rw[hinv,bZ hlt (by rw[hcf,h1];exact h2),hcf,h1]
 unfold I7 at hcf out;refine lb 0<|an rfl<|ia<|an ⟨e,rfl,hlt⟩<|lc<|an (cG M.below hc)<|ei<|an JF fun g2 w2 M2=>lb 0<|an ⟨rfl,rfl⟩ fun w3 M3=>lb 1<|an rfl<|lb 0<|an rfl<|lb 0<|an rfl<|cl<|an (zS _ _ _ _ _ _ _ _ _ _ _ _ _ _ _ _ _ _ p (hp.keep M3.below) y.cls y.perms pU.perms) fun w4 M4=>an (fun h3 M=>⟨ri (out 3 (if_pos (by simpa using h3)) (by decide)),M.below⟩) fun h3=>?_
 rw[if_neg (by simpa using h3)] at hcf out;refine lb 0<|an rfl<|lb 0<|an rfl<|an (fun h4 M=>⟨ri (out 2 (if_pos (by simpa using h4)) (by decide)),M.below⟩) fun h4=>?_
 rw[if_neg (by simpa using h4)] at hcf out;exact lb 1<|an rfl<|lb 0<|an rfl<|lb 0<|an rfl<|cl<|an (B0 y.expr pU.expr _ _ _ _ _ _ _ _ _ _ _ _ _ _ _ _ _ _ _ p (hp.keep M4.below) hok (hE.keep M4.below) y.val) fun w5 M5=>an (fun h5 M=>⟨ri (out _ rfl (by simpa using h5)),M.below⟩) fun h5=>an (by omega)<|bk (m+1) ⟨rfl,trivial⟩ (fun M=>⟨M.only (.cons _ (.refl _)) (.refl _),by omega,hinv.trans (bG hlt (by rw[hcf];simpa using h5))⟩) (by dsimp only;omega)
theorem N5{nU nR nT N:Nat}(hN:N≤15):∀ e:aq,e.Ok→iR nU nR nT N e=0→wO e:=by
 refine aq.ind fun e ih=>?_
 intro hok h
 have below:∀ i:Int,aX i (N:Int)=true→0≤i∧i<15:=fun i hi=>by
  unfold aX at hi;rw[as4,decide_eq_true_eq,decide_eq_true_eq] at hi;omega
 have key:(e.op=8→(0≤e.a∧e.a<15)∧0≤e.b∧e.b<15)∧(e.op=9→0≤e.a∧e.a<15)∧∀ k∈e.kids,wO k:=by
  have PJ:e.kids.length=0→∀ k∈e.kids,wO k:=fun h0 k hk=>by rw[List.length_eq_zero_iff.1 h0] at hk;cases hk
  cases hs:eM nU nR nT N e with
  | some r=>
   rw[om hs] at h;subst h;unfold eM at hs
   cases hf:fI e with
   | false=>rw[hf,if_pos rfl] at hs;cases hs
   | true=>
    rw[hf,if_neg (by decide)] at hs;by_cases h8:e.op=8
    ·rw[if_pos h8] at hs;have hc:=as_ hs;unfold nk at hc
     have hk:e.kids.length=0:=by
      unfold fI at hf;rw[if_neg (by omega),if_pos h8,as4,as4,decide_eq_true_eq] at hf;omega
     cases ha:aX e.a (N:Int) with
     | false=>rw[ha,if_pos rfl] at hc;cases hc
     | true=>
      rw[ha,if_neg (by decide)] at hc
      cases hb:aX e.b (N:Int) with
      | false=>rw[hb,if_pos rfl] at hc;cases hc
      | true=>exact⟨fun _=>⟨below _ ha,below _ hb⟩,fun h9=>absurd h9 (by omega),PJ hk⟩
    ·rw[if_neg h8] at hs;by_cases h9:e.op=9
     ·rw[if_pos h9] at hs
      repeat' (split at hs)
      all_goals cases hs
     ·rw[if_neg h9] at hs;cases hs
  | none=>
   rw[sG hs] at h
   have hl:∀ l:List aq,nh nU nR nT N l=0→∀ k∈l,iR nU nR nT N k=0:=by
    intro l
    induction l with
    | nil=>exact fun _ k hk=>by cases hk
    | cons x l ihl=>
     intro h0 k hk;rw[nh] at h0;split at h0
     ·rename_i hx;rcases ata.1 hk with rfl|hk
      ·exact hx
      ·exact ihl h0 k hk
     ·rename_i hx;exact absurd h0 hx
   refine⟨fun h8=>?_,fun h9=>?_,fun k hk=>ih k hk (hok.Yc k hk) (hl _ h k hk)⟩
   ·unfold eM at hs
    cases hf:fI e with
    | false=>rw[hf,if_pos rfl] at hs;cases hs
    | true=>rw[hf,if_neg (by decide),if_pos h8] at hs;cases hs
   ·unfold eM at hs
    cases hf:fI e with
    | false=>rw[hf,if_pos rfl] at hs;cases hs
    | true=>
     rw[hf,if_neg (by decide),if_neg (by omega),if_pos h9] at hs
     cases ha:aX e.a (N:Int) with
     | false=>rw[ha,if_pos rfl] at hs;cases hs
     | true=>exact below _ ha
 have hset:=hok.set';obtain⟨k1,k2,k3⟩:=key
 cases e with
 | node op a rel b names set kids=>exact .node k1 k2 hset k3
theorem QC{p:aA}(h:qv p=0)(hok:p.Ok):∀ c∈p.cons,wO c.expr:=fun c hc=>by
 unfold qv at h;split at h
 ·cases h
 rw[cH] at h;obtain⟨i,hi⟩:=List.getElem?_of_mem hc;have:=h i (as3 _) (by have:=(atb.1 hi).1;omega);unfold E3 at this;rw[hi] at this;replace this:I7 p.users.length p.roles.length p.types.length p.classes c=0:=this;unfold I7 at this;split at this
 ·cases this
 split at this
 ·cases this
 unfold eO at this;split at this
 ·cases this
 split at this
 ·exact N5 (Nat.le_refl _) _ (hok.cons c hc).expr this
 ·exact N5 (by decide) _ (hok.cons c hc).expr this
def YW:dI:=⟨0,0,0,⟨⟨0,0⟩,⟨0,0⟩⟩⟩
def qh(f s:dI)(cls:Int)(v:Int)(c:nA):Int:=if ((!c.val&&decide (c.cls=cls))&&!gG f s YW c.expr)=true then bits .or .u32 v c.perms else v
def n_(p:aA)(f s:dI)(cls:Int):Int:=p.cons.foldl (qh f s cls) 0
theorem LV(w0:World)(c0 c1 c2 c3 c4 c5 c6 c7 c8 c9 aS aN aM aR aQ aP aO:Value)(p:aA)(hp:aJ w0 c0 c1 c2 c3 c4 c5 c6 c7 c8 c9 aS aN aM aR aQ aP aO p)(hH:∀ c∈p.cons,wO c.expr)(f s:dI)(cls:Int):Calls Tryz.prog 96 #[.agg #[c0,c1,c2,c3,c4,c5,c6,c7,c8,c9,aS,aN,aM,aR,aQ,aP,aO],.agg #[.int .i64 f.user,.int .i64 f.role,.int .i64 f.typ,.int .i64 f.rng.low.aC,.int .u64 f.rng.low.cats,.int .i64 f.rng.high.aC,.int .u64 f.rng.high.cats],.agg #[.int .i64 s.user,.int .i64 s.role,.int .i64 s.typ,.int .i64 s.rng.low.aC,.int .u64 s.rng.low.cats,.int .i64 s.rng.high.aC,.int .u64 s.rng.high.cats],.int .i64 cls] w0 (fun(e:Ending) (w':World)=>e=.returned (.int .u32 (n_ p f s cls))∧as2 w0.heap.size w0 w'):=by
 have mL:=hp;obtain⟨_,_,-,-,hmR,-⟩:=ak.form mL.cons (by decide);obtain⟨_,_,_,_,_,_,_,_,_,_,_,_,_,_,_,_,_,_,_,_,_,_,_,_,_,_,_,_,_,_,_,_,_,_,rfl,rfl,rfl,rfl,rfl,rfl,rfl,rfl,rfl,rfl,rfl,rfl,rfl,rfl,rfl,rfl,rfl⟩:=hp.open;refine bX [] (fn:=Tryz.f96) Tryz.func96 rfl Tryz.ntmps96 rfl<|fun g1 w1 M1=>fun g2 w2 M2=>fun g3 w3 M3=>lr (ι:=Nat) (fun m=>[(9,.int .u32 ((p.cons.take m).foldl (qh f s cls) 0)),(10,.int .i64 (m:Int))]) (fun m _=>m≤p.cons.length) (fun m=>p.cons.length-m) 0 (an ⟨⟨rfl,rfl,trivial⟩,fun M=>⟨M,as3 _⟩⟩ ?_)
 intro m w M hm;refine lb 2<|an rfl<|an (fun h=>?_) fun h=>?_
 ·have hlt:m<p.cons.length:=by simp at h;omega
  obtain⟨y,hy⟩:∃ y,p.cons[m]?=some y:=⟨_,as5 hlt⟩;have sR:=as6 hy;obtain⟨b,o,_,e,⟨es,rfl,rz⟩,hc⟩:=ak.elt mL.cons (by decide) hy;obtain⟨_,_,rfl,hn',hk'⟩:=rz.open;obtain⟨_,_,rfl,-⟩:=aH.get hn';obtain⟨_,_,rfl,-⟩:=ak.form hk' (by decide);have hn:(p.cons.take (m+1)).foldl (qh f s cls) 0=qh f s cls ((p.cons.take m).foldl (qh f s cls) 0) y:=by rw[bf hy,List.foldl_append];rfl
  have hF:∀ b,((!y.val&&decide (y.cls=cls))&&!gG f s YW y.expr)=b→qh f s cls ((p.cons.take m).foldl (qh f s cls) 0) y=if b=true then bits .or .u32 ((p.cons.take m).foldl (qh f s cls) 0) y.perms else (p.cons.take m).foldl (qh f s cls) 0:=fun b hb=>by unfold qh;rw[hb]
  refine lb 2<|an rfl<|ia<|an ⟨e,rfl,hlt⟩<|lc<|an (cG M.below hc)<|ei<|an JF fun g4 w4 M4=>lb 0<|an ⟨rfl,rfl⟩ fun w5 M5=>lb 0<|an rfl<|lb 0<|an (fun _=>rfl)<|lb 0<|an (fun _=>rfl)<|lb 2<|an (fun _=>rfl)<|lb 1<|an (fun _=>rfl)<|ei (x:=.agg #[.int .i64 f.user,.int .i64 f.role,.int .i64 f.typ,.int .i64 f.rng.low.aC,.int .u64 f.rng.low.cats,.int .i64 f.rng.high.aC,.int .u64 f.rng.high.cats,.int .i64 s.user,.int .i64 s.role,.int .i64 s.typ,.int .i64 s.rng.low.aC,.int .u64 s.rng.low.cats,.int .i64 s.rng.high.aC,.int .u64 s.rng.high.cats,.int .i64 0,.int .i64 0,.int .i64 0,.int .i64 0,.int .u64 0,.int .i64 0,.int .u64 0])<|an (fun _=>bd (by kernel_rfl))<|cl<|an (fun _=>LG f s YW y.expr _ _ (rz.keep M5.below) (hH y sR)) fun w7 M7=>an (fun h2=>?_) fun h2=>?_
  ·exact lb 0<|an rfl<|ei<|an rfl<|an (by omega)<|bk (m+1) ⟨by dsimp only;rw[hn,hF _ h2];rfl,rfl,trivial⟩ (fun M=>⟨M.only (.cons _ (.refl _)) (.refl _),by omega⟩) (by dsimp only;omega)
  ·exact an (by omega)<|bk (m+1) ⟨by dsimp only;rw[hn,hF _ h2];rfl,rfl,trivial⟩ (fun M=>⟨M.only (.cons _ (.refl _)) (.refl _),by omega⟩) (by dsimp only;omega)
 ·obtain rfl:m=p.cons.length:=by simp at h;omega
  rw[show n_ p f s cls=(p.cons.take p.cons.length).foldl (qh f s cls) 0 by rw[atc];rfl];exact fun M'=>⟨rfl,M.below⟩
def tZ:ByteArray:=⟨#[112,114,111,99,101,115,115]⟩
def iH:ByteArray:=⟨#[116,114,97,110,115,105,116,105,111,110]⟩
def yD:ByteArray:=⟨#[100,121,110,116,114,97,110,115,105,116,105,111,110]⟩
theorem xw(l:List ByteArray)(s:ByteArray):∀ f i,i+f≤32→0≤(mU l s f i).1∧(mU l s f i).1≤32
 | 0,_,_=>⟨show(0:Int)≤0 by decide,show(0:Int)≤32 by decide⟩
 | f+1,i,h=>by
  rw[mU];split
  ·split
   ·exact⟨show(0:Int)≤(i:Int) by omega,show(i:Int)≤32 by omega⟩
   ·exact xw l s f (i+1) (by omega)
  ·exact⟨show(0:Int)≤0 by decide,show(0:Int)≤32 by decide⟩
theorem tR(p:aA)(cls:Int)(s:ByteArray):0≤(gF p cls s).1∧(gF p cls s).1≤32:=by
 unfold gF;split
 ·exact⟨show(0:Int)≤0 by decide,show(0:Int)≤32 by decide⟩
 ·cases p.classes[cls.toNat]? with
  | none=>exact⟨show(0:Int)≤0 by decide,show(0:Int)≤32 by decide⟩
  | some c=>exact xw c.perms s 32 0 (by decide)
def qA(p:aA)(cls:Int)(v:Int)(s:ByteArray):Int:=if (gF p cls s).2=true then bits .or .u32 v (IntKind.u32.wrap (1*2^((gF p cls s).1).toNat)) else v
def uH(p:aA)(f s:dI)(cls:Int)(y:iB):Int:=if (!y.name.toList == tZ.toList||rW p f.role s.role)=true then 0 else qA p cls (qA p cls 0 iH) yD
theorem QG(w0:World)(c0 c1 c2 c3 c4 c5 c6 c7 c8 c9 aS aN aM aR aQ aP aO:Value)(p:aA)(hp:aJ w0 c0 c1 c2 c3 c4 c5 c6 c7 c8 c9 aS aN aM aR aQ aP aO p)(hok:p.Ok)(f s:dI)(cls:Nat)(y:iB)(hy:p.classes[cls]?=some y):Calls Tryz.prog 97 #[.agg #[c0,c1,c2,c3,c4,c5,c6,c7,c8,c9,aS,aN,aM,aR,aQ,aP,aO],.agg #[.int .i64 f.user,.int .i64 f.role,.int .i64 f.typ,.int .i64 f.rng.low.aC,.int .u64 f.rng.low.cats,.int .i64 f.rng.high.aC,.int .u64 f.rng.high.cats],.agg #[.int .i64 s.user,.int .i64 s.role,.int .i64 s.typ,.int .i64 s.rng.low.aC,.int .u64 s.rng.low.cats,.int .i64 s.rng.high.aC,.int .u64 s.rng.high.cats],.int .i64 (cls:Int)] w0 (fun(e:Ending) (w':World)=>e=.returned (.int .u32 (uH p f s cls y))∧as2 w0.heap.size w0 w'):=by
 have mL:=hp;have hlt:=(atb.1 hy).1;obtain⟨_,_,_,_,_,_,_,_,_,_,_,_,_,_,_,_,_,_,_,_,_,_,_,_,_,_,_,_,_,_,_,_,_,_,rfl,rfl,rfl,rfl,rfl,rfl,rfl,rfl,rfl,rfl,rfl,rfl,rfl,rfl,rfl,rfl,rfl⟩:=hp.open;obtain⟨b1,o1,_,e1,⟨pv,rfl,hpv⟩,hc⟩:=ak.elt mL.classes (by decide) hy;obtain⟨_,_,rfl,-,hmp,-⟩:=aH.open hpv;refine bX [] (fn:=Tryz.f97) Tryz.func97 rfl Tryz.ntmps97 rfl<|fun g1 w1 M1=>fun g2 w2 M2=>fun g3 w3 M3=>lb 2<|an rfl<|ia<|an ⟨e1,rfl,hlt⟩<|lc (x:=.string y.name)<|an (cG M3.below hc 0 _ rfl)<|lb 2<|an (fun _=>rfl)<|lb 1<|an (fun _=>rfl)<|lb 0<|an (fun _=>rfl)<|cl<|an (fun _=>Ky _ _ _ _ _ _ _ _ _ _ _ _ _ _ _ _ _ _ p (mL.keep M3.below) hok f.role s.role) fun w4 M4=>an (fun h M=>⟨?_,M.below⟩) fun h=>?_
 ·have h:(!y.name.toList == tZ.toList||rW p f.role s.role)=true:=h;unfold uH;rw[if_pos h];rfl
 have hh:¬ (!y.name.toList == tZ.toList||rW p f.role s.role)=true:=by
  have h3:(!y.name.toList == tZ.toList||rW p f.role s.role)=false:=h;rw[h3];decide
 unfold uH;rw[if_neg hh];clear h hh;have hP:=fun w' (hb:as2 w0.heap.size w0 w') k=>KL w' _ _ _ _ _ _ _ _ _ _ _ _ _ _ _ _ _ p (mL.keep hb) (cls:Int) k
 refine fun g4 w5 M5=>lr (ι:=Nat×Int) (fun(m,v)=>[(9,.int .u32 v),(11,.int .i64 (m:Int))]) (fun(m,v) _=>m≤2∧(m=0→v=0)∧(m=1→v=qA p cls 0 iH)∧(m=2→v=qA p cls (qA p cls 0 iH) yD)) (fun(m,v)=>2-m) (0,0) (an ⟨⟨rfl,rfl,trivial⟩,fun M=>⟨M,as3 _,(fun _=>rfl),(fun h=>by cases h),fun h=>by cases h⟩⟩ ?_)
 rintro⟨m,v⟩ w M ⟨hm,h0,h1,h2⟩;refine an (fun h3=>?_) fun h3=>?_
 ·have hlt2:m<2:=by simp at h3;omega
  obtain rfl|rfl:m=0∨m=1:=by omega
  ·obtain rfl:=h0 rfl;have hr:=tR p (cls:Int) iH;have hF:∀ b,(gF p (cls:Int) iH).2=b→qA p cls 0 iH=if b=true then bits .or .u32 0 (IntKind.u32.wrap (1*2^((gF p cls iH).1).toNat)) else 0:=fun b hb=>by unfold qA;rw[hb]
   refine dr (by kernel_rfl)<|lb 3<|an rfl<|ia (i:=0)<|an ⟨rfl,rfl,by decide⟩<|lb 0<|an rfl<|cl<|an (fun w' hb' M'=>hP w' M'.below iH)<|fun w6 N_ M6=>an (fun h4=>?_) fun h4=>?_
   ·exact ei<|an (fun a w o ho hv=>k_ ho (dJ hv) (dX hv) hr.1 hr.2)<|ei<|an rfl<|an (by omega)<|bk (1,qA p cls 0 iH) ⟨by rw[hF _ h4];rfl,rfl,trivial⟩ (fun M=>⟨M,by omega,(fun h=>by cases h),(fun _=>rfl),fun h=>by cases h⟩) (by dsimp only;omega)
   ·exact an (by omega)<|bk (1,qA p cls 0 iH) ⟨by rw[hF _ h4];rfl,rfl,trivial⟩ (fun M=>⟨M,by omega,(fun h=>by cases h),(fun _=>rfl),fun h=>by cases h⟩) (by dsimp only;omega)
  ·obtain rfl:=h1 rfl;have hr:=tR p (cls:Int) yD;have hF:∀ b,(gF p (cls:Int) yD).2=b→qA p cls (qA p cls 0 iH) yD=if b=true then bits .or .u32 (qA p cls 0 iH) (IntKind.u32.wrap (1*2^((gF p cls yD).1).toNat)) else qA p cls 0 iH:=fun b hb=>by rw[show ∀ v,qA p cls v yD=if (gF p cls yD).2=true then bits .or .u32 v (IntKind.u32.wrap (1*2^((gF p cls yD).1).toNat)) else v from fun _=>rfl,hb]
   generalize qA p (cls:Int) 0 iH=v at *;refine dr (by kernel_rfl)<|lb 3<|an rfl<|ia (i:=1)<|an ⟨rfl,rfl,by decide⟩<|lb 0<|an rfl<|cl<|an (fun w' hb' M'=>hP w' M'.below yD)<|fun w6 N_ M6=>an (fun h4=>?_) fun h4=>?_
   ·exact ei<|an (fun a w o ho hv=>k_ ho (dJ hv) (dX hv) hr.1 hr.2)<|ei<|an rfl<|an (by omega)<|bk (2,qA p cls v yD) ⟨by rw[hF _ h4];rfl,rfl,trivial⟩ (fun M=>⟨M,by omega,(fun h=>by cases h),(fun h=>by cases h),fun _=>rfl⟩) (by dsimp only;omega)
   ·exact an (by omega)<|bk (2,qA p cls v yD) ⟨by rw[hF _ h4];rfl,rfl,trivial⟩ (fun M=>⟨M,by omega,(fun h=>by cases h),(fun h=>by cases h),fun _=>rfl⟩) (by dsimp only;omega)
 ·obtain rfl:m=2:=by simp at h3;omega
  obtain rfl:=h2 rfl;exact fun M'=>⟨rfl,M.below⟩
theorem oR{p:aA}{x:dI}(h:dA p x=true):0≤x.typ∧x.typ<p.types.length:=by
 unfold dA at h;split at h
 ·cases h
 rename_i h2;simp only[Bool.or_eq_true,decide_eq_true_eq] at h2;omega
def jO(p:aA)(st:List Bool)(s t:dI)(cls:Int):Int×Int×Int×Bool:=
 if (((decide (cls<0)||decide ((p.classes.length:Int)≤cls))||!dA p s)||!dA p t)=true then (0,0,0,false)
 else match p.classes[cls.toNat]?,p.types[s.typ.toNat]? with
  | some y,some z=>(bits .andNot .u32 (bits .andNot .u32 (gI p st 1 s t cls) (n_ p s t cls)) (uH p s t cls y),gI p st 2 s t cls,bits .andNot .u32 (Bf (min y.perms.length 32)) (gI p st 3 s t cls),z.perm)
  | _,_=>(0,0,0,false)
theorem DG(w0:World)(c0 c1 c2 c3 c4 c5 c6 c7 c8 c9 aS aN aM aR aQ aP aO:Value)(p:aA)(hp:aJ w0 c0 c1 c2 c3 c4 c5 c6 c7 c8 c9 aS aN aM aR aQ aP aO p)(hok:p.Ok)(hcR:∀ r∈p.rules,-1000000≤r.cond∧r.cond≤1000000)(hH:∀ c∈p.cons,wO c.expr)(v:Value)(st:List Bool)(hL:oG w0 v st)(s t:dI)(hs:s.Ok)(ht:t.Ok)(cls:Int):Calls Tryz.prog 36 #[.agg #[c0,c1,c2,c3,c4,c5,c6,c7,c8,c9,aS,aN,aM,aR,aQ,aP,aO],v,.agg #[.int .i64 s.user,.int .i64 s.role,.int .i64 s.typ,.int .i64 s.rng.low.aC,.int .u64 s.rng.low.cats,.int .i64 s.rng.high.aC,.int .u64 s.rng.high.cats],.agg #[.int .i64 t.user,.int .i64 t.role,.int .i64 t.typ,.int .i64 t.rng.low.aC,.int .u64 t.rng.low.cats,.int .i64 t.rng.high.aC,.int .u64 t.rng.high.cats],.int .i64 cls] w0 (fun(e:Ending) (w':World)=>e=.returned (.agg #[.int .u32 (jO p st s t cls).1,.int .u32 (jO p st s t cls).2.1,.int .u32 (jO p st s t cls).2.2.1,.bool (jO p st s t cls).2.2.2,.int .i64 0])∧as2 w0.heap.size w0 w'):=by
 have mL:=hp;obtain⟨_,_,_,_,_,_,_,_,_,_,_,_,_,_,_,_,_,_,_,_,_,_,_,_,_,_,_,_,_,_,_,_,_,_,rfl,rfl,rfl,rfl,rfl,rfl,rfl,rfl,rfl,rfl,rfl,rfl,rfl,rfl,rfl,rfl,rfl⟩:=hp.open;refine bX [] (fn:=Tryz.f36) Tryz.func36 rfl Tryz.ntmps36 rfl<|fun g1 w1 M1=>fun g2 w2 M2=>fun g3 w3 M3=>ei<|an ae8 fun g4 w4 M4=>lb 3<|an (fun _=>rfl)<|lb 3<|an (fun _=>rfl)<|lb 2<|an (fun _=>rfl)<|cl<|an (fun _=>wU _ _ _ _ _ _ _ _ _ _ _ _ _ _ _ _ _ _ p (mL.keep M4.below) hok s hs) fun w5 M5=>lb 3<|an (fun _=>rfl)<|lb 1<|an (fun _=>rfl)<|cl<|an (fun _=>wU _ _ _ _ _ _ _ _ _ _ _ _ _ _ _ _ _ _ p (mL.keep M5.below) hok t ht) fun w6 M6=>an (fun h=>?_) fun h=>?_
 ·have h:(((decide (cls<0)||decide ((p.classes.length:Int)≤cls))||!dA p s)||!dA p t)=true:=h;have he:jO p st s t cls=(0,0,0,false):=by unfold jO;rw[if_pos h]
  rw[he];exact ei (x:=.agg #[.int .u32 0,.int .u32 0,.int .u32 0,.bool false,.int .i64 0])<|an (bd (by kernel_rfl))<|lb 0<|an ⟨rfl,rfl⟩ fun w7 M7=>ei (x:=0)<|an rfl fun M=>⟨rfl,M.below⟩
 have h:(((decide (cls<0)||decide ((p.classes.length:Int)≤cls))||!dA p s)||!dA p t)=false:=h;have hh:=h;simp only[Bool.or_eq_false_iff,decide_eq_false_iff_not,Bool.not_eq_false'] at hh;obtain⟨⟨⟨k1,k2⟩,k3⟩,-⟩:=hh;have kt:=oR k3;obtain⟨cn,rfl⟩:∃ cn:Nat,cls=(cn:Int):=⟨cls.toNat,by omega⟩;obtain⟨y,hy⟩:∃ y,p.classes[cn]?=some y:=⟨_,as5 (by omega)⟩;obtain⟨z,hz⟩:∃ z,p.types[s.typ.toNat]?=some z:=⟨_,as5 (by omega)⟩;obtain⟨b1,o1,_,e1,⟨pv,rfl,-⟩,hc⟩:=ak.elt mL.types (by decide) hz
 have he:jO p st s t (cn:Int)=(bits .andNot .u32 (bits .andNot .u32 (gI p st 1 s t cn) (n_ p s t cn)) (uH p s t cn y),gI p st 2 s t cn,bits .andNot .u32 (Bf (min y.perms.length 32)) (gI p st 3 s t cn),z.perm):=by
  unfold jO;rw[if_neg (by rw[h];decide),Int.toNat_natCast,hy,hz]
 rw[he];have hV:=fun w' (hb:as2 w0.heap.size w0 w') k=>OZ w' _ _ _ _ _ _ _ _ _ _ _ _ _ _ _ _ _ p (mL.keep hb) hok hcR v st (hL.keep hb) k s t (cn:Int)
 refine dr (by kernel_rfl)<|lb 3<|an rfl<|lb 2<|an rfl<|lb 1<|an rfl<|cl<|an (fun w' hb' M'=>hV w' M'.below 1)<|lb 3<|an rfl<|lb 2<|an rfl<|lb 1<|an rfl<|cl<|an (fun w' hb' M'=>LV w' _ _ _ _ _ _ _ _ _ _ _ _ _ _ _ _ _ p (mL.keep M'.below) hH s t (cn:Int))<|ei (x:=bits .andNot .u32 (gI p st 1 s t cn) (n_ p s t cn))<|an rfl<|lb 3<|an rfl<|lb 2<|an rfl<|lb 1<|an rfl<|cl<|an (fun w' hb' M'=>QG w' _ _ _ _ _ _ _ _ _ _ _ _ _ _ _ _ _ p (mL.keep M'.below) hok s t cn y hy)<|ei (x:=bits .andNot .u32 (bits .andNot .u32 (gI p st 1 s t cn) (n_ p s t cn)) (uH p s t cn y))<|an rfl<|lb 3<|an rfl<|lb 2<|an rfl<|lb 1<|an rfl<|cl<|an (fun w' hb' M'=>hV w' M'.below 2)<|lb 3<|an rfl<|cl<|an (fun w' hb' M'=>LU w' _ _ _ _ _ _ _ _ _ _ _ _ _ _ _ _ _ p (mL.keep M'.below) cn y hy)<|lb 3<|an rfl<|lb 2<|an rfl<|lb 1<|an rfl<|cl<|an (fun w' hb' M'=>hV w' M'.below 3)<|ei (x:=bits .andNot .u32 (Bf (min y.perms.length 32)) (gI p st 3 s t cn))<|an rfl<|lb 3<|an rfl<|lb 2<|an rfl<|ia (i:=s.typ.toNat)<|an ⟨e1,by omega,by omega⟩<|lc (x:=.bool z.perm)<|an (cG M6.below hc 2 _ rfl)<|ei (x:=.agg #[.int .u32 (bits .andNot .u32 (bits .andNot .u32 (gI p st 1 s t cn) (n_ p s t cn)) (uH p s t cn y)),.int .u32 (gI p st 2 s t cn),.int .u32 (bits .andNot .u32 (Bf (min y.perms.length 32)) (gI p st 3 s t cn)),.bool z.perm,.int .i64 0])<|an (bd (by kernel_rfl))<|fun w7 hb7 M7=>lb 0<|an ⟨rfl,rfl⟩ fun w8 M8=>ei (x:=0)<|an rfl fun M=>⟨rfl,M.below⟩
theorem aV.elt{α:Type}{f:α→List Value}{B:Nat}{w0 w:World}{bs:List Bx}{rs:List Rw}(M:aV B w0 w bs rs)(i:Nat){g n c:Nat}{e k:Nat}{l:List α}{m:Nat}{y:α}(hr:rs[i]?=some ⟨.slice (some ⟨g,0,none⟩) n c,e,k,n,l.flatMap f⟩)(hf:∀ x,(f x).length=k)(hy:l[m]?=some y):
 ∀ j u,(f y)[j]?=some u→w.cell? ⟨g,0+m*k+j,none⟩=some u:=fun j u hu=>by
 have h:=World.ownsRow.cells (M.r i hr) (g:=g) rfl (m*k+j) u (by
  show(l.flatMap f)[m*k+j]?=some u;rw[lX hf hy j (hf y▸(atb.1 hu).1)];exact hu)
 rw[Addr.add_mid] at h;simpa[Nat.add_assoc] using h
theorem aV.own{B:Nat}{w0 w:World}{bs:List Bx}{rs:List Rw}(M:aV B w0 w bs rs)(i:Nat){v:Value}{e k n:Nat}{xs:List Value}(hr:rs[i]?=some ⟨v,e,k,n,xs⟩)(hn:0<n):∃ g c,v=.slice (some ⟨g,0,none⟩) n c:=by
 obtain⟨g,c,-,h,-⟩:=tS (M.r i hr) hn;exact⟨g,c,h⟩
def ab2(x:Int):List Value:=[.int .u32 x]
theorem aV.shape{B:Nat}{w0 w:World}{bs:List Bx}{rs:List Rw}(M:aV B w0 w bs rs)(i:Nat){v:Value}{e k n:Nat}{xs:List Value}(hr:rs[i]?=some ⟨v,e,k,n,xs⟩):∃ a c,v=.slice a n c∧n≤9223372036854775807:=by
 obtain⟨a,c,h,-,h2⟩:=kR (M.r i hr);exact⟨a,c,h,h2⟩
def Ju(w:World)(u:Value)(l:List (List Int)):Prop:=∃ vs:List Value,vs.length=l.length∧SliceAt w u 1 l.length vs∧∀ (i:Nat) v row,vs[i]?=some v→l[i]?=some row→SliceAt w v 1 row.length (row.flatMap ab2)
theorem Ju.keep{w w':World}{u:Value}{l:List (List Int)}(h:Ju w u l)(hb:as2 w.heap.size w w'):Ju w' u l:=by
 obtain⟨vs,h1,h2,h3⟩:=h;exact⟨vs,h1,h2.keep hb,fun i v row a b=>(h3 i v row a b).keep hb⟩
def Kw(p:aA)(i:Nat):List Int:=dF p.types.length p.classes.length (fun r=>Wr p.bools.length p.conds (KV p.bools.length i) r.cond) p.rules
def jY(p:aA):List (List Int):=(List.range (2^p.bools.length)).map (Kw p)
structure CF (p:aA):Prop where
 bools:p.bools.length≤10
 conds:p.conds.length≤1000
 types:p.types.length≤256
 classes:p.classes.length≤256
 rules:∀ r∈p.rules,RV p.types.length p.classes.length r∧r.ny
theorem Ju.get{w:World}{u:Value}{l:List (List Int)}(h:Ju w u l):∃ a c,u=.slice a l.length c∧l.length≤9223372036854775807∧∀ (i:Nat) row,l[i]?=some row→∃ b off a' c',a=some ⟨b,off,none⟩∧w.cell? ⟨b,off+i*1,none⟩=some (.slice a' row.length c')∧row.length≤9223372036854775807 ∧
 ∀ (j:Nat) x,row[j]?=some x→∃ b' off',a'=some ⟨b',off',none⟩∧w.cell? ⟨b',off'+j*1,none⟩=some (.int .u32 x):=by
 obtain⟨vs,h1,h2,h3⟩:=h;obtain⟨a,c,rfl,-,hm,hc⟩:=h2.form (by decide);refine⟨a,c,rfl,hm,fun i row hi=>?_⟩;have hlt:=(atb.1 hi).1;obtain⟨b,off,rfl,hc'⟩:=hc i hlt;obtain⟨v,hv⟩:∃ v,vs[i]?=some v:=⟨_,as5 (h1▸hlt)⟩;have h4:=h3 i v row hv hi;obtain⟨a',c',rfl,-,hm',-⟩:=h4.form (by decide);refine⟨b,off,a',c',rfl,hc' 0 _ (by simpa using hv),hm',fun j x hx=>?_⟩;obtain⟨b',off',e,h5⟩:=h4.elt (f:=ab2) (fun _=>rfl) (by decide) hx (atb.1 hx).1;exact⟨b',off',e,h5 0 _ rfl⟩
theorem tC{α:Type}{a b:List α}{m:Nat}{x y:α}(h:a.take m=b.take m)(hx:a[m]?=some x)(hy:b[m]?=some y)(e:x=y):a.take (m+1)=b.take (m+1):=by
 rw[List.take_add_one,List.take_add_one,h,hx,hy,e]
theorem GK{α:Type}{a b:List α}{m:Nat}(h:a.take m=b.take m)(hl:a.length=b.length)(hm:a.length≤m):a=b:=by
 rwa [List.take_of_length_le hm,List.take_of_length_le (hl▸hm)] at h
def zQ(p:aA)(k:Int):List Bool:=(List.range (2^p.bools.length)).map fun i=>Wr p.bools.length p.conds (KV p.bools.length i) k
def GJ(p:aA)(y:bD):Option (bD×List Bool):=if (zQ p y.cond).any id=true then some ({ y with cond:=0 },zQ p y.cond) else none
def zZ(p:aA):List (bD×List Bool):=p.trans.filterMap (GJ p)
def ab7(z:bD×List Bool):List Value:=z.1.cells
structure uO (w:World) (u1 u2:Value) (L:List (bD×List Bool)):Prop where
 tr:SliceAt w u1 13 L.length (L.flatMap ab7)
 wh:∃ vs:List Value,vs.length=L.length∧SliceAt w u2 1 L.length vs∧∀ (i:Nat) v z,vs[i]?=some v→L[i]?=some z→oG w v z.2
theorem uO.keep{w w':World}{u1 u2:Value}{L:List (bD×List Bool)}(h:uO w u1 u2 L)(hb:as2 w.heap.size w w'):uO w' u1 u2 L:=by
 obtain⟨vs,h1,h2,h3⟩:=h.wh;exact⟨h.tr.keep hb,vs,h1,h2.keep hb,fun i v row a b=>(h3 i v row a b).keep hb⟩
theorem uO.get{w:World}{u1 u2:Value}{L:List (bD×List Bool)}(h:uO w u1 u2 L):∃ a c a' c',u1=.slice a L.length c∧u2=.slice a' L.length c'∧L.length≤9223372036854775807∧∀ (i:Nat) z,L[i]?=some z→∃ b off b' off' v,a=some ⟨b,off,none⟩∧(∀ j u,z.1.cells[j]?=some u→w.cell? ⟨b,off+i*13+j,none⟩=some u) ∧
 a'=some ⟨b',off',none⟩∧w.cell? ⟨b',off'+i*1,none⟩=some v∧oG w v z.2:=by
 obtain⟨vs,h1,h2,h3⟩:=h.wh;obtain⟨a,c,rfl,-,hm,-⟩:=h.tr.form (by decide);obtain⟨a',c',rfl,-,-,hc⟩:=h2.form (by decide);refine⟨a,c,a',c',rfl,rfl,hm,fun i z hz=>?_⟩;have hlt:=(atb.1 hz).1;obtain⟨b,off,rfl,hcz⟩:=h.tr.elt (f:=ab7) (fun _=>rfl) (by decide) hz hlt;obtain⟨b',off',rfl,hc'⟩:=hc i hlt;obtain⟨v,hv⟩:∃ v,vs[i]?=some v:=⟨_,as5 (h1▸hlt)⟩;exact⟨b,off,b',off',v,rfl,hcz,rfl,hc' 0 _ (by simpa using hv),h3 i v z hv hz⟩
theorem mS(w0:World)(v v':Value)(l l':List ByteArray)(h:aH w0 v l)(h':aH w0 v' l'):Calls Tryz.prog 131 #[v,v'] w0 fun r w'=>r=.returned (.bool (decide (l=l')))∧as2 w0.heap.size w0 w':=by
 obtain⟨la,lk,rfl,H9,hcell⟩:=h.get;obtain⟨la',lk',rfl,-,LK⟩:=h'.get;have no:l≠l'→Ending.returned (nF [Value.bool false])=.returned (.bool (decide (l=l'))):=fun h=>by rw[decide_eq_false h];rfl
 refine bX [] (fn:=Tryz.f131) Tryz.func131 rfl Tryz.ntmps131 rfl<|an (fun h M=>⟨no fun e=>by rw[e] at h;simp at h,M.below⟩) fun h=>lr (ι:=Nat) (fun m=>[(5,.int .i64 (m:Int))]) (fun m _=>m≤l.length∧l.take m=l'.take m) (fun m=>l.length-m) 0 (an ⟨⟨rfl,trivial⟩,fun M=>⟨M,as3 _,rfl⟩⟩ ?_)
 have hll:l.length=l'.length:=Int.ofNat_inj.1 (by simpa using h);rintro m w M ⟨hm,ht⟩;refine an (fun h2=>?_) fun h2 M=>⟨?_,M.below⟩
 ·simp only[decide_eq_true_eq] at h2;obtain⟨x,hx⟩:∃ x,l[m]?=some x:=⟨_,as5 (by omega)⟩;obtain⟨y,hy⟩:∃ y,l'[m]?=some y:=⟨_,as5 (by omega)⟩;obtain⟨b,off,e1,hc⟩:=hcell m x hx;obtain⟨b',off',e2,hc'⟩:=LK m y hy;refine dr (by kernel_rfl)<|ia<|an ⟨e1,rfl,by omega⟩<|lc<|an (atd M.below hc)<|ia<|an ⟨e2,rfl,by omega⟩<|lc<|an (atd M.below hc') fun w2 hb2 M=>an (fun h3 M=>⟨no fun e=>?_,M.below⟩) fun h3=>an (by omega) (bk (m+1) ⟨rfl,trivial⟩ (fun M=>⟨M,by omega,tC ht hx hy ?_⟩) (by dsimp only;omega))
  ·subst e;rw[hx] at hy;obtain rfl:=as_ hy;simp at h3
  ·rw[nH] at h3;simpa using h3
 ·simp only[decide_eq_false_iff_not] at h2;rw[decide_eq_true (GK ht hll (by omega))];rfl
section
variable {α:Type} {p:α→α→Bool} {l r:List α} {m:Nat} {x y:α}
theorem eD(hx:l[m]?=some x)(hy:r[m]?=some y):au p (l.take (m+1)) (r.take (m+1))=(au p (l.take m) (r.take m)&&p x y):=by
 induction l generalizing r m with
 | nil=>simp at hx
 | cons a l ih=>cases r with
  | nil=>simp at hy
  | cons b r=>cases m with
   | zero=>
    simp only[List.getElem?_cons_zero,Option.some.injEq] at hx hy;subst hx hy;simp[au]
   | succ m=>
    simp only[List.getElem?_cons_succ] at hx hy;simp only[List.take_succ_cons,au,ih hx hy,Bool.and_assoc]
theorem eE(h:l.length=r.length):au p (l.take l.length) (r.take l.length)=au p l r:=by
 rw[atc,h,atc]
theorem eC:au p (l.take 0) (r.take 0)=true:=by rw[List.take_zero,List.take_zero];rfl
end
theorem jV{α:Type}[DecidableEq α]:∀ l r:List α,au (fun x y=>decide (x=y)) l r=decide (l=r)
 | [],[]=>by simp[au]
 | [],_::_=>by simp[au]
 | _::_,[]=>by simp[au]
 | x::l,y::r=>by
  rw[au,jV l r];by_cases h:x=y<;>simp[h]
theorem dS{a b:Bool}(h:a=b):(some (Value.bool a))=some (Value.bool b):=by rw[h]
theorem Ve{α:Type}{p:α→α→Bool}{l r:List α}{m:Nat}{x y:α}(hx:l[m]?=some x)(hy:r[m]?=some y)(h:p x y=false):au p l r=false:=by
 induction l generalizing r m with
 | nil=>simp at hx
 | cons a l ih=>cases r with
  | nil=>simp at hy
  | cons b r=>cases m with
   | zero=>
    simp only[List.getElem?_cons_zero,Option.some.injEq] at hx hy;subst hx hy;simp[au,h]
   | succ m=>
    simp only[List.getElem?_cons_succ] at hx hy;simp[au,ih hx hy]
theorem pF:∀ e:aq,∀ (w0:World) (cs cs':List Value) (y:aq),bh w0 cs e→bh w0 cs' y→Calls Tryz.prog 132 #[.agg cs.toArray,.agg cs'.toArray] w0 fun r w'=>r=.returned (.bool (fq e y))∧as2 w0.heap.size w0 w':=by
 refine aq.ind fun e ih=>?_
 intro w0 cs cs' y h h';obtain⟨nv,kv,rfl,NY,hk⟩:=h.open;obtain⟨ka,kc,rfl,-,H9,hcell⟩:=hk.form (by decide);obtain⟨nv',kv',rfl,agh,hk'⟩:=h'.open;obtain⟨ka',kc',rfl,-,-,LK⟩:=hk'.form (by decide);have no:fq e y=false→Ending.returned (nF [Value.bool false])=.returned (.bool (fq e y)):=fun h=>by rw[h];rfl
 refine bX [] (fn:=Tryz.f132) Tryz.func132 rfl Tryz.ntmps132 rfl fun g1 w1 M1=>fun g2 w2 M2=>lb 1<|an rfl<|lb 0<|an rfl<|lb 1<|an (fun _=>rfl)<|lb 0<|an (fun _=>rfl)<|lb 1<|an (fun _=>rfl)<|lb 0<|an (fun _=>rfl)<|lb 1<|an (fun _=>rfl)<|lb 0<|an (fun _=>rfl)<|lb 1<|an (fun _=>rfl)<|lb 0<|an (fun _=>rfl)<|ei<|an (fun _=>⟨yF,fun w=>xP e.set y.set w⟩)<|lb 1<|an (fun _=>rfl)<|lb 0<|an (fun _=>rfl)<|cl<|an (fun _=>mS _ _ _ _ _ (NY.keep M2.below) (agh.keep M2.below)) fun w3 M=>lb 1<|an (fun _=>rfl)<|lb 0<|an (fun _=>rfl)<|an (fun h M=>⟨no ?_,M.below⟩) fun h=>?_
 ·rw[Af];by_cases hl:e.kids.length=y.kids.length
  ·simp only[hl] at h;simp at h ⊢;intro a1 a2 a3 a4 a5 a6
   simp_all
  ·rw[← sP hl,Bool.and_false]
 simp only[Bool.or_eq_false_iff,Bool.not_eq_false',decide_eq_true_eq] at h;obtain⟨⟨⟨⟨⟨⟨h1,h2⟩,h3⟩,h4⟩,h5⟩,h6⟩,h7⟩:=h;have hll:e.kids.length=y.kids.length:=by omega
 have hE:fq e y=au fq e.kids y.kids:=by
  rw[Af];simp[h1,h2,h3,h4,h5,h6]
 refine lr (ι:=Nat) (fun m=>[(5,.int .i64 (m:Int))]) (fun m _=>m≤e.kids.length∧au fq (e.kids.take m) (y.kids.take m)=true) (fun m=>e.kids.length-m) 0 (an ⟨⟨rfl,trivial⟩,fun M=>⟨M,as3 _,eC⟩⟩ ?_);rintro m w M ⟨hm,ht⟩;refine lb 1<|an rfl<|an (fun h8=>?_) fun h8 M=>⟨?_,M.below⟩
 ·simp only[decide_eq_true_eq] at h8;obtain⟨x1,hx⟩:∃ x,e.kids[m]?=some x:=⟨_,as5 (by omega)⟩;obtain⟨x2,hy⟩:∃ x,y.kids[m]?=some x:=⟨_,as5 (by omega)⟩;obtain⟨b1,o1,z1,e1,Dr,-,hr1⟩:=hcell m x1 hx;obtain⟨b2,o2,z2,e2,he2,-,Qf⟩:=LK m x2 hy;obtain⟨SL,kv1,rfl,-⟩:=Dr.open;obtain⟨SK,kv2,rfl,-⟩:=he2.open;refine dr (by kernel_rfl)<|lb 1<|an rfl<|ia<|an ⟨e1,rfl,by omega⟩<|lc<|an (cG M.below hr1)<|lb 0<|an rfl<|ia<|an ⟨e2,rfl,by omega⟩<|lc<|an (cG M.below Qf)<|cl<|an (fun w' hb' M'=>ih x1 (as6 hx) _ _ _ x2 (bh.keep M'.below Dr) (bh.keep M'.below he2)) fun w4 hb4 M=>an (fun h9 M=>⟨no ?_,M.below⟩) fun h9=>an (by omega) (bk (m+1) ⟨rfl,trivial⟩ (fun M=>⟨M,by omega,?_⟩) (by dsimp only;omega))
  ·rw[hE,Ve hx hy (by simpa using h9)]
  ·rw[eD hx hy,ht];simpa using h9
 ·simp only[decide_eq_false_iff_not] at h8;obtain rfl:m=e.kids.length:=by omega
  rw[hE,← eE hll,ht];rfl
theorem zF{α:Type}{p:α→α→Bool}{l r:List α}(h:au p l r=true):l.length=r.length:=by
 by_cases hl:l.length=r.length
 ·exact hl
 ·rw[← sP hl] at h;cases h
theorem D_{p q:aA}(h:kO p q=true):p.classes.length=q.classes.length∧p.types.length=q.types.length∧p.attrs=q.attrs∧p.roles=q.roles∧p.users=q.users∧p.bools=q.bools∧p.aC=q.aC∧p.cats=q.cats:=by
 unfold kO at h;simp only[as4,decide_eq_true_eq] at h;obtain⟨⟨⟨⟨⟨⟨⟨h1,h2⟩,h3⟩,h4⟩,h5⟩,h6⟩,h7⟩,h8⟩:=h;exact⟨zF h1,zF h2,h3,h4,h5,h6,h7,h8⟩
theorem tH(w0:World)(c0 c1 c2 c3 c4 c5 c6 c7 c8 c9 aS aN aM aR aQ aP aO d0 d1 d2 d3 d4 d5 d6 d7 d8 d9 I3 IZ IY IX IW IV IU:Value)(p q:aA)(hp:aJ w0 c0 c1 c2 c3 c4 c5 c6 c7 c8 c9 aS aN aM aR aQ aP aO p)(hq:aJ w0 d0 d1 d2 d3 d4 d5 d6 d7 d8 d9 I3 IZ IY IX IW IV IU q):Calls Tryz.prog 67 #[.agg #[c0,c1,c2,c3,c4,c5,c6,c7,c8,c9,aS,aN,aM,aR,aQ,aP,aO],.agg #[d0,d1,d2,d3,d4,d5,d6,d7,d8,d9,I3,IZ,IY,IX,IW,IV,IU]] w0 fun r w'=>r=.returned (.bool (kO p q))∧as2 w0.heap.size w0 w':=by
 obtain⟨la0,lk0,rfl,-,hm0,hc0⟩:=ak.form hp.classes (by decide);obtain⟨ma0,mk0,rfl,-,-,Yn⟩:=ak.form hq.classes (by decide);obtain⟨la1,lk1,rfl,-,hm1,hc1⟩:=ak.form hp.types (by decide);obtain⟨ma1,mk1,rfl,-,-,hd1⟩:=ak.form hq.types (by decide);obtain⟨la2,lk2,rfl,-,hm2,-⟩:=SliceAt.form hp.attrs (by decide);obtain⟨ma2,mk2,rfl,-⟩:=SliceAt.form hq.attrs (by decide);obtain⟨la3,lk3,rfl,-,hm3,-⟩:=SliceAt.form hp.roles (by decide);obtain⟨ma3,mk3,rfl,-⟩:=SliceAt.form hq.roles (by decide);obtain⟨la4,lk4,rfl,-,hm4,-⟩:=SliceAt.form hp.users (by decide);obtain⟨ma4,mk4,rfl,-⟩:=SliceAt.form hq.users (by decide);obtain⟨gW,gU,rfl,-,hm5,-⟩:=SliceAt.form hp.bools (by decide);obtain⟨ma5,mk5,rfl,-⟩:=SliceAt.form hq.bools (by decide);obtain⟨ka6,kk6,hv6,-⟩:=aH.get hp.aC;have no:kO p q=false→Ending.returned (nF [Value.bool false])=.returned (.bool (kO p q)):=fun h=>by rw[h];rfl
 refine bX [] (fn:=Tryz.f67) Tryz.func67 rfl Tryz.ntmps67 rfl fun g1 w1 M1=>fun g2 w2 M2=>lb 1<|an rfl<|lb 0<|an rfl<|lb 1<|an (fun _=>rfl)<|lb 0<|an (fun _=>rfl)<|lb 1<|an (fun _=>rfl)<|lb 0<|an (fun _=>rfl)<|lb 1<|an (fun _=>rfl)<|lb 0<|an (fun _=>rfl)<|lb 1<|an (fun _=>rfl)<|lb 0<|an (fun _=>rfl)<|lb 1<|an (fun _=>rfl)<|lb 0<|an (fun _=>rfl)<|lb 1<|an (fun _=>rfl)<|lb 0<|an (fun _=>rfl)<|cl<|an (fun _=>mS _ _ _ _ _ (aH.keep hp.aC M2.below) (aH.keep hq.aC M2.below)) fun w3 M=>lb 1<|an (fun _=>rfl)<|lb 0<|an (fun _=>rfl)<|cl<|an (fun _=>mS _ _ _ _ _ (aH.keep hp.cats M.below) (aH.keep hq.cats M.below)) fun w4 M=>an (fun h M=>⟨no ?_,M.below⟩) fun h=>?_
 ·cases hs:kO p q with
  | false=>rfl
  | true=>
   obtain⟨a1,a2,a3,a4,a5,a6,a7,a8⟩:=D_ hs;simp[a1,a2,a3,a4,a5,a6,a7,a8] at h
 simp only[Bool.or_eq_false_iff,Bool.not_eq_false',decide_eq_true_eq] at h;obtain⟨⟨⟨⟨⟨⟨⟨LQ,Uh⟩,Uo⟩,Uk⟩,Ug⟩,Un⟩,hS1⟩,hS2⟩:=h;have LH:p.classes.length=q.classes.length:=by have:=LQ;omega
 have TY:p.types.length=q.types.length:=by have:=Uh;omega
 have Ih:p.attrs.length=q.attrs.length:=by have:=Uo;omega
 have Ic:p.roles.length=q.roles.length:=by have:=Uk;omega
 have H_:p.users.length=q.users.length:=by have:=Ug;omega
 have Ig:p.bools.length=q.bools.length:=by have:=Un;omega
 refine lr (ι:=Nat) (fun m=>[(5,.bool (true&&au oC (p.classes.take m) (q.classes.take m))),(6,.int .i64 (m:Int))]) (fun m _=>m≤p.classes.length) (fun m=>p.classes.length-m) 0 (an ⟨⟨dS (by rw[eC];rfl),rfl,trivial⟩,fun M=>⟨M,as3 _⟩⟩ ?_);intro m w M hm;refine lb 1<|an rfl<|an (fun h=>?_) fun h=>?_
 ·simp only[decide_eq_true_eq] at h;obtain⟨x,hx⟩:∃ x,p.classes[m]?=some x:=⟨_,as5 (by omega)⟩;obtain⟨y,hy⟩:∃ y,q.classes[m]?=some y:=⟨_,as5 (by omega)⟩;obtain⟨b,o,z,e1,hz,-,hc⟩:=hc0 m x hx;obtain⟨b',o',z',e2,hz',-,hc'⟩:=Yn m y hy;obtain⟨pv,rfl,hpv⟩:=hz;obtain⟨pv',rfl,Z0⟩:=hz';refine dr (by kernel_rfl)<|lb 1<|an (fun _=>rfl)<|ia<|an (fun _=>⟨e1,rfl,by omega⟩)<|lc<|an (fun _=>atd M.below (hc 0 _ rfl))<|lb 0<|an (fun _=>rfl)<|ia<|an (fun _=>⟨e2,rfl,by omega⟩)<|lc<|an (fun _=>atd M.below (hc' 0 _ rfl))<|lb 1<|an (fun _=>rfl)<|ia<|an (fun _=>⟨e1,rfl,by omega⟩)<|lc<|an (fun _=>atd M.below (hc 1 _ rfl))<|lb 0<|an (fun _=>rfl)<|ia<|an (fun _=>⟨e2,rfl,by omega⟩)<|lc<|an (fun _=>atd M.below (hc' 1 _ rfl))<|cl<|an (fun _ w' hb' M'=>mS w' _ _ _ _ (hpv.keep M'.below) (Z0.keep M'.below)) fun w2 hb M=>an (by omega) (bk (m+1) ⟨dS (by rw[eD hx hy];unfold oC;simp[Bool.and_assoc,nH]),rfl,trivial⟩ (fun M=>⟨M,by omega⟩) (by dsimp only;omega))
 simp only[decide_eq_false_iff_not] at h;obtain rfl:m=p.classes.length:=by omega
 refine lr (ι:=Nat) (fun m=>[(5,.bool ((true&&au oC p.classes q.classes)&&au pE (p.types.take m) (q.types.take m))),(7,.int .i64 (m:Int))]) (fun m _=>m≤p.types.length) (fun m=>p.types.length-m) 0 (an ⟨⟨dS (by rw[eE LH,eC,Bool.and_true]),rfl,trivial⟩,fun M=>⟨M,as3 _⟩⟩ ?_);intro m w M hm;refine lb 1<|an rfl<|an (fun h=>?_) fun h=>?_
 ·simp only[decide_eq_true_eq] at h;obtain⟨x,hx⟩:∃ x,p.types[m]?=some x:=⟨_,as5 (by omega)⟩;obtain⟨y,hy⟩:∃ y,q.types[m]?=some y:=⟨_,as5 (by omega)⟩;obtain⟨b,o,z,e1,hz,-,hc⟩:=hc1 m x hx;obtain⟨b',o',z',e2,hz',-,hc'⟩:=hd1 m y hy;obtain⟨pv,rfl,hpv⟩:=hz;obtain⟨pv',rfl,Z0⟩:=hz';refine dr (by kernel_rfl)<|lb 1<|an (fun _=>rfl)<|ia<|an (fun _=>⟨e1,rfl,by omega⟩)<|lc<|an (fun _=>atd M.below (hc 0 _ rfl))<|lb 0<|an (fun _=>rfl)<|ia<|an (fun _=>⟨e2,rfl,by omega⟩)<|lc<|an (fun _=>atd M.below (hc' 0 _ rfl))<|lb 1<|an (fun _=>rfl)<|ia<|an (fun _=>⟨e1,rfl,by omega⟩)<|lc<|an (fun _=>atd M.below (hc 2 _ rfl))<|lb 0<|an (fun _=>rfl)<|ia<|an (fun _=>⟨e2,rfl,by omega⟩)<|lc<|an (fun _=>atd M.below (hc' 2 _ rfl))<|lb 1<|an (fun _=>rfl)<|ia<|an (fun _=>⟨e1,rfl,by omega⟩)<|lc<|an (fun _=>atd M.below (hc 1 _ rfl))<|lb 0<|an (fun _=>rfl)<|ia<|an (fun _=>⟨e2,rfl,by omega⟩)<|lc<|an (fun _=>atd M.below (hc' 1 _ rfl))<|cl<|an (fun _ w' hb' M'=>mS w' _ _ _ _ (hpv.keep M'.below) (Z0.keep M'.below)) fun w2 hb M=>an (by omega) (bk (m+1) ⟨dS (by rw[eD hx hy];unfold pE;simp[Bool.and_assoc,nH]),rfl,trivial⟩ (fun M=>⟨M,by omega⟩) (by dsimp only;omega))
 simp only[decide_eq_false_iff_not] at h;obtain rfl:m=p.types.length:=by omega
 refine lr (ι:=Nat) (fun m=>[(5,.bool (((true&&au oC p.classes q.classes)&&au pE p.types q.types)&&au (fun x y=>decide (x=y)) (p.attrs.take m) (q.attrs.take m))),(8,.int .i64 (m:Int))]) (fun m _=>m≤p.attrs.length) (fun m=>p.attrs.length-m) 0 (an ⟨⟨dS (by rw[eE TY,eC,Bool.and_true]),rfl,trivial⟩,fun M=>⟨M,as3 _⟩⟩ ?_);intro m w M hm;refine lb 1<|an rfl<|an (fun h=>?_) fun h=>?_
 ·simp only[decide_eq_true_eq] at h;obtain⟨x,y,b,o,b',o',hx,hy,⟨e1,hc⟩,e2,hc'⟩:=dH (f:=kG.cells) (fun _=>rfl) (by decide) hp.attrs hq.attrs rfl rfl (m:=m) (by omega) Ih M.below;refine dr (by kernel_rfl)<|lb 1<|an (fun _=>rfl)<|ia<|an (fun _=>⟨e1,rfl,by omega⟩)<|lc<|an (fun _=>hc)<|lb 0<|an (fun _=>rfl)<|ia<|an (fun _=>⟨e2,rfl,by omega⟩)<|lc<|an (fun _=>hc')<|ei<|an (fun _=>⟨YG,fun w=>UO x y w⟩) fun w2 hb M=>an (by omega) (bk (m+1) ⟨dS (by rw[eD hx hy,Bool.and_assoc]),rfl,trivial⟩ (fun M=>⟨M,by omega⟩) (by dsimp only;omega))
 simp only[decide_eq_false_iff_not] at h;obtain rfl:m=p.attrs.length:=by omega
 refine lr (ι:=Nat) (fun m=>[(5,.bool ((((true&&au oC p.classes q.classes)&&au pE p.types q.types)&&au (fun x y=>decide (x=y)) p.attrs q.attrs)&&au (fun x y=>decide (x=y)) (p.roles.take m) (q.roles.take m))),(9,.int .i64 (m:Int))]) (fun m _=>m≤p.roles.length) (fun m=>p.roles.length-m) 0 (an ⟨⟨dS (by rw[eE Ih,eC,Bool.and_true]),rfl,trivial⟩,fun M=>⟨M,as3 _⟩⟩ ?_);intro m w M hm;refine lb 1<|an rfl<|an (fun h=>?_) fun h=>?_
 ·simp only[decide_eq_true_eq] at h;obtain⟨x,y,b,o,b',o',hx,hy,⟨e1,hc⟩,e2,hc'⟩:=dH (f:=gP.cells) (fun _=>rfl) (by decide) hp.roles hq.roles rfl rfl (m:=m) (by omega) Ic M.below;refine dr (by kernel_rfl)<|lb 1<|an (fun _=>rfl)<|ia<|an (fun _=>⟨e1,rfl,by omega⟩)<|lc<|an (fun _=>hc)<|lb 0<|an (fun _=>rfl)<|ia<|an (fun _=>⟨e2,rfl,by omega⟩)<|lc<|an (fun _=>hc')<|ei<|an (fun _=>⟨UY,fun w=>UN x y w⟩) fun w2 hb M=>an (by omega) (bk (m+1) ⟨dS (by rw[eD hx hy,Bool.and_assoc]),rfl,trivial⟩ (fun M=>⟨M,by omega⟩) (by dsimp only;omega))
 simp only[decide_eq_false_iff_not] at h;obtain rfl:m=p.roles.length:=by omega
 refine lr (ι:=Nat) (fun m=>[(5,.bool (((((true&&au oC p.classes q.classes)&&au pE p.types q.types)&&au (fun x y=>decide (x=y)) p.attrs q.attrs)&&au (fun x y=>decide (x=y)) p.roles q.roles)&&au (fun x y=>decide (x=y)) (p.users.take m) (q.users.take m))),(10,.int .i64 (m:Int))]) (fun m _=>m≤p.users.length) (fun m=>p.users.length-m) 0 (an ⟨⟨dS (by rw[eE Ic,eC,Bool.and_true]),rfl,trivial⟩,fun M=>⟨M,as3 _⟩⟩ ?_);intro m w M hm;refine lb 1<|an rfl<|an (fun h=>?_) fun h=>?_
 ·simp only[decide_eq_true_eq] at h;obtain⟨x,y,b,o,b',o',hx,hy,⟨e1,hc⟩,e2,hc'⟩:=dH (f:=jX.cells) (fun _=>rfl) (by decide) hp.users hq.users rfl rfl (m:=m) (by omega) H_ M.below;refine dr (by kernel_rfl)<|lb 1<|an (fun _=>rfl)<|ia<|an (fun _=>⟨e1,rfl,by omega⟩)<|lc<|an (fun _=>hc)<|lb 0<|an (fun _=>rfl)<|ia<|an (fun _=>⟨e2,rfl,by omega⟩)<|lc<|an (fun _=>hc')<|ei<|an (fun _=>⟨YF,fun w=>UM x y w⟩) fun w2 hb M=>an (by omega) (bk (m+1) ⟨dS (by rw[eD hx hy,Bool.and_assoc]),rfl,trivial⟩ (fun M=>⟨M,by omega⟩) (by dsimp only;omega))
 simp only[decide_eq_false_iff_not] at h;obtain rfl:m=p.users.length:=by omega
 refine lr (ι:=Nat) (fun m=>[(5,.bool ((((((true&&au oC p.classes q.classes)&&au pE p.types q.types)&&au (fun x y=>decide (x=y)) p.attrs q.attrs)&&au (fun x y=>decide (x=y)) p.roles q.roles)&&au (fun x y=>decide (x=y)) p.users q.users)&&au (fun x y=>decide (x=y)) (p.bools.take m) (q.bools.take m))),(11,.int .i64 (m:Int))]) (fun m _=>m≤p.bools.length) (fun m=>p.bools.length-m) 0 (an ⟨⟨dS (by rw[eE H_,eC,Bool.and_true]),rfl,trivial⟩,fun M=>⟨M,as3 _⟩⟩ ?_);intro m w M hm;refine lb 1<|an rfl<|an (fun h=>?_) fun h=>?_
 ·simp only[decide_eq_true_eq] at h;obtain⟨x,y,b,o,b',o',hx,hy,⟨e1,hc⟩,e2,hc'⟩:=dH (f:=gH.cells) (fun _=>rfl) (by decide) hp.bools hq.bools rfl rfl (m:=m) (by omega) Ig M.below;refine dr (by kernel_rfl)<|lb 1<|an (fun _=>rfl)<|ia<|an (fun _=>⟨e1,rfl,by omega⟩)<|lc<|an (fun _=>hc)<|lb 0<|an (fun _=>rfl)<|ia<|an (fun _=>⟨e2,rfl,by omega⟩)<|lc<|an (fun _=>hc')<|ei<|an (fun _=>⟨YE,fun w=>UL x y w⟩) fun w2 hb M=>an (by omega) (bk (m+1) ⟨dS (by rw[eD hx hy,Bool.and_assoc]),rfl,trivial⟩ (fun M=>⟨M,by omega⟩) (by dsimp only;omega))
 simp only[decide_eq_false_iff_not] at h;obtain rfl:m=p.bools.length:=by omega
 intro M;refine⟨?_,M.below⟩;have e7:p.aC=q.aC:=by simpa using hS1
 have e8:p.cats=q.cats:=by simpa using hS2
 rw[eE Ig,jV,jV,jV,jV];unfold kO;simp only[e7,e8,decide_true,Bool.and_true,Bool.true_and,nF]
def mz(p q:aA):Bool:=(((((au fq p.conds q.conds&&decide (p.rules=q.rules))&&decide (p.trans=q.trans))&&decide (p.aK=q.aK))&&decide (p.ranges=q.ranges))&&au xq p.cons q.cons)
theorem Ea{p q:aA}(h:mz p q=true):p.conds.length=q.conds.length∧p.rules=q.rules∧p.trans=q.trans∧p.aK=q.aK∧p.ranges=q.ranges∧p.cons.length=q.cons.length:=by
 unfold mz at h;simp only[as4,decide_eq_true_eq] at h;obtain⟨⟨⟨⟨⟨h1,h2⟩,h3⟩,h4⟩,h5⟩,h6⟩:=h;exact⟨zF h1,h2,h3,h4,h5,zF h6⟩
theorem yA(w0:World)(c0 c1 c2 c3 c4 c5 c6 c7 c8 c9 aS aN aM aR aQ aP aO d0 d1 d2 d3 d4 d5 d6 d7 d8 d9 I3 IZ IY IX IW IV IU:Value)(p q:aA)(hp:aJ w0 c0 c1 c2 c3 c4 c5 c6 c7 c8 c9 aS aN aM aR aQ aP aO p)(hq:aJ w0 d0 d1 d2 d3 d4 d5 d6 d7 d8 d9 I3 IZ IY IX IW IV IU q):Calls Tryz.prog 68 #[.agg #[c0,c1,c2,c3,c4,c5,c6,c7,c8,c9,aS,aN,aM,aR,aQ,aP,aO],.agg #[d0,d1,d2,d3,d4,d5,d6,d7,d8,d9,I3,IZ,IY,IX,IW,IV,IU]] w0 fun r w'=>r=.returned (.bool (mz p q))∧as2 w0.heap.size w0 w':=by
 obtain⟨la8,lk8,rfl,-,hm8,hc8⟩:=ak.form hp.conds (by decide);obtain⟨ma8,mk8,rfl,-,-,hd8⟩:=ak.form hq.conds (by decide);obtain⟨Ya,Vv,rfl,-,hm9,-⟩:=SliceAt.form hp.rules (by decide);obtain⟨ma9,mk9,rfl,-⟩:=SliceAt.form hq.rules (by decide);obtain⟨Ts,Ti,rfl,-,adg,-⟩:=SliceAt.form hp.trans (by decide);obtain⟨alb,ak5,rfl,-⟩:=SliceAt.form hq.trans (by decide);obtain⟨alo,alh,rfl,-,amd,-⟩:=SliceAt.form hp.aK (by decide);obtain⟨ala,ak4,rfl,-⟩:=SliceAt.form hq.aK (by decide);obtain⟨aln,alg,rfl,-,amc,-⟩:=SliceAt.form hp.ranges (by decide);obtain⟨ak_,ak3,rfl,-⟩:=SliceAt.form hq.ranges (by decide);obtain⟨alm,alf,rfl,-,agt,agM⟩:=ak.form hp.cons (by decide);obtain⟨ak9,ak2,rfl,-,-,agF⟩:=ak.form hq.cons (by decide);have no:mz p q=false→Ending.returned (nF [Value.bool false])=.returned (.bool (mz p q)):=fun h=>by rw[h];rfl
 refine bX [] (fn:=Tryz.f68) Tryz.func68 rfl Tryz.ntmps68 rfl fun g1 w1 M1=>fun g2 w2 M2=>lb 1<|an rfl<|lb 0<|an rfl<|lb 1<|an (fun _=>rfl)<|lb 0<|an (fun _=>rfl)<|lb 1<|an (fun _=>rfl)<|lb 0<|an (fun _=>rfl)<|lb 1<|an (fun _=>rfl)<|lb 0<|an (fun _=>rfl)<|lb 1<|an (fun _=>rfl)<|lb 0<|an (fun _=>rfl)<|lb 1<|an (fun _=>rfl)<|lb 0<|an (fun _=>rfl)<|an (fun h M=>⟨no ?_,M.below⟩) fun h=>?_
 ·cases hs:mz p q with
  | false=>rfl
  | true=>
   obtain⟨a1,a2,a3,a4,a5,a6⟩:=Ea hs;simp[a1,a2,a3,a4,a5,a6] at h
 simp only[Bool.or_eq_false_iff,Bool.not_eq_false',decide_eq_true_eq] at h;obtain⟨⟨⟨⟨⟨Um,Uj⟩,Ui⟩,Qi⟩,Qj⟩,W8⟩:=h;have T2:p.conds.length=q.conds.length:=by have:=Um;omega
 have Ib:p.rules.length=q.rules.length:=by have:=Uj;omega
 have Ia:p.trans.length=q.trans.length:=by have:=Ui;omega
 have Dp:p.aK.length=q.aK.length:=by have:=Qi;omega
 have Dq:p.ranges.length=q.ranges.length:=by have:=Qj;omega
 have WU:p.cons.length=q.cons.length:=by have:=W8;omega
 refine lr (ι:=Nat) (fun m=>[(5,.bool (true&&au fq (p.conds.take m) (q.conds.take m))),(6,.int .i64 (m:Int))]) (fun m _=>m≤p.conds.length) (fun m=>p.conds.length-m) 0 (an ⟨⟨dS (by rw[eC];rfl),rfl,trivial⟩,fun M=>⟨M,as3 _⟩⟩ ?_);intro m w M hm;refine lb 1<|an rfl<|an (fun h=>?_) fun h=>?_
 ·simp only[decide_eq_true_eq] at h;obtain⟨x,hx⟩:∃ x,p.conds[m]?=some x:=⟨_,as5 (by omega)⟩;obtain⟨y,hy⟩:∃ y,q.conds[m]?=some y:=⟨_,as5 (by omega)⟩;obtain⟨b,o,z,e1,hz,-,hc⟩:=hc8 m x hx;obtain⟨b',o',z',e2,hz',-,hc'⟩:=hd8 m y hy;obtain⟨SL,kv1,rfl,-⟩:=hz.open;obtain⟨SK,kv2,rfl,-⟩:=hz'.open;refine dr (by kernel_rfl)<|lb 1<|an (fun _=>rfl)<|ia<|an (fun _=>⟨e1,rfl,by omega⟩)<|lc<|an (fun _=>cG M.below hc)<|lb 0<|an (fun _=>rfl)<|ia<|an (fun _=>⟨e2,rfl,by omega⟩)<|lc<|an (fun _=>cG M.below hc')<|cl<|an (fun _ w' hb' M'=>pF x _ _ _ y (bh.keep M'.below hz) (bh.keep M'.below hz')) fun w2 hb M=>an (by omega) (bk (m+1) ⟨dS (by rw[eD hx hy];simp[]),rfl,trivial⟩ (fun M=>⟨M,by omega⟩) (by dsimp only;omega))
 simp only[decide_eq_false_iff_not] at h;obtain rfl:m=p.conds.length:=by omega
 refine lr (ι:=Nat) (fun m=>[(5,.bool ((true&&au fq p.conds q.conds)&&au (fun x y=>decide (x=y)) (p.rules.take m) (q.rules.take m))),(7,.int .i64 (m:Int))]) (fun m _=>m≤p.rules.length) (fun m=>p.rules.length-m) 0 (an ⟨⟨dS (by rw[eE T2,eC,Bool.and_true]),rfl,trivial⟩,fun M=>⟨M,as3 _⟩⟩ ?_);intro m w M hm;refine lb 1<|an rfl<|an (fun h=>?_) fun h=>?_
 ·simp only[decide_eq_true_eq] at h;obtain⟨x,y,b,o,b',o',hx,hy,⟨e1,hc⟩,e2,hc'⟩:=dH (f:=aj.cells) (fun _=>rfl) (by decide) hp.rules hq.rules rfl rfl (m:=m) (by omega) Ib M.below;refine dr (by kernel_rfl)<|lb 1<|an (fun _=>rfl)<|ia<|an (fun _=>⟨e1,rfl,by omega⟩)<|lc<|an (fun _=>hc)<|lb 0<|an (fun _=>rfl)<|ia<|an (fun _=>⟨e2,rfl,by omega⟩)<|lc<|an (fun _=>hc')<|ei<|an (fun _=>⟨aaS,fun w=>UH x y w⟩) fun w2 hb M=>an (by omega) (bk (m+1) ⟨dS (by rw[eD hx hy,Bool.and_assoc]),rfl,trivial⟩ (fun M=>⟨M,by omega⟩) (by dsimp only;omega))
 simp only[decide_eq_false_iff_not] at h;obtain rfl:m=p.rules.length:=by omega
 refine lr (ι:=Nat) (fun m=>[(5,.bool (((true&&au fq p.conds q.conds)&&au (fun x y=>decide (x=y)) p.rules q.rules)&&au (fun x y=>decide (x=y)) (p.trans.take m) (q.trans.take m))),(8,.int .i64 (m:Int))]) (fun m _=>m≤p.trans.length) (fun m=>p.trans.length-m) 0 (an ⟨⟨dS (by rw[eE Ib,eC,Bool.and_true]),rfl,trivial⟩,fun M=>⟨M,as3 _⟩⟩ ?_);intro m w M hm;refine lb 1<|an rfl<|an (fun h=>?_) fun h=>?_
 ·simp only[decide_eq_true_eq] at h;obtain⟨x,y,b,o,b',o',hx,hy,⟨e1,hc⟩,e2,hc'⟩:=dH (f:=bD.cells) (fun _=>rfl) (by decide) hp.trans hq.trans rfl rfl (m:=m) (by omega) Ia M.below;refine dr (by kernel_rfl)<|lb 1<|an (fun _=>rfl)<|ia<|an (fun _=>⟨e1,rfl,by omega⟩)<|lc<|an (fun _=>hc)<|lb 0<|an (fun _=>rfl)<|ia<|an (fun _=>⟨e2,rfl,by omega⟩)<|lc<|an (fun _=>hc')<|ei<|an (fun _=>⟨adV,fun w=>YB x y w⟩) fun w2 hb M=>an (by omega) (bk (m+1) ⟨dS (by rw[eD hx hy,Bool.and_assoc]),rfl,trivial⟩ (fun M=>⟨M,by omega⟩) (by dsimp only;omega))
 simp only[decide_eq_false_iff_not] at h;obtain rfl:m=p.trans.length:=by omega
 refine lr (ι:=Nat) (fun m=>[(5,.bool ((((true&&au fq p.conds q.conds)&&au (fun x y=>decide (x=y)) p.rules q.rules)&&au (fun x y=>decide (x=y)) p.trans q.trans)&&au (fun x y=>decide (x=y)) (p.aK.take m) (q.aK.take m))),(9,.int .i64 (m:Int))]) (fun m _=>m≤p.aK.length) (fun m=>p.aK.length-m) 0 (an ⟨⟨dS (by rw[eE Ia,eC,Bool.and_true]),rfl,trivial⟩,fun M=>⟨M,as3 _⟩⟩ ?_);intro m w M hm;refine lb 1<|an rfl<|an (fun h=>?_) fun h=>?_
 ·simp only[decide_eq_true_eq] at h;obtain⟨x,y,b,o,b',o',hx,hy,⟨e1,hc⟩,e2,hc'⟩:=dH (f:=kD.cells) (fun _=>rfl) (by decide) hp.aK hq.aK rfl rfl (m:=m) (by omega) Dp M.below;refine dr (by kernel_rfl)<|lb 1<|an (fun _=>rfl)<|ia<|an (fun _=>⟨e1,rfl,by omega⟩)<|lc<|an (fun _=>hc)<|lb 0<|an (fun _=>rfl)<|ia<|an (fun _=>⟨e2,rfl,by omega⟩)<|lc<|an (fun _=>hc')<|ei<|an (fun _=>⟨YD,fun w=>UK x y w⟩) fun w2 hb M=>an (by omega) (bk (m+1) ⟨dS (by rw[eD hx hy,Bool.and_assoc]),rfl,trivial⟩ (fun M=>⟨M,by omega⟩) (by dsimp only;omega))
 simp only[decide_eq_false_iff_not] at h;obtain rfl:m=p.aK.length:=by omega
 refine lr (ι:=Nat) (fun m=>[(5,.bool (((((true&&au fq p.conds q.conds)&&au (fun x y=>decide (x=y)) p.rules q.rules)&&au (fun x y=>decide (x=y)) p.trans q.trans)&&au (fun x y=>decide (x=y)) p.aK q.aK)&&au (fun x y=>decide (x=y)) (p.ranges.take m) (q.ranges.take m))),(10,.int .i64 (m:Int))]) (fun m _=>m≤p.ranges.length) (fun m=>p.ranges.length-m) 0 (an ⟨⟨dS (by rw[eE Dp,eC,Bool.and_true]),rfl,trivial⟩,fun M=>⟨M,as3 _⟩⟩ ?_);intro m w M hm;refine lb 1<|an rfl<|an (fun h=>?_) fun h=>?_
 ·simp only[decide_eq_true_eq] at h;obtain⟨x,y,b,o,b',o',hx,hy,⟨e1,hc⟩,e2,hc'⟩:=dH (f:=kE.cells) (fun _=>rfl) (by decide) hp.ranges hq.ranges rfl rfl (m:=m) (by omega) Dq M.below;refine dr (by kernel_rfl)<|lb 1<|an (fun _=>rfl)<|ia<|an (fun _=>⟨e1,rfl,by omega⟩)<|lc<|an (fun _=>hc)<|lb 0<|an (fun _=>rfl)<|ia<|an (fun _=>⟨e2,rfl,by omega⟩)<|lc<|an (fun _=>hc')<|ei<|an (fun _=>⟨YC,fun w=>UJ x y w⟩) fun w2 hb M=>an (by omega) (bk (m+1) ⟨dS (by rw[eD hx hy,Bool.and_assoc]),rfl,trivial⟩ (fun M=>⟨M,by omega⟩) (by dsimp only;omega))
 simp only[decide_eq_false_iff_not] at h;obtain rfl:m=p.ranges.length:=by omega
 refine lr (ι:=Nat) (fun m=>[(5,.bool ((((((true&&au fq p.conds q.conds)&&au (fun x y=>decide (x=y)) p.rules q.rules)&&au (fun x y=>decide (x=y)) p.trans q.trans)&&au (fun x y=>decide (x=y)) p.aK q.aK)&&au (fun x y=>decide (x=y)) p.ranges q.ranges)&&au xq (p.cons.take m) (q.cons.take m))),(11,.int .i64 (m:Int))]) (fun m _=>m≤p.cons.length) (fun m=>p.cons.length-m) 0 (an ⟨⟨dS (by rw[eE Dq,eC,Bool.and_true]),rfl,trivial⟩,fun M=>⟨M,as3 _⟩⟩ ?_);intro m w M hm;refine lb 1<|an rfl<|an (fun h=>?_) fun h=>?_
 ·simp only[decide_eq_true_eq] at h;obtain⟨x,hx⟩:∃ x,p.cons[m]?=some x:=⟨_,as5 (by omega)⟩;obtain⟨y,hy⟩:∃ y,q.cons[m]?=some y:=⟨_,as5 (by omega)⟩;obtain⟨b,o,z,e1,hz,-,hc⟩:=agM m x hx;obtain⟨b',o',z',e2,hz',-,hc'⟩:=agF m y hy;obtain⟨Qy,rfl,hz1⟩:=hz;obtain⟨es2,rfl,hz2⟩:=hz';obtain⟨SL,kv1,rfl,hn1,hk1⟩:=hz1.open;obtain⟨SK,kv2,rfl,hn2,hk2⟩:=hz2.open;obtain⟨_,_,rfl,-⟩:=hn1.get;obtain⟨_,_,rfl,-⟩:=hn2.get;obtain⟨_,_,rfl,-⟩:=hk1.form (by decide);obtain⟨_,_,rfl,-⟩:=hk2.form (by decide);refine dp (by kernel_rfl)<|lb 1<|an rfl<|ia<|an ⟨e1,rfl,by omega⟩<|lc<|an (cG M.below hc)<|lb 0<|an rfl<|ia<|an ⟨e2,rfl,by omega⟩<|lc<|an (cG M.below hc')<|ei<|ei<|an ⟨JF,JF⟩<|an ⟨rfl,rfl⟩ fun g3 g4 w2 hb2 M=>?_
  refine lb 0<|an (fun _=>rfl)<|lb 1<|an (fun _=>rfl)<|lb 0<|an (fun _=>rfl)<|lb 1<|an (fun _=>rfl)<|lb 0<|an (fun _=>rfl)<|lb 1<|an (fun _=>rfl)<|lb 0<|an (fun _=>rfl)<|lb 1<|an (fun _=>rfl)<|cl<|an (fun _=>pF x.expr _ _ _ y.expr (bh.keep M.below hz1) (bh.keep M.below hz2)) fun w3 M=>an (by omega) (bk (m+1) ⟨dS (by rw[eD hx hy];unfold xq;simp[Bool.and_assoc]),rfl,trivial⟩ (fun M=>⟨M.only (.cons _ (.cons _ (.refl _))) (.refl _),by omega⟩) (by dsimp only;omega))
 simp only[decide_eq_false_iff_not] at h;obtain rfl:m=p.cons.length:=by omega
 intro M;refine⟨?_,M.below⟩;rw[eE WU,jV,jV,jV,jV];unfold mz;simp only[Bool.true_and,nF]
theorem vC(w0:World)(c0 c1 c2 c3 c4 c5 c6 c7 c8 c9 aS aN aM aR aQ aP aO d0 d1 d2 d3 d4 d5 d6 d7 d8 d9 I3 IZ IY IX IW IV IU:Value)(p q:aA)(hp:aJ w0 c0 c1 c2 c3 c4 c5 c6 c7 c8 c9 aS aN aM aR aQ aP aO p)(hq:aJ w0 d0 d1 d2 d3 d4 d5 d6 d7 d8 d9 I3 IZ IY IX IW IV IU q):Calls Tryz.prog 23 #[.agg #[c0,c1,c2,c3,c4,c5,c6,c7,c8,c9,aS,aN,aM,aR,aQ,aP,aO],.agg #[d0,d1,d2,d3,d4,d5,d6,d7,d8,d9,I3,IZ,IY,IX,IW,IV,IU]] w0 fun r w'=>r=.returned (.bool (jq p q))∧as2 w0.heap.size w0 w':=by
 obtain⟨alk,ale,rfl,-,amb,-⟩:=SliceAt.form hp.bH (by decide);obtain⟨ak8,ak1,rfl,-⟩:=SliceAt.form hq.bH (by decide);obtain⟨alj,ald,rfl,-,ama,-⟩:=SliceAt.form hp.files (by decide);obtain⟨ak7,ak0,rfl,-⟩:=SliceAt.form hq.files (by decide);obtain⟨ali,alc,rfl,-,al9,-⟩:=SliceAt.form hp.asserts (by decide);obtain⟨ak6,akZ,rfl,-⟩:=SliceAt.form hq.asserts (by decide)
 have hE:jq p q=((((kO p q&&mz p q)&&decide (p.bH=q.bH))&&decide (p.files=q.files))&&decide (p.asserts=q.asserts)):=by
  unfold jq mz;simp only[Bool.and_assoc]
 have no:jq p q=false→Ending.returned (nF [Value.bool false])=.returned (.bool (jq p q)):=fun h=>by rw[h];rfl
 refine bX [] (fn:=Tryz.f23) Tryz.func23 rfl Tryz.ntmps23 rfl fun g1 w1 M1=>fun g2 w2 M2=>lb 1<|an rfl<|lb 0<|an rfl<|cl<|an (tH _ _ _ _ _ _ _ _ _ _ _ _ _ _ _ _ _ _ _ _ _ _ _ _ _ _ _ _ _ _ _ _ _ _ _ p q (hp.keep M2.below) (hq.keep M2.below)) fun w3 M3=>lb 1<|an (fun _=>rfl)<|lb 0<|an (fun _=>rfl)<|cl<|an (fun _=>yA _ _ _ _ _ _ _ _ _ _ _ _ _ _ _ _ _ _ _ _ _ _ _ _ _ _ _ _ _ _ _ _ _ _ _ p q (hp.keep M3.below) (hq.keep M3.below)) fun w4 M4=>lb 1<|an (fun _=>rfl)<|lb 0<|an (fun _=>rfl)<|lb 1<|an (fun _=>rfl)<|lb 0<|an (fun _=>rfl)<|lb 1<|an (fun _=>rfl)<|lb 0<|an (fun _=>rfl)<|an (fun h M=>⟨no ?_,M.below⟩) fun h=>?_
 ·rw[hE]
  cases hs:(((kO p q&&mz p q)&&decide (p.bH=q.bH))&&decide (p.files=q.files))&&decide (p.asserts=q.asserts) with
  | false=>rfl
  | true=>
   simp only[as4,decide_eq_true_eq] at hs;obtain⟨⟨⟨⟨a1,a2⟩,a3⟩,a4⟩,a5⟩:=hs;simp[a1,a2,a3,a4,a5] at h
 simp only[Bool.or_eq_false_iff,Bool.not_eq_false',decide_eq_true_eq] at h;obtain⟨⟨⟨⟨hsy,hru⟩,W7⟩,Ul⟩,LS⟩:=h;have NZ:p.bH.length=q.bH.length:=by have:=W7;omega
 have Ie:p.files.length=q.files.length:=by have:=Ul;omega
 have A_:p.asserts.length=q.asserts.length:=by have:=LS;omega
 refine lr (ι:=Nat) (fun m=>[(5,.bool (true&&au (fun x y=>decide (x=y)) (p.bH.take m) (q.bH.take m))),(6,.int .i64 (m:Int))]) (fun m _=>m≤p.bH.length) (fun m=>p.bH.length-m) 0 (an ⟨⟨dS (by rw[eC];rfl),rfl,trivial⟩,fun M=>⟨M,as3 _⟩⟩ ?_);intro m w M hm;refine lb 1<|an rfl<|an (fun h=>?_) fun h=>?_
 ·simp only[decide_eq_true_eq] at h;obtain⟨x,y,b,o,b',o',hx,hy,⟨e1,hc⟩,e2,hc'⟩:=dH (f:=kC.cells) (fun _=>rfl) (by decide) hp.bH hq.bH rfl rfl (m:=m) (by omega) NZ M.below;refine dr (by kernel_rfl)<|lb 1<|an (fun _=>rfl)<|ia<|an (fun _=>⟨e1,rfl,by omega⟩)<|lc<|an (fun _=>hc)<|lb 0<|an (fun _=>rfl)<|ia<|an (fun _=>⟨e2,rfl,by omega⟩)<|lc<|an (fun _=>hc')<|ei<|an (fun _=>⟨YJ,fun w=>UU x y w⟩) fun w2 hb M=>an (by omega) (bk (m+1) ⟨dS (by rw[eD hx hy,Bool.and_assoc]),rfl,trivial⟩ (fun M=>⟨M,by omega⟩) (by dsimp only;omega))
 simp only[decide_eq_false_iff_not] at h;obtain rfl:m=p.bH.length:=by omega
 refine lr (ι:=Nat) (fun m=>[(5,.bool ((true&&au (fun x y=>decide (x=y)) p.bH q.bH)&&au (fun x y=>decide (x=y)) (p.files.take m) (q.files.take m))),(7,.int .i64 (m:Int))]) (fun m _=>m≤p.files.length) (fun m=>p.files.length-m) 0 (an ⟨⟨dS (by rw[eE NZ,eC,Bool.and_true]),rfl,trivial⟩,fun M=>⟨M,as3 _⟩⟩ ?_);intro m w M hm;refine lb 1<|an rfl<|an (fun h=>?_) fun h=>?_
 ·simp only[decide_eq_true_eq] at h;obtain⟨x,y,b,o,b',o',hx,hy,⟨e1,hc⟩,e2,hc'⟩:=dH (f:=kF.cells) (fun _=>rfl) (by decide) hp.files hq.files rfl rfl (m:=m) (by omega) Ie M.below;refine dr (by kernel_rfl)<|lb 1<|an (fun _=>rfl)<|ia<|an (fun _=>⟨e1,rfl,by omega⟩)<|lc<|an (fun _=>hc)<|lb 0<|an (fun _=>rfl)<|ia<|an (fun _=>⟨e2,rfl,by omega⟩)<|lc<|an (fun _=>hc')<|ei<|an (fun _=>⟨YI,fun w=>UR x y w⟩) fun w2 hb M=>an (by omega) (bk (m+1) ⟨dS (by rw[eD hx hy,Bool.and_assoc]),rfl,trivial⟩ (fun M=>⟨M,by omega⟩) (by dsimp only;omega))
 simp only[decide_eq_false_iff_not] at h;obtain rfl:m=p.files.length:=by omega
 refine lr (ι:=Nat) (fun m=>[(5,.bool (((true&&au (fun x y=>decide (x=y)) p.bH q.bH)&&au (fun x y=>decide (x=y)) p.files q.files)&&au (fun x y=>decide (x=y)) (p.asserts.take m) (q.asserts.take m))),(8,.int .i64 (m:Int))]) (fun m _=>m≤p.asserts.length) (fun m=>p.asserts.length-m) 0 (an ⟨⟨dS (by rw[eE Ie,eC,Bool.and_true]),rfl,trivial⟩,fun M=>⟨M,as3 _⟩⟩ ?_);intro m w M hm;refine lb 1<|an rfl<|an (fun h=>?_) fun h=>?_
 ·simp only[decide_eq_true_eq] at h;obtain⟨x,y,b,o,b',o',hx,hy,⟨e1,hc⟩,e2,hc'⟩:=dH (f:=kH.cells) (fun _=>rfl) (by decide) hp.asserts hq.asserts rfl rfl (m:=m) (by omega) A_ M.below;refine dr (by kernel_rfl)<|lb 1<|an (fun _=>rfl)<|ia<|an (fun _=>⟨e1,rfl,by omega⟩)<|lc<|an (fun _=>hc)<|lb 0<|an (fun _=>rfl)<|ia<|an (fun _=>⟨e2,rfl,by omega⟩)<|lc<|an (fun _=>hc')<|ei<|an (fun _=>⟨YH,fun w=>UQ x y w⟩) fun w2 hb M=>an (by omega) (bk (m+1) ⟨dS (by rw[eD hx hy,Bool.and_assoc]),rfl,trivial⟩ (fun M=>⟨M,by omega⟩) (by dsimp only;omega))
 simp only[decide_eq_false_iff_not] at h;obtain rfl:m=p.asserts.length:=by omega
 intro M;refine⟨?_,M.below⟩;rw[eE A_,jV,jV,jV,hE,hsy,hru];simp only[Bool.true_and,nF]
theorem SliceAt.lo{w:World}{g off n c l k:Nat}{xs:List Value}(h:SliceAt w (.slice (some ⟨g,off,none⟩) n c) k n xs)(hl:l≤n):SliceAt w (.slice (if c=l then some ⟨g,off,none⟩ else some ⟨g,off+l*k,none⟩) (n-l) (c-l)) k (n-l) (xs.drop (l*k)):=by
 obtain⟨h1,h2,h3,h4⟩:=h;rcases h4 with⟨h,-⟩|⟨a,c',e,h5,h6⟩
 ·cases h
 cases e;refine⟨by rw[List.length_drop,h1,Nat.sub_mul],by omega,fun u hu=>h3 u (List.mem_of_mem_drop hu),.inr ?_⟩;by_cases hc:c=l
 ·rw[if_pos hc];exact⟨_,_,rfl,by omega,fun j u hu=>by rw[List.drop_of_length_le (by rw[h1];exact Nat.mul_le_mul_right _ (by omega))] at hu;simp at hu⟩
 ·rw[if_neg hc];refine⟨_,_,rfl,by omega,fun j u hu=>?_⟩;rw[List.getElem?_drop] at hu;have:=h6 _ _ hu;rw[Addr.add_mid] at this ⊢;rw[Nat.add_assoc];exact this
theorem SliceAt.hi{w:World}{g off n c l k:Nat}{xs:List Value}(h:SliceAt w (.slice (some ⟨g,off,none⟩) n c) k n xs)(hl:l≤n):SliceAt w (.slice (some ⟨g,off,none⟩) l c) k l (xs.take (l*k)):=by
 obtain⟨h1,h2,h3,h4⟩:=h;rcases h4 with⟨h,-⟩|⟨a,c',e,h5,h6⟩
 ·cases h
 cases e;refine⟨by rw[List.length_take,h1,Nat.min_eq_left (Nat.mul_le_mul_right _ hl)],by omega,fun u hu=>h3 u (List.mem_of_mem_take hu),.inr ⟨_,_,rfl,by omega,fun j u hu=>h6 _ _ ?_⟩⟩;rw[List.getElem?_take] at hu;split at hu
 ·exact hu
 ·cases hu
def Vo(p:aA):Value→World→Prop:=fun v w=>∃ c0 c1 c2 c3 c4 c5 c6 c7 c8 c9 aS aN aM aR aQ aP aO:Value,v=.agg #[c0,c1,c2,c3,c4,c5,c6,c7,c8,c9,aS,aN,aM,aR,aQ,aP,aO]∧aJ w c0 c1 c2 c3 c4 c5 c6 c7 c8 c9 aS aN aM aR aQ aP aO p
def ahJ(S:World→Prop)(c0 c1 c2 c3 c4 c5 c6 c7 c8 c9 aS aN aM aR aQ aP aO:Value)(p:aA):Prop:=∃ es:List (List Value),es.length=p.conds.length∧(∀ x∈es,x.length=10)∧∀ u,S u→aJ u c0 c1 c2 c3 c4 c5 c6 c7 c8 c9 aS aN aM aR aQ aP aO p∧SliceAt u c8 10 p.conds.length es.flatten∧∀ (i:Nat) x y,es[i]?=some x→p.conds[i]?=some y→bh u x y
def aeg(S:World→Prop)(w0:World)(q:aA):Value→World→Prop:=fun v w=>∃ (c0 c1 c2 c3 c4 c5 c6 c7 c8 c9 aS aN aM aR aQ aP aO:Value) (T:List Rw),v=.agg #[c0,c1,c2,c3,c4,c5,c6,c7,c8,c9,aS,aN,aM,aR,aQ,aP,aO]∧RowsIn w0.heap.size w T∧ahJ (fun u=>S u∧∃ B,RowsIn B u T) c0 c1 c2 c3 c4 c5 c6 c7 c8 c9 aS aN aM aR aQ aP aO q
theorem aeg.o{S:World→Prop}{w0 w:World}{q:aA}{v:Value}(h:aeg S w0 q v w)(hS:S w):Vo q v w:=by
 obtain⟨c0,c1,c2,c3,c4,c5,c6,c7,c8,c9,aS,aN,aM,aR,aQ,aP,aO,T,e,hT,es,-,-,hP⟩:=h;exact⟨c0,c1,c2,c3,c4,c5,c6,c7,c8,c9,aS,aN,aM,aR,aQ,aP,aO,e,(hP w ⟨hS,_,hT⟩).1⟩
inductive iM (n:Nat):aq→Prop
 | bool {a rel b:Int} {ns:List ByteArray} {s:ay}:0≤a→a<n→iM n (.node 1 a rel b ns s [])
 | not {a rel b:Int} {ns:List ByteArray} {s:ay} {k:aq}:iM n k→iM n (.node 2 a rel b ns s [k])
 | bin {op a rel b:Int} {ns:List ByteArray} {s:ay} {k l:aq}:3≤op→op≤7→iM n k→iM n l→iM n (.node op a rel b ns s [k,l])
theorem aa0{n i:Nat}{a:Int}(h0:0≤a)(h1:a<n):Vd (Xl n (KV n i)) a=i.testBit a.toNat:=by
 have ha:a.toNat<n:=by omega
 unfold Vd Xl KV;rw[decide_eq_true h0,Bool.true_and,as9,List.getElem?_range ha];simp only[Option.map_some,Option.getD_some];unfold Vd;rw[decide_eq_true (Int.natCast_nonneg _),Bool.true_and,Int.toNat_natCast,as9,List.getElem?_range ha];rfl
theorem Za{n i:Nat}{e:aq}(h:iM n e):wV (Xl n (KV n i)) e=nD n i e:=by
 induction h with
 | @bool a rel b ns s h0 h1=>
  rw[zT,mH];show oU _ 1 a []=Cr n i 1 a []
  have hb:cQ n 1 a 0=false:=by
   have:¬ a<0:=by omega
   have h2:¬ (n:Int)≤a:=by omega
   simp[cQ,pR,this,h2]
  unfold oU Cr;rw[if_pos rfl,List.length_nil,hb,if_neg (by decide),if_pos rfl,aa0 h0 h1]
 | @not a rel b ns s k hk ih=>
  rw[zT,mH];show oU _ 2 a [wV _ k]=Cr n i 2 a [nD n i k];rw[ih];have hb:cQ n 2 a 1=false:=by simp[cQ,pR]
  unfold oU Cr;simp[hb]
 | @bin op a rel b ns s k l h3 h7 hk hl ihk ihl=>
  rw[zT,mH];show oU _ op a [wV _ k,wV _ l]=Cr n i op a [nD n i k,nD n i l];rw[ihk,ihl]
  have hb:cQ n op a 2=false:=by
   have h1:¬ op=1:=by omega
   have h2:¬ op=2:=by omega
   simp[cQ,pR,h1,h2]
  unfold oU Cr;have e:op=3∨op=4∨op=5∨op=6∨op=7:=by omega
  generalize nD n i k=x;generalize nD n i l=y;rcases e with rfl|rfl|rfl|rfl|rfl<;>simp[hb]<;>cases x<;>cases y<;>rfl
theorem X2{n i:Nat}{conds:List aq}(hc:∀ e∈conds,iM n e){k:Int}(hk:-(conds.length:Int)≤k∧k≤conds.length):Wr n conds (KV n i) k=uV n conds k i:=by
 have get:∀ m,m<conds.length→((MU n conds (KV n i))[m]?).getD false=match conds[m]? with|some e=>nD n i e|none=>false:=fun m hm=>by
  obtain⟨e,he⟩:∃ e,conds[m]?=some e:=⟨_,as5 hm⟩;rw[he];unfold MU;rw[as9,he];exact Za (hc e (as6 he))
 unfold Wr uV;by_cases h1:0<k∧k≤conds.length
 ·rw[if_pos h1,if_pos h1,get _ (by omega)];cases conds[(k-1).toNat]?<;>rfl
 ·rw[if_neg h1,if_neg h1];by_cases h2:k<0∧0-(conds.length:Int)≤k
  ·rw[if_pos h2,if_pos h2,get _ (by omega)];cases conds[(0-k-1).toNat]?<;>rfl
  ·rw[if_neg h2,if_neg h2,decide_eq_true (by omega)]
theorem uo{T C:Nat}{f g:aj→Bool}:∀ (l:List aj) (out:List Int),(∀ r∈l,f r=g r)→eH T C f out l=eH T C g out l
 | [],_,_=>rfl
 | r::l,out,h=>by
  unfold eH;rw[List.foldl_cons,List.foldl_cons,h r (ate ..)];exact uo l _ fun x hx=>h x (atf _ hx)
structure fA (p:aA):Prop where
 bools:p.bools.length≤5
 rv:∀ r∈p.rules,RV p.types.length p.classes.length r
 four:∀ r∈p.rules,r.kind=4→r.cond=0
 conds:∀ e∈p.conds,iM p.bools.length e
 lu:∀ r∈p.rules,-(p.conds.length:Int)≤r.cond∧r.cond≤p.conds.length
 oF:∀ y∈p.trans,-(p.conds.length:Int)≤y.cond∧y.cond≤p.conds.length
theorem Ah{p:aA}(h:fA p)(i:Nat):Kw p i=dF p.types.length p.classes.length (fun r=>uV p.bools.length p.conds r.cond i) p.rules:=
 uo _ _ fun r hr=>X2 h.conds (h.lu r hr)
theorem S9{p q:aA}(hp:fA p)(hq:fA q)(hT:p.types.length=q.types.length)(hC:p.classes.length=q.classes.length)(hB:p.bools.length=q.bools.length):jY p=jY q↔(ud (fN p) (fN q)=true∧ud (fN q) (fN p)=true):=by
 have h:=S_ (T:=p.types.length) (C:=p.classes.length) hp.bools (ca:=p.conds) (cb:=q.conds) hp.rv (hT▸hC▸hq.rv) hp.four hq.four;have e1:XW p.bools.length p.conds p.rules=fN p:=rfl;have e2:XW p.bools.length q.conds q.rules=fN q:=by rw[hB];rfl
 rw[e1,e2] at h;rw[← h];unfold jY;rw[← hB,List.map_inj_left];refine forall_congr' fun i=>?_
 rw[List.mem_range,Ah hp,Ah hq,← hT,← hC,← hB]
theorem Ir{α β:Type}{f g:α→Option β}:∀ (l:List α),(∀ x∈l,f x=g x)→l.filterMap f=l.filterMap g
 | [],_=>rfl
 | x::l,h=>by rw[List.filterMap_cons,List.filterMap_cons,h x (ate ..),Ir l fun y hy=>h y (atf _ hy)]
def iG:gP:=⟨⟨#[111,98,106,101,99,116,95,114]⟩,ay.zero,ay.zero⟩
theorem L0(r:gP)(w:World):(Op.equalIn 10000 188 (.agg #[.string r.name,.int .u64 r.types.a,.int .u64 r.types.b,.int .u64 r.types.c,.int .u64 r.types.d,.int .u64 r.next.a,.int .u64 r.next.b,.int .u64 r.next.c,.int .u64 r.next.d]) (.agg #[.string ⟨#[111,98,106,101,99,116,95,114]⟩,.int .u64 0,.int .u64 0,.int .u64 0,.int .u64 0,.int .u64 0,.int .u64 0,.int .u64 0,.int .u64 0])).run Tryz.prog w=.ok (decide (r=iG)) w:=by
 rw[show(10000:Nat)=9997+3 from rfl,UF];congr 1;rw[Bool.eq_iff_iff];obtain⟨n,⟨a,b,c,d⟩,⟨a',b',c',d'⟩⟩:=r;simp only[decide_eq_true_eq,iG,ay.zero,ay.mk.injEq,gP.mk.injEq,and_assoc];refine and_congr_right fun _=>?_
 omega
def Nr(nT nR:Nat)(before:List ByteArray)(y:gP):Int:=
 if bE [y.name] before=0 then
  (if y.types.within (ay.all nT)=false then 3 else if vE nR y.next=false then 3 else 0)
 else bE [y.name] before
def Ai(p:aA)(i:Nat):Int:=match p.roles[i]? with
 | some y=>Nr p.types.length p.roles.length ((p.roles.take i).map (·.name)) y
 | none=>0
def pK(p:aA):Int:=if 32<p.roles.length then 4 else if p.roles[0]?≠some iG then 2 else aG (Ai p) (p.roles.length-1) 1
theorem Qh{p:aA}(h:p.roles.length=0):p.roles[0]?≠some iG:=by
 rw[List.getElem?_eq_none (by omega)];simp
theorem WX{p:aA}{r:gP}(h:p.roles[0]?=some r)(hn:¬ r=iG):p.roles[0]?≠some iG:=by
 rw[h];simpa using hn
theorem head_eq{p:aA}{r:gP}(h:p.roles[0]?=some r)(hn:r=iG):¬ p.roles[0]?≠some iG:=by
 rw[h];simpa using hn
theorem Kx{p:aA}{r:gP}(h:p.roles[0]?=some r)(hn:r=iG):[(⟨#[111,98,106,101,99,116,95,114]⟩:ByteArray)]=(p.roles.take 1).map (·.name):=by
 cases hp:p.roles with
 | nil=>rw[hp] at h;simp at h
 | cons x l=>rw[hp] at h;simp at h;subst h hn;rfl
theorem Pv(w0:World)(c0 c1 c2 c3 c4 c5 c6 c7 c8 c9 aS aN aM aR aQ aP aO:Value)(p:aA)(hp:aJ w0 c0 c1 c2 c3 c4 c5 c6 c7 c8 c9 aS aN aM aR aQ aP aO p)(hok:p.Ok):Calls Tryz.prog 43 #[.agg #[c0,c1,c2,c3,c4,c5,c6,c7,c8,c9,aS,aN,aM,aR,aQ,aP,aO]] w0 (RI w0 (pK p)):=by
 obtain⟨_,_,_,a3,_,_,_,_,_,_,_,_,_,_,_,_,_,_,_,_,k3,_,_,_,_,_,_,_,_,_,_,_,_,_,rfl,rfl,rfl,rfl,rfl,rfl,rfl,rfl,rfl,rfl,rfl,rfl,rfl,rfl,rfl,rfl,rfl⟩:=hp.open
 obtain⟨r,b,o,H⟩:∃ (r:gP) (b o:Nat),p.roles.length≠0→p.roles[0]?=some r∧a3=some ⟨b,o,none⟩∧∀ j u,r.cells[j]?=some u→w0.cell? ⟨b,o+0*9+j,none⟩=some u:=by
  by_cases h0:p.roles.length=0
  ·exact⟨iG,0,0,fun h=>absurd h0 h⟩
  ·have hy:=as5 (Nat.pos_of_ne_zero h0);obtain⟨b,o,e,hc⟩:=SliceAt.elt hp.roles (fun _=>rfl) (by decide) hy (Nat.pos_of_ne_zero h0);exact⟨_,b,o,fun _=>⟨hy,e,hc⟩⟩
 refine bX [] (fn:=Tryz.f43) Tryz.func43 rfl Tryz.ntmps43 rfl<|fun g1 w1 M1=>lb 0<|an rfl<|an (fun h M=>⟨ri (by unfold pK;rw[if_pos (by simp at h;omega)]),M.below⟩) fun h=>?_
 have hr:¬ 32<p.roles.length:=by simp at h;omega
 refine lb 0<|an rfl<|cl<|an (Aj _ _ hok.vq) fun w2 M2=>ei<|an sV fun g2 w3 M3=>lb 0<|an ⟨rfl,rfl⟩ fun w4 M4=>lb 1<|an rfl<|lb 1<|an (fun _=>rfl)<|ia (b:=b) (off:=o) (i:=0)<|an (fun h=>⟨(H fun e=>by simp[e] at h).2.1,rfl,Nat.pos_of_ne_zero fun e=>by simp[e] at h⟩)<|lc (x:=[.string r.name,.int .u64 r.types.a,.int .u64 r.types.b,.int .u64 r.types.c,.int .u64 r.types.d,.int .u64 r.next.a,.int .u64 r.next.b,.int .u64 r.next.c,.int .u64 r.next.d])<|an (fun h=>cG M4.below (H fun e=>by simp[e] at h).2.2)<|ei (x:=.agg #[.string ⟨#[111,98,106,101,99,116,95,114]⟩,.int .u64 0,.int .u64 0,.int .u64 0,.int .u64 0,.int .u64 0,.int .u64 0,.int .u64 0,.int .u64 0])<|an (fun _=>bd (by kernel_rfl))<|ei<|an (fun h=>⟨UY,L0 r⟩)<|an (fun h2 M=>⟨ri ?_,M.below⟩) fun h2=>?_
 ·unfold pK;rw[if_neg hr,if_pos];by_cases h0:p.roles.length=0
  ·exact Qh h0
  ·exact WX (H h0).1 (by simpa[h0] using h2)
 have h0:p.roles.length≠0:=fun e=>by simp[e] at h2
 obtain⟨hr0,-,-⟩:=H h0;have hro:r=iG:=by simpa[h0] using h2
 rw[show pK p=aG (Ai p) (p.roles.length-1) 1 by unfold pK;rw[if_neg hr,if_neg (head_eq hr0 hro)]];refine fun g3 w5 M5=>lp (ι:=Nat×Value) (fun(m,u)=>[(4,u),(5,.int .i64 (m:Int))]) (fun _=>[_,_]) (fun(m,u)=>[⟨u,9,1,m,((p.roles.take m).map (·.name)).flatMap aT⟩]) (fun(m,u) _=>(1≤m∧m≤p.roles.length)∧aG (Ai p) (p.roles.length-1) 1=aG (Ai p) (p.roles.length-m) m) (fun(m,u)=>p.roles.length-m) (1,.slice (some ⟨g3,0,none⟩) 1 1) (an ⟨⟨rfl,rfl,trivial⟩,fun M=>⟨(M.FT 1 1 (by simp[maxLen]) rfl).cast rfl (by dsimp only;rw[← Kx hr0 hro];rfl),⟨Nat.le_refl _,Nat.pos_of_ne_zero h0⟩,rfl⟩⟩ ?_)
 rintro⟨m,u⟩ w M ⟨⟨h1m,hm⟩,hinv⟩;refine lb 1<|an rfl<|an (fun h2=>?_) fun h2 M=>⟨ri (by rw[hinv,show m=p.roles.length by simp at h2;omega,bY]),M.below⟩
 have hlt:m<p.roles.length:=by simp at h2;omega
 obtain⟨y,hy⟩:∃ y,p.roles[m]?=some y:=⟨_,as5 hlt⟩;have pU:=hok.roles y (as6 hy);obtain⟨b,o,e,hc⟩:=SliceAt.elt hp.roles (fun _=>rfl) (by decide) hy hlt;have hcf:Ai p m=Nr p.types.length p.roles.length ((p.roles.take m).map (·.name)) y:=by unfold Ai;rw[hy]
 have out:∀ v:Int,Nr p.types.length p.roles.length ((p.roles.take m).map (·.name)) y=v→v≠0→aG (Ai p) (p.roles.length-1) 1=v:=fun v h1 h2=>by rw[hinv,bZ hlt (by rw[hcf,h1];exact h2),hcf,h1]
 unfold Nr at hcf out;refine lb 1<|an rfl<|ia<|an ⟨e,rfl,hlt⟩<|lc<|an (cG M.below hc)<|ei<|an abP fun g2 w2 M2=>lb 0<|an ⟨rfl,rfl⟩ fun w3 M3=>lb 0<|an rfl<|fun g3 w4 M4=>cl<|an (eG _ _ _ [y.name] ((p.roles.take m).map (·.name)) (M4.slice 0 rfl rfl rfl (by simp[maxLen])) (iD (M4.r 0 rfl) (by simp;omega) rfl) (by simpa using pU.name)) fun w5 M5=>an (fun h3 M=>⟨ri (out _ (if_neg (by simpa using h3)) (by simpa using h3)),M.below⟩) fun h3=>?_
 replace h3:bE [y.name] ((p.roles.take m).map (·.name))=0:=by simpa using h3
 rw[if_pos h3] at hcf out;refine lb 1<|an rfl<|fun g4 w6 M6=>ap 0 id rfl (M6.slice 0 rfl rfl rfl (by simp[maxLen])) ⟨by unfold maxLen;omega,by omega⟩ fun v5 w7 M7=>lb 2<|an rfl<|lb 3<|an rfl<|cl<|an (pG _ y.types (ay.all p.types.length) pU.types (BR _)) fun w8 M8=>lb 4<|an (fun _=>rfl)<|lb 2<|an (fun _=>rfl)<|cl<|an (fun _=>iW _ _ _ _ _ _ _ _ _ _ _ _ _ _ _ _ _ _ p (hp.keep M8.below) hok y.next pU.next) fun w9 M9=>an (fun h5 M=>⟨ri (out 3 ?_ (by decide)),M.below⟩) fun h5=>an (by omega)<|bk (m+1,v5) ⟨rfl,rfl,trivial⟩ (fun M=>⟨(M.only (.cons _ (.cons _ (.cons _ (.refl _)))) (.refl _)).cast rfl (by dsimp only;rw[qR hy]),by omega,hinv.trans (bG hlt ?_)⟩) (by dsimp only;omega)
 all_goals first|(rw[hcf];clear hcf out)|clear hcf out
 all_goals cases h6:y.types.within (ay.all p.types.length)<;>cases h7:vE p.roles.length y.next<;>simp_all
structure aA.Few (p:aA):Prop where
 types:p.types.length≤12
 ow:∀ t∈p.types,t.ow.length≤4
def dY(l:List lK):List ByteArray:=l.flatMap fun t=>t.name::t.ow
theorem O6{l:List lK}(h:∀ t∈l,t.ow.length≤4):(dY l).length≤l.length*5:=by
 induction l with
 | nil=>simp[dY]
 | cons t l ih=>
  have h1:=h t (by simp);have h2:=ih fun x hx=>h x (by simp[hx])
  unfold dY at *;rw[List.flatMap_cons,atg,List.length_cons,List.length_cons];omega
theorem zY{p:aA}(h:p.Few)(m:Nat):(dY (p.types.take m)).length≤m*5:=by
 have h1:=O6 (l:=p.types.take m) fun t ht=>h.ow t (List.mem_of_mem_take ht)
 have h2:(p.types.take m).length≤m:=List.length_take_le _ _;omega
theorem Cj{y:lK}(h:y.Ok):∀ s∈y.name::y.ow,dG s:=fun s hs=>by
 rcases ata.1 hs with rfl|hs
 ·exact h.name
 ·exact h.ow.all s hs
def ab5(before:List ByteArray)(y:lK):Int:=bE (y.name::y.ow) before
def wW(p:aA)(i:Nat):Int:=match p.types[i]? with
 | some y=>ab5 (dY (p.types.take i)) y
 | none=>0
def OC(nT:Nat)(before:List ByteArray)(y:kG):Int:=
 if bE [y.name] before=0 then (if y.types.within (ay.all nT)=false then 3 else 0) else bE [y.name] before
def BO(p:aA)(i:Nat):Int:=match p.attrs[i]? with
 | some y=>OC p.types.length (dY p.types++(p.attrs.take i).map (·.name)) y
 | none=>0
def oV(p:aA):Int:=if 256<p.types.length then 4 else if aG (wW p) p.types.length 0=0 then (if 64<p.attrs.length then 4 else aG (BO p) p.attrs.length 0) else aG (wW p) p.types.length 0
theorem rH(w0:World)(c0 c1 c2 c3 c4 c5 c6 c7 c8 c9 aS aN aM aR aQ aP aO:Value)(p:aA)(hp:aJ w0 c0 c1 c2 c3 c4 c5 c6 c7 c8 c9 aS aN aM aR aQ aP aO p)(_:p.Ok)(iN:p.Few)(k:Nat)(hk:k≤p.types.length):Calls Tryz.prog 102 #[.agg #[c0,c1,c2,c3,c4,c5,c6,c7,c8,c9,aS,aN,aM,aR,aQ,aP,aO],.int .i64 (k:Int)] w0 (fun(e:Ending) (w':World)=>∃ v,e=.returned v∧(ahK w' w0.heap.size v (dY (p.types.take k))∧as2 w0.heap.size w0 w')):=by
 obtain⟨_,_,_,_,_,_,_,_,_,_,_,_,_,_,_,_,_,_,_,_,_,_,_,_,_,_,_,_,_,_,_,_,_,_,rfl,rfl,rfl,rfl,rfl,rfl,rfl,rfl,rfl,rfl,rfl,rfl,rfl,rfl,rfl,rfl,rfl⟩:=hp.open;have Cb:=iN.types;refine bX [] (fn:=Tryz.f102) Tryz.func102 rfl Tryz.ntmps102 rfl<|fun g1 w1 M1=>lq (ι:=Nat×Value) (fun(m,u)=>[(5,u),(6,.int .i64 (m:Int))]) (fun(m,u)=>[⟨u,9,1,(dY (p.types.take m)).length,(dY (p.types.take m)).flatMap aT⟩]) (fun(m,u) _=>m≤k) (fun(m,u)=>k-m) (0,.slice none 0 0) (an ⟨⟨rfl,rfl,trivial⟩,fun M=>⟨M.cL 9 1,as3 _⟩⟩ ?_)
 rintro⟨m,u⟩ w M hm;refine an (fun h2=>?_) fun h2 M=>⟨_,rfl,?_,M.below⟩
 ·have hlt:m<k:=by simp at h2;omega
  obtain⟨y,hy⟩:∃ y,p.types[m]?=some y:=⟨_,as5 (Nat.lt_of_lt_of_le hlt hk)⟩;obtain⟨b,o,_,e,⟨v,rfl,hv⟩,hc⟩:=ak.elt hp.types (by decide) hy;have hl:=zY iN m;have hal:=iN.ow y (as6 hy);exact lb 0<|an rfl<|ia<|an ⟨e,rfl,by omega⟩<|lc<|an (cG M.below hc 0 _ rfl)<|fun g2 w2 M2=>ap 0 id rfl (M2.slice 0 rfl rfl rfl (by simp[maxLen])) ⟨by unfold maxLen;omega,by omega⟩ fun v3 w3 M3=>lb 1<|an rfl<|ia<|an ⟨e,rfl,by omega⟩<|lc<|an (cG M3.below hc 1 _ rfl)<|ap 0 id rfl (hv.keep M3.below) ⟨by unfold maxLen;omega,by omega⟩ fun v4 w4 M4=>an (by omega)<|bk (m+1,v4) ⟨rfl,rfl,trivial⟩ (fun M=>⟨(M.only (.cons _ (.refl _)) (.refl _)).cast rfl (by dsimp only;rw[List.take_add_one,hy];simp[dY,aT];omega),by omega⟩) (by dsimp only;omega)
 ·obtain rfl:m=k:=by simp at h2;omega
  exact M.r 0 rfl
theorem O3(w0:World)(c0 c1 c2 c3 c4 c5 c6 c7 c8 c9 aS aN aM aR aQ aP aO:Value)(p:aA)(hp:aJ w0 c0 c1 c2 c3 c4 c5 c6 c7 c8 c9 aS aN aM aR aQ aP aO p)(hok:p.Ok)(iN:p.Few):Calls Tryz.prog 42 #[.agg #[c0,c1,c2,c3,c4,c5,c6,c7,c8,c9,aS,aN,aM,aR,aQ,aP,aO]] w0 (RI w0 (oV p)):=by
 obtain⟨_,_,_,_,_,_,_,_,_,_,_,_,_,_,_,_,_,_,_,_,_,_,_,_,_,_,_,_,_,_,_,_,_,_,rfl,rfl,rfl,rfl,rfl,rfl,rfl,rfl,rfl,rfl,rfl,rfl,rfl,rfl,rfl,rfl,rfl⟩:=hp.open;have Cb:=iN.types;refine bX [] (fn:=Tryz.f42) Tryz.func42 rfl Tryz.ntmps42 rfl<|fun g1 w1 M1=>lb 0<|an rfl<|an (fun h=>by simp at h;omega) fun h=>?_
 have hr:¬ 256<p.types.length:=by omega
 refine lr (ι:=Nat) (fun m=>[(3,.int .i64 (m:Int))]) (fun m _=>m≤p.types.length∧aG (wW p) p.types.length 0=aG (wW p) (p.types.length-m) m) (fun m=>p.types.length-m) 0 (an ⟨⟨rfl,trivial⟩,fun M=>⟨M,as3 _,by rw[Nat.sub_zero]⟩⟩ ?_);rintro m w M ⟨hm,hinv⟩;refine lb 0<|an rfl<|an (fun h2=>?_) fun h2=>?_
 ·have hlt:m<p.types.length:=by simp at h2;omega
  obtain⟨y,hy⟩:∃ y,p.types[m]?=some y:=⟨_,as5 hlt⟩;have pU:=hok.types y (as6 hy);have hal:=iN.ow y (as6 hy);obtain⟨b,o,_,e,⟨v,rfl,hv⟩,hc⟩:=ak.elt hp.types (by decide) hy;have hcf:wW p m=bE (y.name::y.ow) (dY (p.types.take m)):=by unfold wW;rw[hy];rfl
  exact dr (by kernel_rfl)<|lb 0<|an rfl<|ia<|an ⟨e,rfl,hlt⟩<|lc<|an (cG M.below hc 0 _ rfl)<|bl<|lb 0<|an rfl<|ia<|an ⟨e,rfl,hlt⟩<|lc<|an (cG M.below hc 1 _ rfl)<|fun g2 w2 hb2 M2=>ap 0 (fun M=>M.FT 1 1 (by simp[maxLen]) rfl) rfl (hv.keep M2.below) ⟨by unfold maxLen;omega,by omega⟩ fun v3 w3 M3=>lb 0<|an rfl<|cw M3 (rH _ _ _ _ _ _ _ _ _ _ _ _ _ _ _ _ _ _ p (hp.keep M3.below) hok iN m hm) fun u w4 M4=>cl<|an (eG _ _ _ (y.name::y.ow) (dY (p.types.take m)) (iD (M4.r 1 rfl) (by simp;omega) rfl) (iD (M4.r 0 rfl) rfl rfl) (Cj pU)) fun w5 M5=>an (fun h3 M=>⟨ri (by
   have h3:bE (y.name::y.ow) (dY (p.types.take m))≠0:=by simpa using h3
   have e:aG (wW p) p.types.length 0=bE (y.name::y.ow) (dY (p.types.take m)):=by rw[hinv,bZ hlt (by rw[hcf];exact h3),hcf]
   unfold oV;rw[if_neg hr,e,if_neg h3]),M.below⟩) fun h3=>an (by omega)<|bk (m+1) ⟨rfl,trivial⟩ (fun M=>⟨M.only (.refl _) (.cons _ (.cons _ (.refl _))),by omega,hinv.trans (bG hlt (by rw[hcf];simpa using h3))⟩) (by dsimp only;omega)
 have hz:aG (wW p) p.types.length 0=0:=by rw[hinv,show m=p.types.length by simp at h2;omega,bY]
 clear hinv h2;refine lb 0<|an rfl<|an (fun h M=>⟨ri (by unfold oV;rw[if_neg hr,if_pos hz,if_pos (by simp at h;omega)]),M.below⟩) fun h=>?_
 have ha:¬ 64<p.attrs.length:=by simp at h;omega
 rw[show oV p=aG (BO p) p.attrs.length 0 by unfold oV;rw[if_neg hr,if_pos hz,if_neg ha]];refine lb 0<|an rfl<|lb 0<|an rfl<|cw M (rH _ _ _ _ _ _ _ _ _ _ _ _ _ _ _ _ _ _ p (hp.keep M.below) hok iN p.types.length (Nat.le_refl _)) fun u0 w5 M5=>lq (ι:=Nat×Value) (fun(m,u)=>[(6,u),(7,.int .i64 (m:Int))]) (fun(m,u)=>[⟨u,9,1,(dY p.types++(p.attrs.take m).map (·.name)).length,(dY p.types++(p.attrs.take m).map (·.name)).flatMap aT⟩]) (fun(m,u) _=>m≤p.attrs.length∧aG (BO p) p.attrs.length 0=aG (BO p) (p.attrs.length-m) m) (fun(m,u)=>p.attrs.length-m) (0,u0) (an ⟨⟨rfl,rfl,trivial⟩,fun M=>⟨M.cast rfl (by rw[atc];simp),as3 _,by rw[Nat.sub_zero]⟩⟩ ?_)
 clear M;rintro⟨m,u⟩ w M ⟨hm,hinv⟩;refine lb 0<|an rfl<|an (fun h2=>?_) fun h2 M=>⟨ri (by rw[hinv,show m=p.attrs.length by simp at h2;omega,bY]),M.below⟩
 have hlt:m<p.attrs.length:=by simp at h2;omega
 obtain⟨y,hy⟩:∃ y,p.attrs[m]?=some y:=⟨_,as5 hlt⟩;have pU:=hok.attrs y (as6 hy);obtain⟨b,o,e,hc⟩:=SliceAt.elt hp.attrs (fun _=>rfl) (by decide) hy hlt;have hcf:BO p m=OC p.types.length (dY p.types++(p.attrs.take m).map (·.name)) y:=by unfold BO;rw[hy]
 have out:∀ v:Int,OC p.types.length (dY p.types++(p.attrs.take m).map (·.name)) y=v→v≠0→aG (BO p) p.attrs.length 0=v:=fun v h1 h2=>by rw[hinv,bZ hlt (by rw[hcf,h1];exact h2),hcf,h1]
 unfold OC at hcf out;have hl:=zY iN p.types.length;rw[atc] at hl;refine lb 0<|an rfl<|ia<|an ⟨e,rfl,hlt⟩<|lc<|an (cG M.below hc 0 _ rfl)<|fun g4 w6 M6=>cl<|an (eG _ _ _ [y.name] (dY p.types++(p.attrs.take m).map (·.name)) (M6.slice 0 rfl rfl rfl (by simp[maxLen])) (iD (M6.r 0 rfl) rfl rfl) (by simpa using pU.name)) fun w7 M7=>an (fun h3 M=>⟨ri (out _ (if_neg (by simpa using h3)) (by simpa using h3)),M.below⟩) fun h3=>?_
 replace h3:bE [y.name] (dY p.types++(p.attrs.take m).map (·.name))=0:=by simpa using h3
 rw[if_pos h3] at hcf out;have hll:(dY p.types++(p.attrs.take m).map (·.name)).length≤200:=by simp;omega
 exact lb 1<|an rfl<|ia<|an ⟨e,rfl,hlt⟩<|lc<|an (cG M7.below hc 0 _ rfl)<|fun g5 w8 M8=>ap 0 id rfl (M8.slice 0 rfl rfl rfl (by simp[maxLen])) ⟨by unfold maxLen;omega,by omega⟩ fun v6 w9 M9=>dr (by kernel_rfl)<|lb 2<|an rfl<|ia<|an ⟨e,rfl,hlt⟩<|lc (x:=[.int .u64 y.types.a,.int .u64 y.types.b,.int .u64 y.types.c,.int .u64 y.types.d])<|an (pH (cG M9.below hc) rfl)<|lb 2<|an rfl<|cl<|an (fun w' hb' M'=>fK _ y.types pU.types _ (by omega)) fun yq Ij oK=>an (fun h4 M=>⟨ri (out 3 (if_pos (by simpa using h4)) (by decide)),M.below⟩) fun h4=>an (by omega)<|bk (m+1,v6) ⟨rfl,rfl,trivial⟩ (fun M=>⟨(M.only (.cons _ (.cons _ (.refl _))) (.refl _)).cast rfl (by dsimp only;rw[List.take_add_one,hy];simp[aT];omega),by omega,hinv.trans (bG hlt (by rw[hcf,if_neg (by simpa using h4)]))⟩) (by dsimp only;omega)
theorem fT(w:World)(i n:Int):Calls Tryz.prog 113 #[.int .i64 i,.int .i64 n] w fun e w'=>e=.returned (.bool (aX i n))∧as2 w.heap.size w w':=(fB w i n).mono fun _ _ ⟨h1,h2⟩=>⟨h1,h2▸Below.refl _ _⟩
structure aA.abg (p:aA):Prop where
 types:p.types.length≤12
 attrs:p.attrs.length≤6
 classes:p.classes.length≤6
 rules:p.rules.length≤40
 conds:p.conds.length≤6
 bools:p.bools.length≤6
 cons:p.cons.length≤12
 users:p.users.length≤8
 roles:p.roles.length≤8
 trans:p.trans.length≤36
 aK:p.aK.length≤12
 ranges:p.ranges.length≤12
 aC:p.aC.length≤6
 cats:p.cats.length≤10
 bH:p.bH.length≤8
 files:p.files.length≤12
 asserts:p.asserts.length≤8
structure aA.BX (p:aA):Prop where
 sizes:p.abg
 ow:∀ x∈p.types,x.ow.length≤4
 conds:∀ x∈p.conds,bq 13 x≤6
 cons:∀ x∈p.cons,bq 13 x.expr≤6
theorem aA.BX.few{p:aA}(h:p.BX):p.Few:=⟨h.sizes.types,h.ow⟩
theorem Ph(w0:World)(c0 c1 c2 c3 c4 c5 c6 c7 c8 c9 aS aN aM aR aQ aP aO:Value)(p:aA)(hp:aJ w0 c0 c1 c2 c3 c4 c5 c6 c7 c8 c9 aS aN aM aR aQ aP aO p)(_:p.Ok):Calls Tryz.prog 11 #[.agg #[c0,c1,c2,c3,c4,c5,c6,c7,c8,c9,aS,aN,aM,aR,aQ,aP,aO]] w0 (fun(e:Ending) (w':World)=>∃ v,e=.returned v∧∃ b:Bool,v=.bool b∧(b=true→p.BX)∧as2 w0.heap.size w0 w'):=by
 obtain⟨_,_,_,_,_,_,_,_,_,_,_,_,_,_,_,_,_,_,_,_,_,_,_,_,_,_,_,_,_,_,_,_,_,_,rfl,rfl,rfl,rfl,rfl,rfl,rfl,rfl,rfl,rfl,rfl,rfl,rfl,rfl,rfl,rfl,rfl⟩:=hp.open;have tr:=fun m h=>SliceAt.elt (i:=m) hp.trans (fun _=>rfl) (by decide) (as5 h) h
 obtain⟨_,_,e1,-,-,ty⟩:=ak.form hp.types (by decide);obtain⟨_,_,e8,-,-,cd⟩:=ak.form hp.conds (by decide);obtain⟨_,_,e13,-,-,cn⟩:=ak.form hp.cons (by decide);injection e1 with e1;injection e8 with e8;injection e13 with e13;subst e1 e8 e13;have no:∀ w,as2 w0.heap.size w0 w→∃ v,Ending.returned (nF [Value.bool false])=.returned v∧∃ b:Bool,v=.bool b∧(b=true→p.BX)∧as2 w0.heap.size w0 w:=fun w h=>⟨_,rfl,false,rfl,(fun e=>by cases e),h⟩
 refine bX [] (fn:=Tryz.f11) Tryz.func11 rfl Tryz.ntmps11 rfl fun g1 w1 M1=>lb 0<|an rfl<|lb 0<|an (fun _=>rfl)<|lb 0<|an (fun _=>rfl)<|lb 0<|an (fun _=>rfl)<|lb 0<|an (fun _=>rfl)<|lb 0<|an (fun _=>rfl)<|lb 0<|an (fun _=>rfl)<|lb 0<|an (fun _=>rfl)<|lb 0<|an (fun _=>rfl)<|an (fun h M=>no _ M.below) fun h=>?_
 simp only[Bool.or_eq_false_iff,decide_eq_false_iff_not] at h;refine lb 0<|an rfl<|lb 0<|an (fun _=>rfl)<|lb 0<|an (fun _=>rfl)<|lb 0<|an (fun _=>rfl)<|lb 0<|an (fun _=>rfl)<|lb 0<|an (fun _=>rfl)<|lb 0<|an (fun _=>rfl)<|lb 0<|an (fun _=>rfl)<|an (fun h M=>no _ M.below) fun h'=>?_
 simp only[Bool.or_eq_false_iff,decide_eq_false_iff_not] at h';refine ei<|an abL fun g2 w2 M2=>lp (ι:=Nat×Int×Int×Int×Int) (fun(m,_)=>[(4,.int .i64 (m:Int))]) (fun(m,n0,n1,n2,n3)=>(g2,82,#[.int .i64 n0,.int .i64 n1,.int .i64 n2,.int .i64 n3])::_) (fun _=>[]) (fun(m,n0,n1,n2,n3) _=>m≤p.trans.length∧0≤n1∧n1≤m∧0≤n2∧n2≤m∧0≤n3∧n3≤m) (fun(m,_)=>p.trans.length-m) (0,0,0,0,0) (an ⟨⟨rfl,trivial⟩,fun M=>⟨M,by omega⟩⟩ ?_)
 rintro⟨m,n0,n1,n2,n3⟩ w M hm;refine lb 1<|an rfl<|an (fun h2=>?_) fun h2=>?_
 ·simp only[decide_eq_true_eq] at h2;have hlt:m<p.trans.length:=by omega
  obtain⟨b,o,e,hc⟩:=tr m hlt;refine lb 1<|an rfl<|ia<|an ⟨e,rfl,hlt⟩<|lc<|an (atd M.below (hc 0 _ rfl))<|an (fun h3=>?_) fun h3=>an (by omega)<|bk (m+1,n0,n1,n2,n3) ⟨rfl,trivial⟩ (fun M=>⟨M,by omega⟩) (by dsimp only;omega)
  simp only[as4,decide_eq_true_eq] at h3;have hk:p.trans[m].kind=1∨p.trans[m].kind=2∨p.trans[m].kind=3:=by omega
  rcases hk with hk|hk|hk
  ·exact ei (x:=1)<|an ⟨hk,by decide⟩<|lb 0<|an rfl<|an (by omega)<|ei (x:=1)<|an ⟨hk,by decide⟩<|lb 0<|an ⟨rfl,rfl⟩ fun w M=>an (by omega)<|bk (m+1,n0,n1+1,n2,n3) ⟨rfl,trivial⟩ (fun M=>⟨M,by omega⟩) (by dsimp only;omega)
  ·exact ei (x:=2)<|an ⟨hk,by decide⟩<|lb 0<|an rfl<|an (by omega)<|ei (x:=2)<|an ⟨hk,by decide⟩<|lb 0<|an ⟨rfl,rfl⟩ fun w M=>an (by omega)<|bk (m+1,n0,n1,n2+1,n3) ⟨rfl,trivial⟩ (fun M=>⟨M,by omega⟩) (by dsimp only;omega)
  ·exact ei (x:=3)<|an ⟨hk,by decide⟩<|lb 0<|an rfl<|an (by omega)<|ei (x:=3)<|an ⟨hk,by decide⟩<|lb 0<|an ⟨rfl,rfl⟩ fun w M=>an (by omega)<|bk (m+1,n0,n1,n2,n3+1) ⟨rfl,trivial⟩ (fun M=>⟨M,by omega⟩) (by dsimp only;omega)
 refine lr (ι:=Nat) (fun m=>[(6,.int .i64 (m:Int))]) (fun m _=>m≤p.types.length∧∀ x∈p.types.take m,x.ow.length≤4) (fun m=>p.types.length-m) 0 (an ⟨⟨rfl,trivial⟩,fun M=>⟨M,as3 _,by simp⟩⟩ ?_);rintro i1 w M ⟨hi1,ha⟩;refine lb 1<|an rfl<|an (fun h2=>?_) fun h2=>?_
 ·simp only[decide_eq_true_eq] at h2;obtain⟨x,hx⟩:∃ x,p.types[i1]?=some x:=⟨_,as5 (by omega)⟩;obtain⟨b,o,z,rfl,⟨u,rfl,hu⟩,-,hc⟩:=ty i1 x hx;obtain⟨_,_,rfl,-⟩:=hu.get;refine lb 1<|an rfl<|ia<|an ⟨rfl,rfl,by omega⟩<|lc<|an (atd M.below (hc 1 _ rfl))<|an (fun h3 M=>no _ M.below) fun h3=>an (by omega)<|bk (i1+1) ⟨rfl,trivial⟩ (fun M=>⟨M,by omega,fun y hy=>?_⟩) (by dsimp only;omega)
  rw[List.take_add_one,hx] at hy;rcases ath.1 hy with hy|hy
  ·exact ha y hy
  ·obtain rfl:y=x:=by simpa using hy
   simp only[decide_eq_false_iff_not] at h3;omega
 simp only[decide_eq_false_iff_not] at h2;obtain rfl:i1=p.types.length:=by omega
 refine lr (ι:=Nat) (fun m=>[(7,.int .i64 (m:Int))]) (fun m _=>m≤p.conds.length∧∀ x∈p.conds.take m,bq 13 x≤6) (fun m=>p.conds.length-m) 0 (an ⟨⟨rfl,trivial⟩,fun M=>⟨M,as3 _,by simp⟩⟩ ?_);rintro i2 w M ⟨hi2,hb⟩;refine lb 1<|an rfl<|an (fun h2=>?_) fun h2=>?_
 ·simp only[decide_eq_true_eq] at h2;obtain⟨x,hx⟩:∃ x,p.conds[i2]?=some x:=⟨_,as5 (by omega)⟩;obtain⟨b,o,z,rfl,hz,-,hc⟩:=cd i2 x hx;obtain⟨nv,kv,rfl,-⟩:=hz.open;refine lb 1<|an rfl<|ia<|an ⟨rfl,rfl,by omega⟩<|lc<|an (cG M.below hc)<|cl<|an (ox _ _ x (bh.keep M.below hz)) fun w3 M3=>an (fun h3 M=>no _ M.below) fun h3=>an (by omega)<|bk (i2+1) ⟨rfl,trivial⟩ (fun M=>⟨M,by omega,fun y hy=>?_⟩) (by dsimp only;omega)
  rw[List.take_add_one,hx] at hy;rcases ath.1 hy with hy|hy
  ·exact hb y hy
  ·obtain rfl:y=x:=by simpa using hy
   simp only[decide_eq_false_iff_not] at h3;omega
 simp only[decide_eq_false_iff_not] at h2;obtain rfl:i2=p.conds.length:=by omega
 refine lr (ι:=Nat) (fun m=>[(8,.int .i64 (m:Int))]) (fun m _=>m≤p.cons.length∧∀ x∈p.cons.take m,bq 13 x.expr≤6) (fun m=>p.cons.length-m) 0 (an ⟨⟨rfl,trivial⟩,fun M=>⟨M,as3 _,by simp⟩⟩ ?_);rintro i3 w M ⟨hi3,Vx⟩;refine lb 1<|an rfl<|an (fun h2=>?_) fun h2=>?_
 ·simp only[decide_eq_true_eq] at h2;obtain⟨x,hx⟩:∃ x,p.cons[i3]?=some x:=⟨_,as5 (by omega)⟩;obtain⟨b,o,z,rfl,⟨es,rfl,hz⟩,-,hc⟩:=cn i3 x hx
  have hc3:∀ j u,es[j]?=some u→w0.cell? ⟨b,o+i3*13+3+j,none⟩=some u:=fun j u hj=>by
   have h4:=hc (j+3) u (by simpa using hj)
   rwa [show o+i3*13+(j+3)=o+i3*13+3+j by omega] at h4
  obtain⟨nv,kv,rfl,-⟩:=hz.open;refine lb 1<|an rfl<|ia<|an ⟨rfl,rfl,by omega⟩<|lc<|an (cG M.below hc3)<|cl<|an (ox _ _ x.expr (bh.keep M.below hz)) fun w3 M3=>an (fun h3 M=>no _ M.below) fun h3=>an (by omega)<|bk (i3+1) ⟨rfl,trivial⟩ (fun M=>⟨M,by omega,fun y hy=>?_⟩) (by dsimp only;omega)
  rw[List.take_add_one,hx] at hy;rcases ath.1 hy with hy|hy
  ·exact Vx y hy
  ·obtain rfl:y=x:=by simpa using hy
   simp only[decide_eq_false_iff_not] at h3;omega
 simp only[decide_eq_false_iff_not] at h2;obtain rfl:i3=p.cons.length:=by omega
 rw[atc] at ha hb Vx;exact ei (x:=1)<|an ⟨rfl,by decide⟩<|lb 0<|an rfl<|ei (x:=2)<|an (fun _=>⟨rfl,by decide⟩)<|lb 0<|an (fun _=>rfl)<|ei (x:=3)<|an (fun _=>⟨rfl,by decide⟩)<|lb 0<|an (fun _=>rfl) fun M=>⟨_,rfl,_,rfl,fun _=>⟨by constructor<;>omega,ha,hb,Vx⟩,M.below⟩
def bA(l:List bD)(k:Int):Nat:=(l.filter fun t=>decide (t.kind=k)).length
theorem eX(l:List bD)(t:bD)(k:Int):bA (l++[t]) k=bA l k+(if t.kind=k then 1 else 0):=by
 unfold bA;rw[List.filter_append,atg];by_cases h:t.kind=k<;>simp[h]
theorem Et(l:List bD)(m:Nat)(k:Int):bA (l.take m) k≤bA l k:=by
 have h:=bA (l.drop m) k;unfold bA
 conv=>rhs;rw[← List.take_append_drop m l,List.filter_append,atg]
 omega
def tB(nT nC nK:Nat)(y:bD):Int:=
 if y.kind<1 then 13 else if 3<y.kind then 13
 else if y.src.within (ay.all nT)=false then 3 else if y.tgt.within (ay.all nT)=false then 3
 else if aX y.cls (nC:Int)=false then 3 else if aX y.res (nT:Int)=false then 3 else if jL nK y.cond=false then 3
 else if cN y.src=false then 2 else if cN y.tgt=false then 2
 else if y.kind≠1∧fQ y.name=false then 2
 else if fQ y.name=false∧lT y.name=false then 10 else 0
def rI(p:aA)(i:Nat):Int:=match p.trans[i]? with
 | some y=>tB p.types.length p.classes.length p.conds.length y
 | none=>0
def mq(p:aA):Int:=if bA p.trans 1≤1024∧bA p.trans 2≤1024∧bA p.trans 3≤1024 then aG (rI p) p.trans.length 0 else 4
theorem Kf{p:aA}(h:∀ q:Int,1≤q→q≤3→bA p.trans q≤1024):mq p=aG (rI p) p.trans.length 0:=
 if_pos ⟨h 1 (by omega) (by omega),h 2 (by omega) (by omega),h 3 (by omega) (by omega)⟩
theorem pq{p:aA}{q:Int}{m:Nat}(h1:1≤q)(h2:q≤3)(h:1024<bA (p.trans.take m) q):mq p=4:=by
 have h3:=Et p.trans m q;refine if_neg fun⟨a,b,c⟩=>?_
 rcases(show q=1∨q=2∨q=3 by omega) with rfl|rfl|rfl<;>omega
theorem O4(w0:World)(c0 c1 c2 c3 c4 c5 c6 c7 c8 c9 aS aN aM aR aQ aP aO:Value)(p:aA)(hp:aJ w0 c0 c1 c2 c3 c4 c5 c6 c7 c8 c9 aS aN aM aR aQ aP aO p)(hok:p.Ok):Calls Tryz.prog 47 #[.agg #[c0,c1,c2,c3,c4,c5,c6,c7,c8,c9,aS,aN,aM,aR,aQ,aP,aO]] w0 (RI w0 (mq p)):=by
 obtain⟨_,_,_,_,_,_,_,_,_,_,_,_,_,_,_,_,_,_,_,_,_,_,_,_,_,_,_,_,_,_,_,_,_,_,rfl,rfl,rfl,rfl,rfl,rfl,rfl,rfl,rfl,rfl,rfl,rfl,rfl,rfl,rfl,rfl,rfl⟩:=hp.open;obtain⟨_,_,e10,-,adg,-⟩:=SliceAt.form hp.trans (by decide);obtain⟨_,_,e1,-,hm1,-⟩:=ak.form hp.types (by decide);have tr:=fun m h=>SliceAt.elt (i:=m) hp.trans (fun _=>rfl) (by decide) (as5 h) h
 refine bX [] (fn:=Tryz.f47) Tryz.func47 rfl Tryz.ntmps47 rfl fun g1 w1 M1=>ei<|an abL fun g2 w2 M2=>lp (ι:=Nat) (fun m=>[(4,.int .i64 (m:Int))]) (fun m=>(g2,82,#[.int .i64 0,.int .i64 ((bA (p.trans.take m) 1:Nat):Int),.int .i64 ((bA (p.trans.take m) 2:Nat):Int),.int .i64 ((bA (p.trans.take m) 3:Nat):Int)])::_) (fun _=>[]) (fun m _=>m≤p.trans.length∧∀ q:Int,1≤q→q≤3→bA (p.trans.take m) q≤1024) (fun m=>p.trans.length-m) 0 (an ⟨⟨rfl,trivial⟩,fun M=>⟨M,as3 _,fun _ _ _=>as3 _⟩⟩ ?_)
 rintro m w M ⟨hm,hle⟩;refine lb 1<|an rfl<|an (fun h2=>?_) fun h2=>?_
 ·simp only[decide_eq_true_eq] at h2;have hlt:m<p.trans.length:=by omega
  obtain⟨b,o,e,hc⟩:=tr m hlt;have hy:p.trans[m]?=some p.trans[m]:=as5 hlt;refine lb 1<|an rfl<|ia<|an ⟨e,rfl,hlt⟩<|lc<|an (atd M.below (hc 0 _ rfl))<|an (fun h3=>?_) fun h3=>?_
  rotate_left
  ·have hno:∀ q:Int,1≤q→q≤3→bA (p.trans.take (m+1)) q=bA (p.trans.take m) q:=fun q h1 h2=>by
    rw[bf hy,eX,if_neg (fun e=>by simp only[Bool.and_eq_false_iff,decide_eq_false_iff_not] at h3;omega)];rfl
   exact an (by omega)<|bk (m+1) ⟨rfl,trivial⟩ (fun M=>⟨by rw[hno 1 (by omega) (by omega),hno 2 (by omega) (by omega),hno 3 (by omega) (by omega)];exact M,by omega,fun q h1 h2=>by rw[hno q h1 h2];exact hle q h1 h2⟩) (by dsimp only;omega)
  simp only[as4,decide_eq_true_eq] at h3;rcases(show p.trans[m].kind=1∨p.trans[m].kind=2∨p.trans[m].kind=3 by omega) with hk|hk|hk
  ·have hk1:bA (p.trans.take (m+1)) 1=bA (p.trans.take m) 1+1:=by rw[bf hy,eX,if_pos hk]
   have hno:∀ q:Int,q≠1→bA (p.trans.take (m+1)) q=bA (p.trans.take m) q:=fun q h1=>by rw[bf hy,eX,if_neg (by omega)];rfl
   have hq:=hle 1 (by omega) (by omega);refine ei (x:=1)<|an ⟨hk,by decide⟩<|lb 0<|an rfl<|an (by omega)<|ei (x:=1)<|an ⟨hk,by decide⟩<|lb 0<|an ⟨rfl,rfl⟩ fun w M=>ei (x:=1)<|an ⟨hk,by decide⟩<|lb 0<|an rfl<|an (fun h4 M=>⟨?_,M.below⟩) fun h4=>an (by omega)<|bk (m+1) ⟨rfl,trivial⟩ (fun M=>⟨by rw[hk1,hno 2 (by omega),hno 3 (by omega)];exact M,by omega,fun q h1 h2=>?_⟩) (by dsimp only;omega)
   ·simp only[decide_eq_true_eq] at h4;rw[pq (q:=1) (m:=m+1) (by omega) (by omega) (by rw[hk1];omega)];rfl
   ·simp only[decide_eq_false_iff_not] at h4;by_cases e:q=1
    ·subst e;rw[hk1];omega
    ·rw[hno q e];exact hle q h1 h2
  ·have hk1:bA (p.trans.take (m+1)) 2=bA (p.trans.take m) 2+1:=by rw[bf hy,eX,if_pos hk]
   have hno:∀ q:Int,q≠2→bA (p.trans.take (m+1)) q=bA (p.trans.take m) q:=fun q h1=>by rw[bf hy,eX,if_neg (by omega)];rfl
   have hq:=hle 2 (by omega) (by omega);refine ei (x:=2)<|an ⟨hk,by decide⟩<|lb 0<|an rfl<|an (by omega)<|ei (x:=2)<|an ⟨hk,by decide⟩<|lb 0<|an ⟨rfl,rfl⟩ fun w M=>ei (x:=2)<|an ⟨hk,by decide⟩<|lb 0<|an rfl<|an (fun h4 M=>⟨?_,M.below⟩) fun h4=>an (by omega)<|bk (m+1) ⟨rfl,trivial⟩ (fun M=>⟨by rw[hk1,hno 1 (by omega),hno 3 (by omega)];exact M,by omega,fun q h1 h2=>?_⟩) (by dsimp only;omega)
   ·simp only[decide_eq_true_eq] at h4;rw[pq (q:=2) (m:=m+1) (by omega) (by omega) (by rw[hk1];omega)];rfl
   ·simp only[decide_eq_false_iff_not] at h4;by_cases e:q=2
    ·subst e;rw[hk1];omega
    ·rw[hno q e];exact hle q h1 h2
  ·have hk1:bA (p.trans.take (m+1)) 3=bA (p.trans.take m) 3+1:=by rw[bf hy,eX,if_pos hk]
   have hno:∀ q:Int,q≠3→bA (p.trans.take (m+1)) q=bA (p.trans.take m) q:=fun q h1=>by rw[bf hy,eX,if_neg (by omega)];rfl
   have hq:=hle 3 (by omega) (by omega);refine ei (x:=3)<|an ⟨hk,by decide⟩<|lb 0<|an rfl<|an (by omega)<|ei (x:=3)<|an ⟨hk,by decide⟩<|lb 0<|an ⟨rfl,rfl⟩ fun w M=>ei (x:=3)<|an ⟨hk,by decide⟩<|lb 0<|an rfl<|an (fun h4 M=>⟨?_,M.below⟩) fun h4=>an (by omega)<|bk (m+1) ⟨rfl,trivial⟩ (fun M=>⟨by rw[hk1,hno 1 (by omega),hno 2 (by omega)];exact M,by omega,fun q h1 h2=>?_⟩) (by dsimp only;omega)
   ·simp only[decide_eq_true_eq] at h4;rw[pq (q:=3) (m:=m+1) (by omega) (by omega) (by rw[hk1];omega)];rfl
   ·simp only[decide_eq_false_iff_not] at h4;by_cases e:q=3
    ·subst e;rw[hk1];omega
    ·rw[hno q e];exact hle q h1 h2
 simp only[decide_eq_false_iff_not] at h2;obtain rfl:m=p.trans.length:=by omega
 rw[atc] at hle;rw[Kf hle];have Cb:=hok.vq;refine lr (ι:=Nat) (fun m=>[(6,.int .i64 (m:Int))]) (fun i _=>i≤p.trans.length∧aG (rI p) p.trans.length 0=aG (rI p) (p.trans.length-i) i) (fun i=>p.trans.length-i) 0 (an ⟨⟨rfl,trivial⟩,fun M=>⟨M,as3 _,by rw[Nat.sub_zero]⟩⟩ ?_);rintro i w M ⟨hi,hinv⟩;refine lb 1<|an rfl<|an (fun h2=>?_) fun h2 M=>⟨?_,M.below⟩
 ·simp only[decide_eq_true_eq] at h2;have hlz:i<p.trans.length:=by omega
  obtain⟨b,o,e,hc⟩:=tr i hlz;have PD:=hok.trans p.trans[i] (List.getElem_mem hlz);have hcf:rI p i=tB p.types.length p.classes.length p.conds.length p.trans[i]:=by unfold rI;rw[as5 hlz]
  generalize p.trans[i]=z at hc PD hcf;have out:∀ v:Int,tB p.types.length p.classes.length p.conds.length z=v→v≠0→Ending.returned (nF [.int .i64 v])=.returned (.int .i64 (aG (rI p) p.trans.length 0)):=fun v h1 h2=>by rw[hinv,bZ hlz (by rw[hcf,h1];exact h2),hcf,h1];rfl
  unfold tB at out hcf;refine lb 1<|an rfl<|ia<|an ⟨e,rfl,hlz⟩<|lc<|an (cG M.below hc)<|ei<|an Ry fun g3 w3 M3=>lb 0<|an ⟨rfl,rfl⟩ fun w4 M4=>lb 0<|an rfl<|lb 0<|an (fun _=>rfl)<|an (fun h M=>⟨out 13 ?_ (by decide),M.below⟩) fun h=>?_
  ·simp only[Bool.or_eq_true,decide_eq_true_eq] at h;by_cases h1:z.kind<1
   ·rw[if_pos h1]
   ·rw[if_neg h1,if_pos (by omega)]
  simp only[Bool.or_eq_false_iff,decide_eq_false_iff_not] at h;rw[if_neg h.1,if_neg h.2] at out hcf;refine lb 0<|an rfl<|lb 2<|an rfl<|cl<|an (fK _ z.src PD.src _ Cb) fun w5 M5=>lb 0<|an rfl<|lb 2<|an rfl<|cl<|an (fK _ z.tgt PD.tgt _ Cb) fun w6 M6=>?_
  refine lb 0<|an (fun _=>rfl)<|lb 2<|an (fun _=>rfl)<|cl<|an (fun _=>fT _ _ _) fun w7 M7=>lb 0<|an (fun _=>rfl)<|lb 2<|an (fun _=>rfl)<|cl<|an (fun _=>fT _ _ _) fun w8 M8=>lb 2<|an (fun _=>rfl)<|lb 0<|an (fun _=>rfl)<|cl<|an (fun _=>I5 _ _ _ _ _ _ _ _ _ _ _ _ _ _ _ _ _ _ p (hp.keep M8.below) _) fun w9 M9=>an (fun h3 M=>⟨out 3 ?_ (by decide),M.below⟩) fun h3=>?_
  ·simp only[Bool.or_eq_true,Bool.not_eq_true'] at h3;rcases h3 with(((h3|h3)|h3)|h3)|h3<;>simp[h3]
  simp only[Bool.or_eq_false_iff,Bool.not_eq_false'] at h3;obtain⟨⟨⟨⟨a1,a2⟩,a3⟩,a4⟩,a5⟩:=h3;simp only[a1,a2,a3,a4,a5,Bool.true_eq_false,if_false] at out hcf;refine lb 0<|an (fun _=>rfl)<|lb 0<|an (fun _=>rfl)<|an (fun h4 M=>⟨out 2 ?_ (by decide),M.below⟩) fun h4=>?_
  ·change (!cN z.src||!cN z.tgt||(!decide (z.kind=1)&&!fQ z.name))=true at h4
   clear out hcf;cases ha:cN z.src<;>cases hb:cN z.tgt<;>cases hc:fQ z.name<;>cases hd:lT z.name<;>by_cases hk:z.kind=1<;>simp_all
  refine lb 0<|an rfl<|lb 0<|an (fun _=>rfl)<|cl<|an (fun _=>(KT _ z.name PD.name).mono fun _ _ ⟨h1,h2⟩=>⟨h1,h2▸Below.refl _ _⟩) fun yq oK=>an (fun h5 M=>⟨out 10 ?_ (by decide),M.below⟩) fun h5=>an (by omega)<|bk (i+1) ⟨rfl,trivial⟩ (fun M=>⟨M.only (.cons _ (.refl _)) (.refl _),by omega,hinv.trans (bG hlz ?_)⟩) (by dsimp only;omega)
  ·change (!cN z.src||!cN z.tgt||(!decide (z.kind=1)&&!fQ z.name))=false at h4
   change (!fQ z.name&&!lT z.name)=true at h5
   clear out hcf;cases ha:cN z.src<;>cases hb:cN z.tgt<;>cases hc:fQ z.name<;>cases hd:lT z.name<;>by_cases hk:z.kind=1<;>simp_all
  ·change (!cN z.src||!cN z.tgt||(!decide (z.kind=1)&&!fQ z.name))=false at h4
   change (!fQ z.name&&!lT z.name)=false at h5
   rw[hcf];clear out hcf;cases ha:cN z.src<;>cases hb:cN z.tgt<;>cases hc:fQ z.name<;>cases hd:lT z.name<;>by_cases hk:z.kind=1<;>simp_all
 simp only[decide_eq_false_iff_not] at h2;obtain rfl:i=p.trans.length:=by omega
 rw[hinv,Nat.sub_self];rfl
theorem sM{i n:Int}:aX i n=true↔0≤i∧i<n:=by
 unfold aX;simp
def yZ(p:aA)(c:dI):Int:=match p.users[c.user.toNat]?,p.roles[c.role.toNat]? with
 | some u,some r=>if wD c.rng.low u.rng.low=false then 19 else if wD u.rng.high c.rng.high=false then 19
  else if u.roles.mem c.role=false then 19 else if r.types.mem c.typ=false then 19 else 0
 | _,_=>0
def vK(p:aA)(c:dI):Int:=
 if aX c.user (p.users.length:Int)=false then 3 else if aX c.role (p.roles.length:Int)=false then 3 else if aX c.typ (p.types.length:Int)=false then 3
 else if rX p.aC.length p.cats.length c.rng=false then 18 else if c.role=0 then 0 else yZ p c
theorem KJ{p:aA}{c:dI}{u:jX}{r:gP}(hu:p.users[c.user.toNat]?=some u)(hr:p.roles[c.role.toNat]?=some r):yZ p c=if wD c.rng.low u.rng.low=false then 19 else if wD u.rng.high c.rng.high=false then 19
 else if u.roles.mem c.role=false then 19 else if r.types.mem c.typ=false then 19 else 0:=by
 unfold yZ;rw[hu,hr]
theorem C5(w0:World)(c0 c1 c2 c3 c4 c5 c6 c7 c8 c9 aS aN aM aR aQ aP aO:Value)(p:aA)(hp:aJ w0 c0 c1 c2 c3 c4 c5 c6 c7 c8 c9 aS aN aM aR aQ aP aO p)(hok:p.Ok)(c:dI)(hc:c.Ok):Calls Tryz.prog 116 #[.agg #[c0,c1,c2,c3,c4,c5,c6,c7,c8,c9,aS,aN,aM,aR,aQ,aP,aO],.agg #[.int .i64 c.user,.int .i64 c.role,.int .i64 c.typ,.int .i64 c.rng.low.aC,.int .u64 c.rng.low.cats,.int .i64 c.rng.high.aC,.int .u64 c.rng.high.cats]] w0 (fun(e:Ending) (w':World)=>e=.returned (.int .i64 (vK p c))∧as2 w0.heap.size w0 w'):=by
 obtain⟨_,_,_,_,_,_,_,_,_,_,_,_,_,_,_,_,_,_,_,_,_,_,_,_,_,_,_,_,_,_,_,_,_,_,rfl,rfl,rfl,rfl,rfl,rfl,rfl,rfl,rfl,rfl,rfl,rfl,rfl,rfl,rfl,rfl,rfl⟩:=hp.open;refine bX [] (fn:=Tryz.f116) Tryz.func116 rfl Tryz.ntmps116 rfl<|fun g1 w1 M1=>fun g2 w2 M2=>lb 0<|an rfl<|lb 1<|an rfl<|cl<|an (fT _ _ _) fun w3 M3=>lb 0<|an (fun _=>rfl)<|lb 1<|an (fun _=>rfl)<|cl<|an (fun _=>fT _ _ _) fun w4 M4=>lb 0<|an (fun _=>rfl)<|lb 1<|an (fun _=>rfl)<|cl<|an (fun _=>fT _ _ _) fun w5 M5=>an (fun h M=>⟨ri ?_,M.below⟩) fun h=>?_
 ·unfold vK;cases h5:aX c.user p.users.length<;>cases h6:aX c.role p.roles.length<;>cases h7:aX c.typ p.types.length<;>simp_all
 have hb:aX c.user p.users.length=true∧aX c.role p.roles.length=true∧aX c.typ p.types.length=true:=by cases h5:aX c.user p.users.length<;>cases h6:aX c.role p.roles.length<;>cases h7:aX c.typ p.types.length<;>simp_all
 clear h;have hpm:vK p c=if rX p.aC.length p.cats.length c.rng=false then 18 else if c.role=0 then 0 else yZ p c:=by unfold vK;rw[hb.1,hb.2.1,hb.2.2];rfl
 rw[sM,sM,sM] at hb;obtain⟨⟨hu0,hu1⟩,⟨hr0,hr1⟩,ht0,ht1⟩:=hb;refine lb 1<|an rfl<|lb 0<|an rfl<|cl<|an (vJ _ _ _ _ _ _ _ _ _ _ _ _ _ _ _ _ _ _ p (hp.keep M5.below) c.rng hc.rng) fun w6 M6=>an (fun h M=>⟨ri (by rw[hpm,if_pos (by simpa using h)]),M.below⟩) fun h=>?_
 rw[if_neg (by simpa using h)] at hpm;refine lb 0<|an rfl<|an (fun h M=>⟨ri (by rw[hpm,if_pos (by simpa using h)]),M.below⟩) fun h=>?_
 rw[if_neg (by simpa using h)] at hpm;have hlu:c.user.toNat<p.users.length:=by omega
 have hlr:c.role.toNat<p.roles.length:=by omega
 obtain⟨u,hu⟩:∃ u,p.users[c.user.toNat]?=some u:=⟨_,as5 hlu⟩;obtain⟨r,hr⟩:∃ r,p.roles[c.role.toNat]?=some r:=⟨_,as5 hlr⟩;have oku:=hok.users u (as6 hu);have okr:=hok.roles r (as6 hr);obtain⟨b,o,e,hcu⟩:=SliceAt.elt hp.users (fun _=>rfl) (by decide) hu hlu;obtain⟨b',o',e',hcr⟩:=SliceAt.elt hp.roles (fun _=>rfl) (by decide) hr hlr;rw[KJ hu hr] at hpm;refine lb 1<|an rfl<|lb 0<|an rfl<|ia<|an ⟨e,(Int.toNat_of_nonneg hu0).symm,hlu⟩<|lc<|an (cG M6.below hcu)<|ei<|an RA fun g3 w7 M7=>lb 0<|an ⟨rfl,rfl⟩ fun w8 M8=>lb 1<|an rfl<|lb 0<|an rfl<|cl<|an (uz _ c.rng.low u.rng.low hc.rng.low oku.rng.low) fun w9 M9=>lb 0<|an (fun _=>rfl)<|lb 1<|an (fun _=>rfl)<|cl<|an (fun _=>uz _ u.rng.high c.rng.high oku.rng.high hc.rng.high) fun yq oK=>?_
 refine dr (by kernel_rfl)<|lb 0<|an (fun _=>rfl)<|lb 1<|an (fun _=>rfl)<|cl<|an (fun _ w' hb' M'=>XY _ u.roles oku.roles _)<|lb 2<|an (fun _=>rfl)<|lb 1<|an (fun _=>rfl)<|ia<|an (fun _=>⟨e',(Int.toNat_of_nonneg hr0).symm,hlr⟩)<|lc (x:=[.int .u64 r.types.a,.int .u64 r.types.b,.int .u64 r.types.c,.int .u64 r.types.d])<|an (fun _=>pH (cG oK.below hcr) rfl)<|lb 1<|an (fun _=>rfl)<|cl<|an (fun _ w' hb' M'=>XY _ r.types okr.types _) fun Gx LM M11=>an (fun h3 M=>⟨ri ?_,M.below⟩) fun h3 M=>⟨ri ?_,M.below⟩
 all_goals rw[hpm];clear hpm;cases h4:wD c.rng.low u.rng.low<;>cases h5:wD u.rng.high c.rng.high<;>cases h6:u.roles.mem c.role<;>cases h7:r.types.mem c.typ<;>simp_all
theorem Jb(w0:World)(x:ByteArray)(hx:dG x):Calls Tryz.prog 117 #[.agg #[.int .i64 3,.string x,.int .i64 0,.int .i64 0]] w0 (fun(e:Ending) (w':World)=>e=.returned (.bool (nJ x))∧as2 w0.heap.size w0 w'):=by
 exact bX [] (fn:=Tryz.f117) Tryz.func117 rfl Tryz.ntmps117 rfl<|fun g1 w1 M1=>lb 0<|an rfl<|an (fun h=>absurd h (by decide)) fun _=>an (fun h=>absurd h (by decide)) fun _=>an (fun h=>absurd h (by decide)) fun _=>an (fun _=>lb 0<|an rfl<|cl<|an ((KH _ x hx).mono fun _ _ ⟨h1,h2⟩=>⟨h1,h2▸Below.refl _ _⟩) fun w4 M4 M=>⟨rfl,M.below⟩) fun h=>absurd h (by decide)
def V3(p:aA)(before:List ByteArray)(y:kC):Int:=if bE [y.name] before=0 then vK p y.ctx else bE [y.name] before
def GX(p:aA)(i:Nat):Int:=match p.bH[i]? with
 | some y=>V3 p ((p.bH.take i).map (·.name)) y
 | none=>0
def Oc(p:aA)(y:kF):Int:=if fQ y.pat=true then 10 else if nJ y.pat=false then 10 else if y.kind<0 then 13 else if 4<y.kind then 13 else vK p y.ctx
def Bl(p:aA)(i:Nat):Int:=match p.files[i]? with
 | some y=>Oc p y
 | none=>0
def jx(p:aA):Int:=if 1024<p.bH.length then 4 else if aG (GX p) p.bH.length 0=0 then (if 256<p.files.length then 4 else aG (Bl p) p.files.length 0) else aG (GX p) p.bH.length 0
theorem Ll(w0:World)(c0 c1 c2 c3 c4 c5 c6 c7 c8 c9 aS aN aM aR aQ aP aO:Value)(p:aA)(hp:aJ w0 c0 c1 c2 c3 c4 c5 c6 c7 c8 c9 aS aN aM aR aQ aP aO p)(hok:p.Ok):Calls Tryz.prog 50 #[.agg #[c0,c1,c2,c3,c4,c5,c6,c7,c8,c9,aS,aN,aM,aR,aQ,aP,aO]] w0 (RI w0 (jx p)):=by
 obtain⟨_,_,_,_,_,_,_,_,_,_,_,_,_,_,_,_,_,_,_,_,_,_,_,_,_,_,_,_,_,_,_,_,_,_,rfl,rfl,rfl,rfl,rfl,rfl,rfl,rfl,rfl,rfl,rfl,rfl,rfl,rfl,rfl,rfl,rfl⟩:=hp.open;refine bX [] (fn:=Tryz.f50) Tryz.func50 rfl Tryz.ntmps50 rfl<|fun g1 w1 M1=>lb 0<|an rfl<|an (fun h M=>⟨ri (by unfold jx;rw[if_pos (by simp at h;omega)]),M.below⟩) fun h=>?_
 have hr:¬ 1024<p.bH.length:=by simp at h;omega
 refine lq (ι:=Nat×Value) (fun(m,u)=>[(3,u),(4,.int .i64 (m:Int))]) (fun(m,u)=>[⟨u,9,1,m,((p.bH.take m).map (·.name)).flatMap aT⟩]) (fun(m,u) _=>m≤p.bH.length∧aG (GX p) p.bH.length 0=aG (GX p) (p.bH.length-m) m) (fun(m,u)=>p.bH.length-m) (0,.slice none 0 0) (an ⟨⟨rfl,rfl,trivial⟩,fun M=>⟨M.cL 9 1,as3 _,by rw[Nat.sub_zero]⟩⟩ ?_);rintro⟨m,u⟩ w M ⟨hm,hinv⟩;refine lb 0<|an rfl<|an (fun h2=>?_) fun h2=>?_
 have hlt:m<p.bH.length:=by simp at h2;omega
 obtain⟨y,hy⟩:∃ y,p.bH[m]?=some y:=⟨_,as5 hlt⟩;have pU:=hok.bH y (as6 hy)
 ·obtain⟨b,o,e,hc⟩:=SliceAt.elt hp.bH (fun _=>rfl) (by decide) hy hlt;have hcf:GX p m=V3 p ((p.bH.take m).map (·.name)) y:=by unfold GX;rw[hy]
  have out:∀ v:Int,V3 p ((p.bH.take m).map (·.name)) y=v→v≠0→jx p=v:=fun v h1 h2=>by
   have e:aG (GX p) p.bH.length 0=v:=by rw[hinv,bZ hlt (by rw[hcf,h1];exact h2),hcf,h1]
   unfold jx;rw[if_neg hr,e,if_neg h2]
  unfold V3 at hcf out;refine lb 0<|an rfl<|ia<|an ⟨e,rfl,hlt⟩<|lc<|an (cG M.below hc 0 _ rfl)<|fun g2 w2 M2=>cl<|an (eG _ _ _ [y.name] ((p.bH.take m).map (·.name)) (M2.slice 0 rfl rfl rfl (by simp[maxLen])) (iD (M2.r 0 rfl) (by simp;omega) rfl) (by simpa using pU.name)) fun w3 M3=>an (fun h3 M=>⟨ri (out _ (if_neg (by simpa using h3)) (by simpa using h3)),M.below⟩) fun h3=>?_
  replace h3:bE [y.name] ((p.bH.take m).map (·.name))=0:=by simpa using h3
  rw[if_pos h3] at hcf out;exact lb 1<|an rfl<|ia<|an ⟨e,rfl,hlt⟩<|lc<|an (cG M3.below hc 0 _ rfl)<|fun g3 w4 M4=>ap 0 id rfl (M4.slice 0 rfl rfl rfl (by simp[maxLen])) ⟨by unfold maxLen;omega,by omega⟩ fun v4 w5 M5=>dr (by kernel_rfl)<|lb 2<|an rfl<|lb 2<|an rfl<|ia<|an ⟨e,rfl,hlt⟩<|lc (x:=[.int .i64 y.ctx.user,.int .i64 y.ctx.role,.int .i64 y.ctx.typ,.int .i64 y.ctx.rng.low.aC,.int .u64 y.ctx.rng.low.cats,.int .i64 y.ctx.rng.high.aC,.int .u64 y.ctx.rng.high.cats])<|an (pH (cG M5.below hc) rfl)<|cl<|an (fun w' hb' M'=>C5 _ _ _ _ _ _ _ _ _ _ _ _ _ _ _ _ _ _ p (hp.keep M'.below) hok y.ctx pU.ctx) fun w6 N_ M6=>an (fun h4 M=>⟨ri (out _ rfl (by simpa using h4)),M.below⟩) fun h4=>an (by omega)<|bk (m+1,v4) ⟨rfl,rfl,trivial⟩ (fun M=>⟨(M.only (.cons _ (.cons _ (.refl _))) (.refl _)).cast rfl (by dsimp only;rw[qR hy]),by omega,hinv.trans (bG hlt (by rw[hcf];simpa using h4))⟩) (by dsimp only;omega)
 have hz:aG (GX p) p.bH.length 0=0:=by rw[hinv,show m=p.bH.length by simp at h2;omega,bY]
 clear hinv h2 hm;refine lb 0<|an rfl<|an (fun h M=>⟨ri (by unfold jx;rw[if_neg hr,if_pos hz,if_pos (by simp at h;omega)]),M.below⟩) fun h=>?_
 rw[show jx p=aG (Bl p) p.files.length 0 by unfold jx;rw[if_neg hr,if_pos hz,if_neg (by simp at h;omega)]];have hfl:¬ 256<p.files.length:=by simp at h;omega
 refine lp (ι:=Nat) (fun m=>[(7,.int .i64 (m:Int))]) (fun _=>_) (fun _=>[]) (fun m _=>m≤p.files.length∧aG (Bl p) p.files.length 0=aG (Bl p) (p.files.length-m) m) (fun m=>p.files.length-m) 0 (an ⟨⟨rfl,trivial⟩,fun M=>⟨M.only (.refl _) (.cons _ (.refl _)),as3 _,by rw[Nat.sub_zero]⟩⟩ ?_);clear M;rintro m w M ⟨hm,hinv⟩;refine lb 0<|an rfl<|an (fun h2=>?_) fun h2 M=>⟨ri (by rw[hinv,show m=p.files.length by simp at h2;omega,bY]),M.below⟩
 have hlt:m<p.files.length:=by simp at h2;omega
 obtain⟨y,hy⟩:∃ y,p.files[m]?=some y:=⟨_,as5 hlt⟩;have pU:=hok.files y (as6 hy);obtain⟨b,o,e,hc⟩:=SliceAt.elt hp.files (fun _=>rfl) (by decide) hy hlt;have hcf:Bl p m=Oc p y:=by unfold Bl;rw[hy]
 have out:∀ v:Int,Oc p y=v→v≠0→aG (Bl p) p.files.length 0=v:=fun v h1 h2=>by rw[hinv,bZ hlt (by rw[hcf,h1];exact h2),hcf,h1]
 unfold Oc at hcf out;refine lb 0<|an rfl<|ia<|an ⟨e,rfl,hlt⟩<|lc<|an (cG M.below hc)<|ei<|an abS fun g5 w7 M7=>lb 0<|an ⟨rfl,rfl⟩ fun w8 M8=>lb 0<|an rfl<|lb 0<|an (fun _=>rfl)<|ei (x:=.agg #[.int .i64 3,.string y.pat,.int .i64 0,.int .i64 0])<|an (fun _=>bd (by kernel_rfl))<|cl<|an (fun _=>Jb _ y.pat pU.pat) fun w9 M9=>an (fun h3 M=>⟨ri (out 10 ?_ (by decide)),M.below⟩) fun h3=>?_
 ·change (fQ y.pat||!nJ y.pat)=true at h3
  clear out hcf;cases h4:fQ y.pat<;>cases h5:nJ y.pat<;>simp_all
 change (fQ y.pat||!nJ y.pat)=false at h3
 rw[if_neg (by intro e;simp[e] at h3),if_neg (by intro e;simp[e] at h3)] at hcf out;refine lb 0<|an rfl<|lb 0<|an (fun _=>rfl)<|an (fun h4 M=>⟨ri (out 13 ?_ (by decide)),M.below⟩) fun h4=>?_
 ·by_cases h5:y.kind<0
  ·rw[if_pos h5]
  ·rw[if_neg h5,if_pos (by simp at h4;omega)]
 rw[if_neg (by simp at h4;omega),if_neg (by simp at h4;omega)] at hcf out;exact lb 1<|an rfl<|lb 0<|an rfl<|cl<|an (C5 _ _ _ _ _ _ _ _ _ _ _ _ _ _ _ _ _ _ p (hp.keep M9.below) hok y.ctx pU.ctx) fun yq oK=>an (fun h5 M=>⟨ri (out _ rfl (by simpa using h5)),M.below⟩) fun h5=>an (by omega)<|bk (m+1) ⟨rfl,trivial⟩ (fun M=>⟨M.only (.cons _ (.refl _)) (.refl _),by omega,hinv.trans (bG hlt (by rw[hcf];simpa using h5))⟩) (by dsimp only;omega)
def rtM(nT nC nR:Nat)(y:kD):Int:=
 if vE nR y.roles=false then 3 else if y.types.within (ay.all nT)=false then 3 else if aX y.cls (nC:Int)=false then 3 else if aX y.res (nR:Int)=false then 3
 else if y.res=0 then 3 else if y.roles=ay.zero then 2 else if cN y.types=false then 2 else 0
def Wb(p:aA)(i:Nat):Int:=match p.aK[i]? with
 | some y=>rtM p.types.length p.classes.length p.roles.length y
 | none=>0
def rgM(nT nC nS nK:Nat)(y:kE):Int:=
 if y.src.within (ay.all nT)=false then 3 else if y.tgt.within (ay.all nT)=false then 3 else if aX y.cls (nC:Int)=false then 3
 else if cN y.src=false then 2 else if cN y.tgt=false then 2 else if rX nS nK y.rng=false then 18 else 0
def XZ(p:aA)(i:Nat):Int:=match p.ranges[i]? with
 | some y=>rgM p.types.length p.classes.length p.aC.length p.cats.length y
 | none=>0
def eN(p:aA):Int:=if 1024<p.aK.length then 4 else if aG (Wb p) p.aK.length 0=0 then (if 1024<p.ranges.length then 4 else aG (XZ p) p.ranges.length 0) else aG (Wb p) p.aK.length 0
theorem Jc(w0:World)(c0 c1 c2 c3 c4 c5 c6 c7 c8 c9 aS aN aM aR aQ aP aO:Value)(p:aA)(hp:aJ w0 c0 c1 c2 c3 c4 c5 c6 c7 c8 c9 aS aN aM aR aQ aP aO p)(hok:p.Ok):Calls Tryz.prog 48 #[.agg #[c0,c1,c2,c3,c4,c5,c6,c7,c8,c9,aS,aN,aM,aR,aQ,aP,aO]] w0 (RI w0 (eN p)):=by
 obtain⟨_,_,_,_,_,_,_,_,_,_,_,_,_,_,_,_,_,_,_,_,_,_,_,_,_,_,_,_,_,_,_,_,_,_,rfl,rfl,rfl,rfl,rfl,rfl,rfl,rfl,rfl,rfl,rfl,rfl,rfl,rfl,rfl,rfl,rfl⟩:=hp.open;have Cb:=hok.vq;refine bX [] (fn:=Tryz.f48) Tryz.func48 rfl Tryz.ntmps48 rfl fun g1 w1 M1=>lb 0<|an rfl<|an (fun h M=>⟨?_,M.below⟩) fun h=>?_
 ·simp only[decide_eq_true_eq] at h;unfold eN;rw[if_pos (by omega)];rfl
 simp only[decide_eq_false_iff_not] at h;have hr:¬ 1024<p.aK.length:=by omega
 have ahp:∀ v:Int,aG (Wb p) p.aK.length 0=v→v≠0→eN p=v:=fun v h1 h2=>by unfold eN;rw[if_neg hr,if_neg (by rw[h1];exact h2),h1]
 refine lr (ι:=Nat) (fun m=>[(3,.int .i64 (m:Int))]) (fun i _=>i≤p.aK.length∧aG (Wb p) p.aK.length 0=aG (Wb p) (p.aK.length-i) i) (fun i=>p.aK.length-i) 0 (an ⟨⟨rfl,trivial⟩,fun M=>⟨M,as3 _,by rw[Nat.sub_zero]⟩⟩ ?_);rintro i w M ⟨hi,hinv⟩;refine lb 0<|an rfl<|an (fun h2=>?_) fun h2=>?_
 ·simp only[decide_eq_true_eq] at h2;have hlz:i<p.aK.length:=by omega
  obtain⟨b,o,e,hc⟩:=SliceAt.elt (i:=i) hp.aK (fun _=>rfl) (by decide) (as5 hlz) hlz;have PD:=hok.aK p.aK[i] (List.getElem_mem hlz);have hcf:Wb p i=rtM p.types.length p.classes.length p.roles.length p.aK[i]:=by unfold Wb;rw[as5 hlz]
  generalize p.aK[i]=z at hc PD hcf
  have out:∀ v:Int,rtM p.types.length p.classes.length p.roles.length z=v→v≠0→Ending.returned (nF [.int .i64 v])=.returned (.int .i64 (eN p)):=fun v h1 h2=>by
   have e:aG (Wb p) p.aK.length 0=v:=by rw[hinv,bZ hlz (by rw[hcf,h1];exact h2),hcf,h1]
   rw[ahp _ e h2];rfl
  unfold rtM at out hcf;refine lb 0<|an rfl<|ia<|an ⟨e,rfl,hlz⟩<|lc<|an (cG M.below hc)<|ei<|an abO fun g3 w3 M3=>lb 0<|an ⟨rfl,rfl⟩ fun w4 M4=>?_
  refine dr (by kernel_rfl)<|lb 0<|an rfl<|ei (x:=.agg #[.int .u64 0,.int .u64 0,.int .u64 0,.int .u64 0])<|an (bd (by kernel_rfl))<|ei<|an ⟨yF,fun w=>mM z.roles w⟩<|lb 1<|an rfl<|lb 0<|an rfl<|cl<|an (fun w' hb' M'=>iW w' _ _ _ _ _ _ _ _ _ _ _ _ _ _ _ _ _ p (hp.keep M'.below) hok z.roles PD.roles) fun w5 hb5 M5=>?_
  refine lb 0<|an rfl<|lb 1<|an rfl<|cl<|an (fK _ z.types PD.types _ Cb) fun w6 Mw6=>lb 0<|an (fun _=>rfl)<|lb 1<|an (fun _=>rfl)<|cl<|an (fun _=>fT _ _ _) fun w7 Mw7=>lb 0<|an (fun _=>rfl)<|lb 1<|an (fun _=>rfl)<|cl<|an (fun _=>fT _ _ _) fun w8 Mw8=>lb 0<|an (fun _=>rfl)<|an (fun h3 M=>⟨out 3 ?_ (by decide),M.below⟩) fun h3=>an (fun h4 M=>⟨out 2 ?_ (by decide),M.below⟩) fun h4=>an (by omega)<|bk (i+1) ⟨rfl,trivial⟩ (fun M=>⟨M.only (.cons _ (.refl _)) (.refl _),by omega,hinv.trans (bG hlz ?_)⟩) (by dsimp only;omega)
  all_goals first|(rw[hcf];clear out hcf)|clear out hcf
  all_goals cases h5:vE p.roles.length z.roles<;>cases h6:z.types.within (ay.all p.types.length)<;>cases h7:aX z.cls (p.classes.length:Int)<;>cases h8:aX z.res (p.roles.length:Int)<;>by_cases h9:z.res=0<;>by_cases h10:z.roles=ay.zero<;>cases h11:cN z.types<;>simp_all
 simp only[decide_eq_false_iff_not] at h2;obtain rfl:i=p.aK.length:=by omega
 rw[Nat.sub_self] at hinv;replace hinv:aG (Wb p) p.aK.length 0=0:=hinv;have hz:=hinv;refine lb 0<|an rfl<|an (fun h M=>⟨?_,M.below⟩) fun h=>?_
 ·simp only[decide_eq_true_eq] at h;unfold eN;rw[if_neg hr,if_pos hz,if_pos (by omega)];rfl
 simp only[decide_eq_false_iff_not] at h;have hg:¬ 1024<p.ranges.length:=by omega
 have aed:eN p=aG (XZ p) p.ranges.length 0:=by unfold eN;rw[if_neg hr,if_pos hz,if_neg hg]
 have aho:∀ v:Int,aG (XZ p) p.ranges.length 0=v→v≠0→eN p=v:=fun v h1 _=>aed.trans h1
 clear hinv h2;refine lr (ι:=Nat) (fun m=>[(9,.int .i64 (m:Int))]) (fun i _=>i≤p.ranges.length∧aG (XZ p) p.ranges.length 0=aG (XZ p) (p.ranges.length-i) i) (fun i=>p.ranges.length-i) 0 (an ⟨⟨rfl,trivial⟩,fun M=>⟨M,as3 _,by rw[Nat.sub_zero]⟩⟩ ?_);rintro i w M ⟨hi,hinv⟩;refine lb 0<|an rfl<|an (fun h2=>?_) fun h2=>?_
 ·simp only[decide_eq_true_eq] at h2;have hlz:i<p.ranges.length:=by omega
  obtain⟨b,o,e,hc⟩:=SliceAt.elt (i:=i) hp.ranges (fun _=>rfl) (by decide) (as5 hlz) hlz;have PD:=hok.ranges p.ranges[i] (List.getElem_mem hlz);have hcf:XZ p i=rgM p.types.length p.classes.length p.aC.length p.cats.length p.ranges[i]:=by unfold XZ;rw[as5 hlz]
  generalize p.ranges[i]=z at hc PD hcf
  have out:∀ v:Int,rgM p.types.length p.classes.length p.aC.length p.cats.length z=v→v≠0→Ending.returned (nF [.int .i64 v])=.returned (.int .i64 (eN p)):=fun v h1 h2=>by
   have e:aG (XZ p) p.ranges.length 0=v:=by rw[hinv,bZ hlz (by rw[hcf,h1];exact h2),hcf,h1]
   rw[aho _ e h2];rfl
  unfold rgM at out hcf;refine lb 0<|an rfl<|ia<|an ⟨e,rfl,hlz⟩<|lc<|an (cG M.below hc)<|ei<|an abN fun g3 w3 M3=>lb 0<|an ⟨rfl,rfl⟩ fun w4 M4=>?_
  refine lb 0<|an rfl<|lb 1<|an rfl<|cl<|an (fK _ z.src PD.src _ Cb) fun w5 Mw5=>lb 0<|an rfl<|lb 1<|an rfl<|cl<|an (fK _ z.tgt PD.tgt _ Cb) fun w6 Mw6=>lb 0<|an (fun _=>rfl)<|lb 1<|an (fun _=>rfl)<|cl<|an (fun _=>fT _ _ _) fun w7 Mw7=>an (fun h3 M=>⟨out 3 ?_ (by decide),M.below⟩) fun h3=>an (fun h4 M=>⟨out 2 ?_ (by decide),M.below⟩) fun h4=>lb 1<|an rfl<|lb 0<|an rfl<|cl<|an (vJ _ _ _ _ _ _ _ _ _ _ _ _ _ _ _ _ _ _ p (hp.keep Mw7.below) z.rng PD.rng) fun w8 M8=>an (fun h5 M=>⟨out 18 ?_ (by decide),M.below⟩) fun h5=>an (by omega)<|bk (i+1) ⟨rfl,trivial⟩ (fun M=>⟨M.only (.cons _ (.refl _)) (.refl _),by omega,hinv.trans (bG hlz ?_)⟩) (by dsimp only;omega)
  all_goals first|(rw[hcf];clear out hcf)|clear out hcf
  all_goals cases h6:z.src.within (ay.all p.types.length)<;>cases h7:z.tgt.within (ay.all p.types.length)<;>cases h8:aX z.cls (p.classes.length:Int)<;>cases h9:cN z.src<;>cases h10:cN z.tgt<;>cases h11:rX p.aC.length p.cats.length z.rng<;>simp_all
 simp only[decide_eq_false_iff_not] at h2;obtain rfl:i=p.ranges.length:=by omega
 rw[Nat.sub_self] at hinv;exact fun M=>⟨by rw[aed,hinv];rfl,M.below⟩
def wG(before:List ByteArray)(y:iB):Int:=
 if bE [y.name] before=0 then (if 32<y.perms.length then 4 else if y.perms.length=0 then 2 else bE y.perms []) else bE [y.name] before
def qz(p:aA)(i:Nat):Int:=match p.classes[i]? with
 | some y=>wG ((p.classes.take i).map (·.name)) y
 | none=>0
def jM(p:aA):Int:=if 32<p.classes.length then 4 else aG (qz p) p.classes.length 0
theorem Ja(w0:World)(c0 c1 c2 c3 c4 c5 c6 c7 c8 c9 aS aN aM aR aQ aP aO:Value)(p:aA)(hp:aJ w0 c0 c1 c2 c3 c4 c5 c6 c7 c8 c9 aS aN aM aR aQ aP aO p)(hok:p.Ok):Calls Tryz.prog 41 #[.agg #[c0,c1,c2,c3,c4,c5,c6,c7,c8,c9,aS,aN,aM,aR,aQ,aP,aO]] w0 (RI w0 (jM p)):=by
 obtain⟨_,_,_,_,_,_,_,_,_,_,_,_,_,_,_,_,_,_,_,_,_,_,_,_,_,_,_,_,_,_,_,_,_,_,rfl,rfl,rfl,rfl,rfl,rfl,rfl,rfl,rfl,rfl,rfl,rfl,rfl,rfl,rfl,rfl,rfl⟩:=hp.open;refine bX [] (fn:=Tryz.f41) Tryz.func41 rfl Tryz.ntmps41 rfl<|fun g1 w1 M1=>lb 0<|an rfl<|an (fun h M=>⟨ri (by unfold jM;rw[if_pos (by simp at h;omega)]),M.below⟩) fun h=>?_
 have hr:¬ 32<p.classes.length:=by simp at h;omega
 rw[show jM p=aG (qz p) p.classes.length 0 from if_neg hr];refine lq (ι:=Nat×Value) (fun(m,u)=>[(3,u),(4,.int .i64 (m:Int))]) (fun(m,u)=>[⟨u,9,1,m,((p.classes.take m).map (·.name)).flatMap aT⟩]) (fun(m,u) _=>m≤p.classes.length∧aG (qz p) p.classes.length 0=aG (qz p) (p.classes.length-m) m) (fun(m,u)=>p.classes.length-m) (0,.slice none 0 0) (an ⟨⟨rfl,rfl,trivial⟩,fun M=>⟨M.cL 9 1,as3 _,by rw[Nat.sub_zero]⟩⟩ ?_);rintro⟨m,u⟩ w M ⟨hm,hinv⟩;refine lb 0<|an rfl<|an (fun h2=>?_) fun h2 M=>⟨ri (by rw[hinv,show m=p.classes.length by simp at h2;omega,bY]),M.below⟩
 have hlt:m<p.classes.length:=by simp at h2;omega
 obtain⟨y,hy⟩:∃ y,p.classes[m]?=some y:=⟨_,as5 hlt⟩;have pU:=hok.classes y (as6 hy);obtain⟨b,o,_,e,⟨v,rfl,hv⟩,hc⟩:=ak.elt hp.classes (by decide) hy;obtain⟨va,vc,rfl,-⟩:=aH.get hv;have hcf:qz p m=wG ((p.classes.take m).map (·.name)) y:=by unfold qz;rw[hy]
 have out:∀ v:Int,wG ((p.classes.take m).map (·.name)) y=v→v≠0→aG (qz p) p.classes.length 0=v:=fun v h1 h2=>by rw[hinv,bZ hlt (by rw[hcf,h1];exact h2),hcf,h1]
 unfold wG at hcf out;refine lb 0<|an rfl<|ia<|an ⟨e,rfl,hlt⟩<|lc<|an (cG M.below hc)<|ei<|an MO fun g2 w2 M2=>lb 0<|an ⟨rfl,rfl⟩ fun w3 M3=>lb 0<|an rfl<|fun g3 w4 M4=>cl<|an (eG _ _ _ [y.name] ((p.classes.take m).map (·.name)) (M4.slice 0 rfl rfl rfl (by simp[maxLen])) (iD (M4.r 0 rfl) (by simp;omega) rfl) (by simpa using pU.name)) fun w5 M5=>an (fun h3 M=>⟨ri (out _ (if_neg (by simpa using h3)) (by simpa using h3)),M.below⟩) fun h3=>?_
 replace h3:bE [y.name] ((p.classes.take m).map (·.name))=0:=by simpa using h3
 rw[if_pos h3] at hcf out;refine lb 1<|an rfl<|fun g4 w6 M6=>ap 0 id rfl (M6.slice 0 rfl rfl rfl (by simp[maxLen])) ⟨by unfold maxLen;omega,by omega⟩ fun v5 w7 M7=>lb 2<|an rfl<|an (fun h4 M=>⟨ri (out _ (if_pos (by simp at h4;omega)) (by decide)),M.below⟩) fun h4=>?_
 rw[if_neg (by simp at h4;omega)] at hcf out;refine lb 2<|an rfl<|an (fun h5 M=>⟨ri (out _ (if_pos (by simp at h5;simp[h5])) (by decide)),M.below⟩) fun h5=>?_
 rw[if_neg (by simp at h5;simp[h5])] at hcf out;exact lb 2<|an rfl<|cl<|an (eG _ _ _ y.perms [] (hv.keep M7.below) (SliceAt.nil _ _) pU.perms.all) fun w8 M8=>an (fun h6 M=>⟨ri (out _ rfl (by simpa using h6)),M.below⟩) fun h6=>an (by omega)<|bk (m+1,v5) ⟨rfl,rfl,trivial⟩ (fun M=>⟨(M.only (.cons _ (.cons _ (.cons _ (.refl _)))) (.refl _)).cast rfl (by dsimp only;rw[qR hy]),by omega,hinv.trans (bG hlt (by rw[hcf];simpa using h6))⟩) (by dsimp only;omega)
def MV(nR nS nC:Nat)(before:List ByteArray)(y:jX):Int:=
 if bE [y.name] before=0 then
  (if vE nR y.roles=false then 3
   else if rX nS nC y.rng=false then 18 else if vT nS nC y.dflt=false then 18
   else if wD y.rng.high y.dflt=false then 18 else if wD y.dflt y.rng.low=false then 18 else 0)
 else bE [y.name] before
def zU(p:aA)(i:Nat):Int:=match p.users[i]? with
 | some y=>MV p.roles.length p.aC.length p.cats.length ((p.users.take i).map (·.name)) y
 | none=>0
def vh(p:aA):Int:=if 32<p.users.length then 4 else aG (zU p) p.users.length 0
theorem O1(w0:World)(c0 c1 c2 c3 c4 c5 c6 c7 c8 c9 aS aN aM aR aQ aP aO:Value)(p:aA)(hp:aJ w0 c0 c1 c2 c3 c4 c5 c6 c7 c8 c9 aS aN aM aR aQ aP aO p)(hok:p.Ok):Calls Tryz.prog 44 #[.agg #[c0,c1,c2,c3,c4,c5,c6,c7,c8,c9,aS,aN,aM,aR,aQ,aP,aO]] w0 (RI w0 (vh p)):=by
 obtain⟨_,_,_,_,_,_,_,_,_,_,_,_,_,_,_,_,_,_,_,_,_,_,_,_,_,_,_,_,_,_,_,_,_,_,rfl,rfl,rfl,rfl,rfl,rfl,rfl,rfl,rfl,rfl,rfl,rfl,rfl,rfl,rfl,rfl,rfl⟩:=hp.open;refine bX [] (fn:=Tryz.f44) Tryz.func44 rfl Tryz.ntmps44 rfl<|fun g1 w1 M1=>lb 0<|an rfl<|an (fun h M=>⟨ri (by unfold vh;rw[if_pos (by simp at h;omega)]),M.below⟩) fun h=>?_
 have hr:¬ 32<p.users.length:=by simp at h;omega
 rw[show vh p=aG (zU p) p.users.length 0 from if_neg hr];refine lq (ι:=Nat×Value) (fun(m,u)=>[(3,u),(4,.int .i64 (m:Int))]) (fun(m,u)=>[⟨u,9,1,m,((p.users.take m).map (·.name)).flatMap aT⟩]) (fun(m,u) _=>m≤p.users.length∧aG (zU p) p.users.length 0=aG (zU p) (p.users.length-m) m) (fun(m,u)=>p.users.length-m) (0,.slice none 0 0) (an ⟨⟨rfl,rfl,trivial⟩,fun M=>⟨M.cL 9 1,as3 _,by rw[Nat.sub_zero]⟩⟩ ?_);rintro⟨m,u⟩ w M ⟨hm,hinv⟩;refine lb 0<|an rfl<|an (fun h2=>?_) fun h2 M=>⟨ri (by rw[hinv,show m=p.users.length by simp at h2;omega,bY]),M.below⟩
 have hlt:m<p.users.length:=by simp at h2;omega
 obtain⟨y,hy⟩:∃ y,p.users[m]?=some y:=⟨_,as5 hlt⟩;have pU:=hok.users y (as6 hy);obtain⟨b,o,e,hc⟩:=SliceAt.elt hp.users (fun _=>rfl) (by decide) hy hlt;have hcf:zU p m=MV p.roles.length p.aC.length p.cats.length ((p.users.take m).map (·.name)) y:=by unfold zU;rw[hy]
 have out:∀ v:Int,MV p.roles.length p.aC.length p.cats.length ((p.users.take m).map (·.name)) y=v→v≠0→aG (zU p) p.users.length 0=v:=fun v h1 h2=>by rw[hinv,bZ hlt (by rw[hcf,h1];exact h2),hcf,h1]
 unfold MV at hcf out;refine lb 0<|an rfl<|ia<|an ⟨e,rfl,hlt⟩<|lc<|an (cG M.below hc)<|ei<|an RA fun g2 w2 M2=>lb 0<|an ⟨rfl,rfl⟩ fun w3 M3=>lb 0<|an rfl<|fun g3 w4 M4=>cl<|an (eG _ _ _ [y.name] ((p.users.take m).map (·.name)) (M4.slice 0 rfl rfl rfl (by simp[maxLen])) (iD (M4.r 0 rfl) (by simp;omega) rfl) (by simpa using pU.name)) fun w5 M5=>an (fun h3 M=>⟨ri (out _ (if_neg (by simpa using h3)) (by simpa using h3)),M.below⟩) fun h3=>?_
 replace h3:bE [y.name] ((p.users.take m).map (·.name))=0:=by simpa using h3
 rw[if_pos h3] at hcf out;refine lb 1<|an rfl<|fun g4 w6 M6=>ap 0 id rfl (M6.slice 0 rfl rfl rfl (by simp[maxLen])) ⟨by unfold maxLen;omega,by omega⟩ fun v5 w7 M7=>lb 3<|an rfl<|lb 2<|an rfl<|cl<|an (iW _ _ _ _ _ _ _ _ _ _ _ _ _ _ _ _ _ _ p (hp.keep M7.below) hok y.roles pU.roles) fun w8 M8=>an (fun h4 M=>⟨ri (out 3 (if_pos (by simpa using h4)) (by decide)),M.below⟩) fun h4=>?_
 rw[if_neg (by simpa using h4)] at hcf out;refine lb 3<|an rfl<|lb 2<|an rfl<|cl<|an (vJ _ _ _ _ _ _ _ _ _ _ _ _ _ _ _ _ _ _ p (hp.keep M8.below) y.rng pU.rng) fun w9 M9=>lb 3<|an (fun _=>rfl)<|lb 2<|an (fun _=>rfl)<|cl<|an (fun _=>vS _ _ _ _ _ _ _ _ _ _ _ _ _ _ _ _ _ _ p (hp.keep M9.below) y.dflt pU.dflt) fun yq oK=>lb 2<|an (fun _=>rfl)<|lb 2<|an (fun _=>rfl)<|cl<|an (fun _=>uz _ y.rng.high y.dflt pU.rng.high pU.dflt) fun Gx M11=>lb 2<|an (fun _=>rfl)<|lb 2<|an (fun _=>rfl)<|cl<|an (fun _=>uz _ y.dflt y.rng.low pU.dflt pU.rng.low) fun JA Gf=>an (fun h5 M=>⟨ri (out 18 ?_ (by decide)),M.below⟩) fun h5=>an (by omega)<|bk (m+1,v5) ⟨rfl,rfl,trivial⟩ (fun M=>⟨(M.only (.cons _ (.cons _ (.cons _ (.refl _)))) (.refl _)).cast rfl (by dsimp only;rw[qR hy]),by omega,hinv.trans (bG hlt ?_)⟩) (by dsimp only;omega)
 all_goals first|(rw[hcf];clear hcf out)|clear hcf out
 all_goals cases h6:rX p.aC.length p.cats.length y.rng<;>cases h7:vT p.aC.length p.cats.length y.dflt<;>cases h8:wD y.rng.high y.dflt<;>cases h9:wD y.dflt y.rng.low<;>simp_all
def kg(p:aA):Int:=
 if 16<p.bools.length then 4
 else if ¬ bE (p.bools.map (·.name)) []=0 then bE (p.bools.map (·.name)) []
 else if 16<p.aC.length then 4
 else if ¬ bE p.aC []=0 then bE p.aC []
 else if 64<p.cats.length then 4
 else bE p.cats []
theorem KN(w:World)(c0 c1 c2 c3 c4 c5 c6 c7 c8 c9 aS aN aM aR aQ aP aO:Value)(p:aA)(hp:aJ w c0 c1 c2 c3 c4 c5 c6 c7 c8 c9 aS aN aM aR aQ aP aO p)(hok:p.Ok):Calls Tryz.prog 45 #[.agg #[c0,c1,c2,c3,c4,c5,c6,c7,c8,c9,aS,aN,aM,aR,aQ,aP,aO]] w fun e w'=>e=.returned (.int .i64 (kg p))∧as2 w.heap.size w w':=by
 obtain⟨_,_,_,_,_,_,_,_,_,_,_,_,_,_,_,_,_,_,_,_,_,_,_,_,_,_,_,_,_,_,_,_,_,_,rfl,rfl,rfl,rfl,rfl,rfl,rfl,rfl,rfl,rfl,rfl,rfl,rfl,rfl,rfl,rfl,rfl⟩:=hp.open;refine bX [] (fn:=Tryz.f45) Tryz.func45 rfl Tryz.ntmps45 rfl<|fun g1 w1 M1=>lb 0<|an rfl<|an (fun h M=>⟨ri (if_pos (by simp at h;omega)),M.below⟩) fun h=>?_
 have hr:¬ 16<p.bools.length:=by simp at h;omega
 refine lq (ι:=Nat×Value) (fun(m,u)=>[(3,u),(4,.int .i64 (m:Int))]) (fun(m,u)=>[⟨u,9,1,m,((p.bools.take m).map (·.name)).flatMap aT⟩]) (fun(m,u) _=>m≤p.bools.length) (fun(m,u)=>p.bools.length-m) (0,.slice none 0 0) (an ⟨⟨rfl,rfl,trivial⟩,fun M=>⟨M.cL 9 1,as3 _⟩⟩ ?_);rintro⟨m,u⟩ w2 M hm;refine lb 0<|an rfl<|an (fun h2=>?_) fun h2=>?_
 ·have hlt:m<p.bools.length:=by simp at h2;omega
  obtain⟨y,hy⟩:∃ y,p.bools[m]?=some y:=⟨_,as5 hlt⟩;obtain⟨b,o,e,hc⟩:=SliceAt.elt hp.bools (fun _=>rfl) (by decide) hy hlt;exact lb 0<|an rfl<|ia<|an ⟨e,rfl,hlt⟩<|lc<|an (cG M.below hc 0 _ rfl)<|fun g2 w2 M2=>ap 0 id rfl (M2.slice 0 rfl rfl rfl (by simp[maxLen])) ⟨by unfold maxLen;omega,by omega⟩ fun v3 w3 M3=>an (by omega)<|bk (m+1,v3) ⟨rfl,rfl,trivial⟩ (fun M=>⟨(M.only (.cons _ (.refl _)) (.refl _)).cast rfl (by dsimp only;rw[qR hy]),by omega⟩) (by dsimp only;omega)
 obtain rfl:m=p.bools.length:=by simp at h2;omega
 have hM:kg p=if ¬ bE (p.bools.map (·.name)) []=0 then bE (p.bools.map (·.name)) [] else if 16<p.aC.length then 4 else if ¬ bE p.aC []=0 then bE p.aC [] else if 64<p.cats.length then 4 else bE p.cats []:=if_neg hr
 refine cl<|an (eG _ _ _ (p.bools.map (·.name)) [] (iD (M.r 0 rfl) (by simp) (by rw[atc])) (SliceAt.nil _ _) (fun s hs=>by obtain⟨y,hy,rfl⟩:=ati.1 hs;exact(hok.bools y hy).name)) fun w4 M4=>an (fun h3 M=>⟨ri (by rw[hM,if_pos (by simpa using h3)]),M.below⟩) fun h3=>?_
 rw[if_neg (by simpa using h3)] at hM;refine lb 0<|an rfl<|an (fun h4 M=>⟨ri (by rw[hM,if_pos (by simp at h4;omega)]),M.below⟩) fun h4=>?_
 rw[if_neg (by simp at h4;omega)] at hM;refine lb 0<|an rfl<|cl<|an (eG _ _ _ p.aC [] (hp.aC.keep M4.below) (SliceAt.nil _ _) hok.aC) fun w5 M5=>an (fun h5 M=>⟨ri (by rw[hM,if_pos (by simpa using h5)]),M.below⟩) fun h5=>?_
 rw[if_neg (by simpa using h5)] at hM;refine lb 0<|an rfl<|an (fun h6 M=>⟨ri (by rw[hM,if_pos (by simp at h6;omega)]),M.below⟩) fun h6=>?_
 rw[if_neg (by simp at h6;omega)] at hM;exact lb 0<|an rfl<|cl<|an (eG _ _ _ p.cats [] (hp.cats.keep M5.below) (SliceAt.nil _ _) hok.cats) fun w6 M6 M=>⟨ri hM,M.below⟩
def mJ(p:aA):Int:=
 if oh [jM p,oV p,pK p]=0 then oh [vh p,kg p,fL p,mq p,eN p,qv p,jx p,qB p] else oh [jM p,oV p,pK p]
theorem Uz{w:World}{l:List Int}{n:Nat}{u:Value}{w0:World}(h:CK w0 42 n (l.map jN) u w)(hn:n=l.length)(hm:l.length≤maxLen:=by simp[maxLen]):Calls Tryz.prog 40 #[u] w fun e w'=>e=.returned (.int .i64 (oh l))∧as2 w.heap.size w w':=by
 subst hn;obtain⟨g,rfl,hW,-⟩:=h;exact(Qq _ _ l (SliceAt.Au hW (by simp) (by simp[jN,Value.oneCell']) hm)).mono fun _ _ ⟨h1,h2⟩=>⟨h1,h2▸Below.refl _ _⟩
theorem QH(w0:World)(c0 c1 c2 c3 c4 c5 c6 c7 c8 c9 aS aN aM aR aQ aP aO:Value)(p:aA)(hp:aJ w0 c0 c1 c2 c3 c4 c5 c6 c7 c8 c9 aS aN aM aR aQ aP aO p)(hok:p.Ok)(iN:p.Few):Calls Tryz.prog 12 #[.agg #[c0,c1,c2,c3,c4,c5,c6,c7,c8,c9,aS,aN,aM,aR,aQ,aP,aO]] w0 (RI w0 (mJ p)):=by
 refine bX [] (fn:=Tryz.f12) Tryz.func12 rfl Tryz.ntmps12 rfl<|fun g1 w1 M1=>dr (by kernel_rfl)<|lb 0<|an rfl<|cl<|an (fun w' hb M=>Ja _ _ _ _ _ _ _ _ _ _ _ _ _ _ _ _ _ _ p (hp.keep M.below) hok)<|lb 0<|an rfl<|cl<|an (fun w' hb M=>O3 _ _ _ _ _ _ _ _ _ _ _ _ _ _ _ _ _ _ p (hp.keep M.below) hok iN)<|lb 0<|an rfl<|cl<|an (fun w' hb M=>Pv _ _ _ _ _ _ _ _ _ _ _ _ _ _ _ _ _ _ p (hp.keep M.below) hok)<|br (CK w1 42 3 ([jM p,oV p,pK p].map jN))<|an kX<|an (fun w1 a o' hb M' hop oJ=>bK (p:=fun _=>True) (kk:=1) (b:=8) (by kernel_rfl) rfl rfl (by decide) (by decide) (by simp[Value.cells]) rfl w1 a o' hb trivial hop oJ)<|cu<|an (fun u _ w' hb' M' hR=>Uz hR rfl)<|fun w2 hb2 M2=>an (fun h M=>⟨ri (if_neg (by simpa using h)),M.below⟩) fun h=>?_
 rw[show mJ p=oh [vh p,kg p,fL p,mq p,eN p,qv p,jx p,qB p] from if_pos (by simpa using h)];exact dr (by kernel_rfl)<|lb 0<|an rfl<|cl<|an (fun w' hb M=>O1 _ _ _ _ _ _ _ _ _ _ _ _ _ _ _ _ _ _ p (hp.keep M.below) hok)<|lb 0<|an rfl<|cl<|an (fun w' hb M=>KN _ _ _ _ _ _ _ _ _ _ _ _ _ _ _ _ _ _ p (hp.keep M.below) hok)<|lb 0<|an rfl<|cl<|an (fun w' hb M=>Pq _ _ _ _ _ _ _ _ _ _ _ _ _ _ _ _ _ _ p (hp.keep M.below) hok)<|lb 0<|an rfl<|cl<|an (fun w' hb M=>O4 _ _ _ _ _ _ _ _ _ _ _ _ _ _ _ _ _ _ p (hp.keep M.below) hok)<|lb 0<|an rfl<|cl<|an (fun w' hb M=>Jc _ _ _ _ _ _ _ _ _ _ _ _ _ _ _ _ _ _ p (hp.keep M.below) hok)<|lb 0<|an rfl<|cl<|an (fun w' hb M=>yG _ _ _ _ _ _ _ _ _ _ _ _ _ _ _ _ _ _ p (hp.keep M.below) hok)<|lb 0<|an rfl<|cl<|an (fun w' hb M=>Ll _ _ _ _ _ _ _ _ _ _ _ _ _ _ _ _ _ _ p (hp.keep M.below) hok)<|lb 0<|an rfl<|cl<|an (fun w' hb M=>Jj _ _ _ _ _ _ _ _ _ _ _ _ _ _ _ _ _ _ p (hp.keep M.below) hok)<|br (CK w2 42 8 ([vh p,kg p,fL p,mq p,eN p,qv p,jx p,qB p].map jN))<|an kX<|an (fun w1 a o' hb M' hop oJ=>bK (p:=fun _=>True) (kk:=1) (b:=8) (by kernel_rfl) rfl rfl (by decide) (by decide) (by simp[Value.cells]) rfl w1 a o' hb trivial hop oJ)<|cu<|an (fun u _ w' hb' M' hR=>Uz hR rfl)<|fun w3 zu M3 M=>⟨rfl,M.below⟩
structure Jw (p:aA):Prop where
 small:p.BX
 rules:p.rules.length≤20
 bools:p.bools.length≤4
 check:mJ p=0
theorem Xf(w0:World)(c0 c1 c2 c3 c4 c5 c6 c7 c8 c9 aS aN aM aR aQ aP aO:Value)(p:aA)(hp:aJ w0 c0 c1 c2 c3 c4 c5 c6 c7 c8 c9 aS aN aM aR aQ aP aO p)(hok:p.Ok):Calls Tryz.prog 20 #[.agg #[c0,c1,c2,c3,c4,c5,c6,c7,c8,c9,aS,aN,aM,aR,aQ,aP,aO]] w0 (fun(e:Ending) (w':World)=>∃ v,e=.returned v∧((∃ b:Bool,v=.bool b∧(b=true→Jw p))∧as2 w0.heap.size w0 w')):=by
 obtain⟨_,_,_,_,_,_,_,_,_,_,_,_,_,_,_,_,_,_,_,_,_,_,_,_,_,_,_,_,_,_,_,_,_,_,rfl,rfl,rfl,rfl,rfl,rfl,rfl,rfl,rfl,rfl,rfl,rfl,rfl,rfl,rfl,rfl,rfl⟩:=hp.open;refine bX [] (fn:=Tryz.f20) Tryz.func20 rfl Tryz.ntmps20 rfl<|fun g1 w1 M1=>lb 0<|an rfl<|cg<|an (Ph _ _ _ _ _ _ _ _ _ _ _ _ _ _ _ _ _ _ p (hp.keep M1.below) hok) fun v w2 ⟨b1,hv,ac1,hB⟩=>⟨_,_,M1.keep hB,?_⟩
 subst hv;have M2:=M1.keep hB;refine lb 0<|an (fun _=>rfl)<|lb 0<|an (fun _=>rfl)<|lb 0<|an (fun _=>rfl)<|cg (R:=fun v w'=>(∃ x:Int,v=.int .i64 x∧(b1=true→x=mJ p))∧as2 w2.heap.size w2 w')<|an (fun h=>?_)<|an (fun h=>⟨.int .i64 (mJ p),⟨_,rfl,fun _=>rfl⟩,as2.refl _ _⟩) fun v w3 hR=>⟨_,_,M2.keep hR.2,?_⟩
 ·simp only[as4] at h;exact(QH _ _ _ _ _ _ _ _ _ _ _ _ _ _ _ _ _ _ p (hp.keep M2.below) hok (ac1 h.1.1).few).mono fun _ _ ⟨e,hb⟩=>⟨_,e,⟨_,rfl,fun _=>rfl⟩,hb⟩
 obtain⟨⟨x,rfl,hx⟩,-⟩:=hR;refine fun M=>⟨_,rfl,⟨_,rfl,fun h=>?_⟩,M.below⟩
 simp only[as4,decide_eq_true_eq] at h;obtain⟨⟨⟨h1,h2⟩,h3⟩,h4⟩:=h;exact⟨ac1 h1,by omega,by omega,by rw[← hx h1];exact h4⟩
theorem Vf{x y i:Nat}(hy:y<18446744073709551616)(hi:i<64):(rB x y).testBit i=(x.testBit i&&!y.testBit i):=by
 unfold rB;rw[Nat.testBit_and,show 18446744073709551615-y=2^64-(y+1) by omega,Nat.testBit_two_pow_sub_succ (by simpa using hy),decide_eq_true hi,Bool.true_and]
theorem PV{a b:ay}(hb:b.Ok){k:Nat}(hk:k<256):(a.minus b).has k=(a.has k&&!b.has k):=by
 unfold ay.has;rw[ay.J7 a b (by omega),Vf (ay.sW hb _) (Nat.mod_lt _ (by decide))]
theorem Jp{k:Nat}(hk:k<256):∀ n,n≤256→(wK n).has k=decide (k<n)
 | 0,_=>by rw[wK,ay.Ik];rfl
 | n+1,h=>by
  have e:(wK (n+1))=(wK n).add n:=by
   rw[wK]
   unfold ay.with
   rw[if_pos ⟨by omega,by omega⟩,Int.toNat_natCast]
  rw[e,ay.has_add _ (by omega) hk,Jp hk n (by omega),← Bool.decide_or];exact decide_eq_decide.2 (by omega)
theorem CN{a:ay}{T k:Nat}(h:a.within (ay.all T)=true)(hT:T≤256)(hk:k<256)(ha:a.has k=true):k<T:=by
 unfold ay.within at h;have h2:=of_decide_eq_true h;have h3:=PV (a:=a) (b:=ay.all T) (BR T) hk;rw[h2,ay.Ik,ha] at h3;unfold ay.all at h3;rw[Nat.min_eq_left hT,Jp hk T hT] at h3;by_cases hlt:k<T
 ·exact hlt
 ·rw[decide_eq_false hlt] at h3;cases h3
theorem Py{r:aj}{T:Nat}(hT:T≤256)(h1:r.src.within (ay.all T)=true)(h2:r.tgt.within (ay.all T)=true):∀ p∈r.pairs,p.1<T∧p.2<T:=fun p hp=>by
 obtain⟨hs,ht⟩:=iX hp;obtain⟨h3,h4⟩:=(bI (r:=r) (s:=p.1) (o:=p.2) hs ht).1 hp;have ha:=CN h1 hT hs h3;refine⟨ha,?_⟩;rw[Bool.or_eq_true,as4,decide_eq_true_eq] at h4;rcases h4 with h4|⟨-,h4⟩
 ·exact CN h2 hT ht h4
 ·omega
theorem BD{n:Nat}:∀ e:aq,j6 n e=0→iM n e
 | .node op a rel b names set kids,h=>by
  have ih:∀ k∈kids,j6 n k=0→iM n k:=fun k hk=>BD k
  rw[qy] at h
  cases hb:kA (.node op a rel b names set kids) with
  | true=>rw[hb] at h;simp at h
  | false=>
   rw[hb,if_neg (by decide)] at h
   cases h1:(decide (op=1)&&!aX a (n:Int)) with
   | true=>rw[show(decide ((aq.node op a rel b names set kids).op=1)&&!aX (aq.node op a rel b names set kids).a (n:Int))=true from h1] at h;simp at h
   | false=>
    rw[show(decide ((aq.node op a rel b names set kids).op=1)&&!aX (aq.node op a rel b names set kids).a (n:Int))=false from h1,if_neg (by decide)] at h;replace h:lC n kids=0:=h;unfold kA at hb;simp only[Bool.or_eq_false_iff,decide_eq_false_iff_not,Bool.not_eq_false',decide_eq_true_eq,aq.op,aq.kids] at hb;have hop:¬ op=8∧¬ op=9:=⟨of_decide_eq_false hb.1.1.1.1.1.1.1,of_decide_eq_false hb.1.1.1.1.1.1.2⟩;have hkl:m_ op=(kids.length:Int):=of_decide_eq_true hb.1.1.1.1.1.2
    have two:3≤op→op≤7→iM n (.node op a rel b names set kids):=fun h3 h7=>by
     have hk2:m_ op=2:=by
      have e:op=3∨op=4∨op=5∨op=6∨op=7:=by omega
      rcases e with rfl|rfl|rfl|rfl|rfl<;>rfl
     rw[hk2] at hkl
     match kids,h,hkl,ih with
     | [k,l],h,_,ih=>
      unfold lC at h;split at h
      ·rename_i hk;unfold lC at h;split at h
       ·rename_i hl;exact .bin h3 h7 (ih k (by simp) hk) (ih l (by simp) hl)
       ·rename_i hl;exact absurd h hl
      ·rename_i hk;exact absurd h hk
    by_cases e1:op=1
    ·subst e1;have hk0:kids=[]:=List.eq_nil_of_length_eq_zero (by have:m_ 1=0:=rfl;omega);subst hk0;rw[decide_eq_true rfl,Bool.true_and,Bool.not_eq_false'] at h1;unfold aX at h1;rw[as4,decide_eq_true_eq,decide_eq_true_eq] at h1;exact .bool h1.1 h1.2
    by_cases e2:op=2
    ·subst e2;have hk1:m_ 2=1:=rfl;rw[hk1] at hkl
     match kids,h,hkl,ih with
     | [k],h,_,ih=>
      unfold lC at h;split at h
      ·rename_i hk;exact .not (ih k (by simp) hk)
      ·rename_i hk;exact absurd h hk
    by_cases e3:3≤op∧op≤7
    ·exact two e3.1 e3.2
    exfalso
    have hm:m_ op<0:=by
     unfold m_;rw[if_neg e1,if_neg hop.1,if_neg hop.2,if_neg e2,if_neg (by omega),if_neg (by omega),if_neg (by omega),if_neg (by omega),if_neg (by omega)];decide
    omega
 termination_by e=>SizeOf.sizeOf e
 decreasing_by
  have:=List.sizeOf_lt_of_mem hk;simp only[aq.node.sizeOf_spec];omega
theorem Bn{p:aA}(h:Jw p)(hok:p.Ok):fA p∧CF p:=by
 have hc:=h.check;unfold mJ at hc;split at hc
 case isFalse hne=>exact absurd hc hne
 rw[jK] at hc;have hr:fL p=0:=hc _ (by simp);have ht:mq p=0:=hc _ (by simp);have hT:p.types.length≤256:=atj h.small.sizes.types (by decide);have hCl:p.classes.length≤256:=atj h.small.sizes.classes (by decide);unfold fL at hr;split at hr
 ·cases hr
 split at hr
 case isFalse _ hne=>exact absurd hr hne
 rename_i _ xJ;split at hr
 ·cases hr
 rw[cH] at hr xJ
 have R:∀ r∈p.rules,xu p.types.length p.conds.length p.classes r=0:=fun r hr'=>by
  obtain⟨i,hi⟩:=List.getElem?_of_mem hr';have:=hr i (as3 _) (by have:=(atb.1 hi).1;omega);unfold tK at this
  rwa [hi] at this
 have C:∀ e∈p.conds,iM p.bools.length e:=fun e he=>by
  obtain⟨i,hi⟩:=List.getElem?_of_mem he;have:=xJ i (as3 _) (by have:=(atb.1 hi).1;omega);unfold j7 at this;rw[hi] at this;replace this:cC p.bools.length e=0:=this;unfold cC at this;split at this
  ·cases this
  ·exact BD e this
 have RD:∀ r∈p.rules,RV p.types.length p.classes.length r∧(r.kind=4→r.cond=0)∧-(p.conds.length:Int)≤r.cond∧r.cond≤p.conds.length:=fun r hr'=>by
  have h0:=R r hr';unfold xu at h0;split at h0
  ·cases h0
  rename_i k1;split at h0
  ·cases h0
  rename_i k4;split at h0
  ·cases h0
  rename_i ho;split at h0
  ·cases h0
  rename_i ha;simp only[Bool.not_eq_true] at ho ha;unfold nI at ho;unfold qL at ha;simp only[Bool.or_eq_false_iff,Bool.not_eq_false'] at ho ha;obtain⟨⟨⟨o1,o2⟩,o3⟩,o4⟩:=ho
  have hcls:0≤r.cls∧r.cls<p.classes.length:=by
   cases hb:aX r.cls (p.classes.length:Int) with
   | false=>rw[wT hb] at o3;cases o3
   | true=>unfold aX at hb;simpa using hb
  unfold jL at o4;rw[as4,decide_eq_true_eq,decide_eq_true_eq] at o4;refine⟨⟨⟨by omega,by omega⟩,hcls,(hok.rules r hr').perms,Py hT o1 o2⟩,fun h4=>?_,o4⟩;have:=ha.2;rw[h4] at this;simpa using this
 have TD:∀ y∈p.trans,-(p.conds.length:Int)≤y.cond∧y.cond≤p.conds.length:=fun y hy=>by
  unfold mq at ht;split at ht
  case isFalse=>cases ht
  rw[cH] at ht;obtain⟨i,hi⟩:=List.getElem?_of_mem hy;have h0:=ht i (as3 _) (by have:=(atb.1 hi).1;omega);unfold rI at h0;rw[hi] at h0;replace h0:tB p.types.length p.classes.length p.conds.length y=0:=h0;unfold tB at h0
  cases hb:jL p.conds.length y.cond with
  | true=>
   unfold jL at hb
   rwa [as4,decide_eq_true_eq,decide_eq_true_eq] at hb
  | false=>
   rw[hb,if_pos rfl] at h0
   repeat' (split at h0;·cases h0)
   cases h0
 exact⟨⟨atj h.bools (by decide),fun r hr'=>(RD r hr').1,fun r hr'=>(RD r hr').2.1,C,fun r hr'=>(RD r hr').2.2,TD⟩,atj h.bools (by decide),atj h.small.sizes.conds (by decide),hT,hCl,fun r hr'=>⟨(RD r hr').1,hok.rules r hr'⟩⟩
theorem Lv(w0:World):Calls Tryz.prog 128 #[] w0 (fun(r:Ending) (w':World)=>r=.returned (.agg #[.int .i64 0,.int .i64 1,.int .i64 0,.int .i64 0,.int .u64 0,.int .i64 0,.int .u64 0])∧as2 w0.heap.size w0 w'):=by
 have bS:=hrC Tryz.prog Tryz.f128 (fun(r:Ending) (w':World)=>r=.returned (.agg #[.int .i64 0,.int .i64 1,.int .i64 0,.int .i64 0,.int .u64 0,.int .i64 0,.int .u64 0])∧as2 w0.heap.size w0 w') 2 0 74 rfl u74 rfl VZ;refine en Tryz.func128 rfl Tryz.ntmps128 rfl (vs:=[]) rfl fun _ F=>?_
 have M:=Mm.start w0;refine wp_seq_k fun K1 jd=>ah<|Lq (on rfl) rfl sU rfl F rfl M fun g1 _ _ F M=>wpList_nil<|jd _ _ ?_
 refine wp_seq_k fun K2 jy=>ah<|
  kz F rf (ux rfl (pv:=#[(1,.int .i64 1),(2,.int .i64 0)]) (by simp[BigFrame.eval_const]) (cells:=#[.int .i64 0,.int .i64 1,.int .i64 0,.int .i64 0,.int .u64 0,.int .i64 0,.int .u64 0]) (by kernel_rfl)) fun _ F=>
  Lm (on rfl) rfl (F.u rf) (F.u rf) F M 0 rfl VZ rfl rfl rfl fun _ M=>
  wpList_nil<|
  jy _ _ ?_
 refine wp_ret<|bS _ _ _ _ _ _ F rfl (M.b 0 rfl) rfl ?_;exact⟨rfl,M.below⟩
theorem Bm(w0:World):Calls Tryz.prog 129 #[] w0 (fun(r:Ending) (w':World)=>r=.returned (.agg #[.int .i64 0,.int .i64 0,.int .i64 2,.int .i64 0,.int .u64 0,.int .i64 0,.int .u64 0])∧as2 w0.heap.size w0 w'):=by
 have bS:=hrC Tryz.prog Tryz.f129 (fun(r:Ending) (w':World)=>r=.returned (.agg #[.int .i64 0,.int .i64 0,.int .i64 2,.int .i64 0,.int .u64 0,.int .i64 0,.int .u64 0])∧as2 w0.heap.size w0 w') 2 0 74 rfl u74 rfl VZ;refine en Tryz.func129 rfl Tryz.ntmps129 rfl (vs:=[]) rfl fun _ F=>?_
 have M:=Mm.start w0;refine wp_seq_k fun K1 jd=>ah<|Lq (on rfl) rfl sU rfl F rfl M fun g1 _ _ F M=>wpList_nil<|jd _ _ ?_
 refine wp_seq_k fun K2 jy=>ah<|
  kz F rf (ux rfl (pv:=#[(2,.int .i64 2)]) (by simp[BigFrame.eval_const]) (cells:=#[.int .i64 0,.int .i64 0,.int .i64 2,.int .i64 0,.int .u64 0,.int .i64 0,.int .u64 0]) (by kernel_rfl)) fun _ F=>
  Lm (on rfl) rfl (F.u rf) (F.u rf) F M 0 rfl VZ rfl rfl rfl fun _ M=>
  wpList_nil<|
  jy _ _ ?_
 refine wp_ret<|bS _ _ _ _ _ _ F rfl (M.b 0 rfl) rfl ?_;exact⟨rfl,M.below⟩
theorem tG{w0 w:World}{B:Nat}{bs:List Bx}{rs:List Rw}(M:aV B w0 w bs rs)(i:Nat){l:List Int}{x:Int}{g:Nat}{t:TypeId}(hb:bs[i]?=some (g,t,(l.flatMap anyI).toArray))(hx:GY l=x)(hl:∀ y∈l,0≤y∧y<64:=by simp)(hn:l.length≤100:=by decide)(ht:Nat.blt t 9000=true:=by rfl):
 Calls Tryz.prog 127 #[.slice (some ⟨g,0,none⟩) l.length l.length] w fun r w'=>r=.returned (.agg #[.int .u64 x,.int .u64 0,.int .u64 0,.int .u64 0])∧as2 w.heap.size w w':=by
 subst hx
 have hlen:(l.flatMap anyI).length=l.length*1:=by
  clear hb hl hn
  induction l with
  | nil=>rfl
  | cons x r ih=>rw[List.flatMap_cons,atg,ih,List.length_cons];simp[anyI];omega
 refine V6 w _ l (M.slice i hb (by simpa using hlen) ?_ (by unfold maxLen;omega) ht) hl;rw[atk];intro u hu;obtain⟨y,-,hy⟩:=List.mem_flatMap.1 (by simpa using hu);simp only[anyI,atl] at hy;rw[hy];rfl
def Both{α:Type}(R:List Value→α→Prop):List (List Value)→List α→Prop
 | [],[]=>True
 | x::r,y::s=>R x y∧Both R r s
 | _,_=>False
theorem Nn{α:Type}{R:List Value→α→Prop}:∀ {es:List (List Value)} {l:List α},Both R es l→∀ (i:Nat) x y,es[i]?=some x→l[i]?=some y→R x y
 | [],_,_,i,x,y,h,_=>by simp at h
 | x::r,[],h,_,_,_,_,_=>h.elim
 | x::r,y::s,h,0,_,_,h1,h2=>by simp at h1 h2;rw[← h1,← h2];exact h.1
 | x::r,y::s,h,i+1,_,_,h1,h2=>Nn h.2 i _ _ (by simpa using h1) (by simpa using h2)
theorem Ww{α:Type}{k:Nat}{R:List Value→α→Prop}{w:World}:ak k R w (.slice none 0 0) []:=⟨[],rfl,by simp,SliceAt.nil _ k,by simp⟩
def yY:aA:={
 classes:=[⟨⟨#[112,114,111,99,101,115,115]⟩,[⟨#[102,111,114,107]⟩,⟨#[116,114,97,110,115,105,116,105,111,110]⟩,⟨#[100,121,110,116,114,97,110,115,105,116,105,111,110]⟩,⟨#[115,101,110,100]⟩]⟩,⟨⟨#[102,105,108,101]⟩,[⟨#[114,101,97,100]⟩,⟨#[119,114,105,116,101]⟩,⟨#[99,114,101,97,116,101]⟩,⟨#[117,110,108,105,110,107]⟩,⟨#[101,120,101,99,117,116,101]⟩,⟨#[101,110,116,114,121,112,111,105,110,116]⟩,⟨#[114,101,108,97,98,101,108,102,114,111,109]⟩,⟨#[114,101,108,97,98,101,108,116,111]⟩]⟩,⟨⟨#[100,105,114]⟩,[⟨#[114,101,97,100]⟩,⟨#[119,114,105,116,101]⟩,⟨#[99,114,101,97,116,101]⟩,⟨#[117,110,108,105,110,107]⟩,⟨#[97,100,100]⟩,⟨#[114,101,109,111,118,101]⟩,⟨#[114,101,108,97,98,101,108,102,114,111,109]⟩,⟨#[114,101,108,97,98,101,108,116,111]⟩]⟩],
 types:=[⟨⟨#[105,110,105,116,95,116]⟩,[],false⟩,⟨⟨#[117,115,101,114,95,116]⟩,[],false⟩,⟨⟨#[102,105,108,101,95,116]⟩,[],false⟩,⟨⟨#[115,104,101,108,108,95,116]⟩,[],false⟩],
 attrs:=[⟨⟨#[100,111,109,97,105,110]⟩,⟨3,0,0,0⟩⟩],
 roles:=[⟨⟨#[111,98,106,101,99,116,95,114]⟩,⟨0,0,0,0⟩,⟨0,0,0,0⟩⟩,⟨⟨#[115,121,115,116,101,109]⟩,⟨3,0,0,0⟩,⟨0,0,0,0⟩⟩],
 users:=[⟨⟨#[114,111,111,116]⟩,⟨2,0,0,0⟩,⟨0,0⟩,⟨⟨0,0⟩,⟨0,0⟩⟩⟩],
 bools:=[⟨⟨#[115,104,97,114,101]⟩,false⟩],
 aC:=[⟨#[115,48]⟩],
 cats:=[],
 conds:=[.node 1 0 0 0 [] ⟨0,0,0,0⟩ []],
 rules:=[⟨1,⟨3,0,0,0⟩,⟨0,0,0,0⟩,true,0,9,0⟩,⟨1,⟨1,0,0,0⟩,⟨12,0,0,0⟩,false,1,17,0⟩,⟨1,⟨1,0,0,0⟩,⟨2,0,0,0⟩,false,0,2,0⟩,⟨1,⟨2,0,0,0⟩,⟨8,0,0,0⟩,false,1,32,0⟩,⟨1,⟨2,0,0,0⟩,⟨4,0,0,0⟩,false,1,1,1⟩],
 trans:=[⟨1,⟨1,0,0,0⟩,⟨8,0,0,0⟩,0,ByteArray.empty,1,0⟩],
 aK:=[],
 ranges:=[],
 cons:=[],
 bH:=[⟨⟨#[107,101,114,110,101,108]⟩,⟨0,1,0,⟨⟨0,0⟩,⟨0,0⟩⟩⟩⟩,⟨⟨#[114,111,111,116]⟩,⟨0,0,2,⟨⟨0,0⟩,⟨0,0⟩⟩⟩⟩,⟨⟨#[117,110,108,97,98,101,108,101,100]⟩,⟨0,0,2,⟨⟨0,0⟩,⟨0,0⟩⟩⟩⟩],
 files:=[],
 asserts:=[] }
def SB(g2 g3 g4 g5 g6 g9 g12 g15 g16 g17 g18 VB VA Vz:Nat):List Bx:=[(Vz,125,#[.string (⟨#[107,101,114,110,101,108]⟩),.int .i64 0,.int .i64 1,.int .i64 0,.int .i64 0,.int .u64 0,.int .i64 0,.int .u64 0,.string (⟨#[114,111,111,116]⟩),.int .i64 0,.int .i64 0,.int .i64 2,.int .i64 0,.int .u64 0,.int .i64 0,.int .u64 0,.string (⟨#[117,110,108,97,98,101,108,101,100]⟩),.int .i64 0,.int .i64 0,.int .i64 2,.int .i64 0,.int .u64 0,.int .i64 0,.int .u64 0]),
 (VA,84,#[.int .i64 1,.int .u64 1,.int .u64 0,.int .u64 0,.int .u64 0,.int .u64 8,.int .u64 0,.int .u64 0,.int .u64 0,.int .i64 0,.string ByteArray.empty,.int .i64 1,.int .i64 0]),
 (VB,56,#[.int .i64 1,.int .u64 3,.int .u64 0,.int .u64 0,.int .u64 0,.int .u64 0,.int .u64 0,.int .u64 0,.int .u64 0,.bool true,.int .i64 0,.int .u32 9,.int .i64 0,.int .i64 1,.int .u64 1,.int .u64 0,.int .u64 0,.int .u64 0,.int .u64 12,.int .u64 0,.int .u64 0,.int .u64 0,.bool false,.int .i64 1,.int .u32 17,.int .i64 0,.int .i64 1,.int .u64 1,.int .u64 0,.int .u64 0,.int .u64 0,.int .u64 2,.int .u64 0,.int .u64 0,.int .u64 0,.bool false,.int .i64 0,.int .u32 2,.int .i64 0,.int .i64 1,.int .u64 2,.int .u64 0,.int .u64 0,.int .u64 0,.int .u64 8,.int .u64 0,.int .u64 0,.int .u64 0,.bool false,.int .i64 1,.int .u32 32,.int .i64 0,.int .i64 1,.int .u64 2,.int .u64 0,.int .u64 0,.int .u64 0,.int .u64 4,.int .u64 0,.int .u64 0,.int .u64 0,.bool false,.int .i64 1,.int .u32 1,.int .i64 1]),
 (g18,89,#[.int .i64 1,.int .i64 0,.int .i64 0,.int .i64 0,.slice none 0 0,.int .u64 0,.int .u64 0,.int .u64 0,.int .u64 0,.slice none 0 0]),
 (g17,9,#[.string (⟨#[115,48]⟩)]),
 (g16,197,#[.string (⟨#[115,104,97,114,101]⟩),.bool false]),
 (g15,192,#[.string (⟨#[114,111,111,116]⟩),.int .u64 2,.int .u64 0,.int .u64 0,.int .u64 0,.int .i64 0,.int .u64 0,.int .i64 0,.int .u64 0,.int .i64 0,.int .u64 0]),
 (g12,188,#[.string (⟨#[111,98,106,101,99,116,95,114]⟩),.int .u64 0,.int .u64 0,.int .u64 0,.int .u64 0,.int .u64 0,.int .u64 0,.int .u64 0,.int .u64 0,.string (⟨#[115,121,115,116,101,109]⟩),.int .u64 3,.int .u64 0,.int .u64 0,.int .u64 0,.int .u64 0,.int .u64 0,.int .u64 0,.int .u64 0]),
 (g9,184,#[.string (⟨#[100,111,109,97,105,110]⟩),.int .u64 3,.int .u64 0,.int .u64 0,.int .u64 0]),
 (g6,86,#[.string (⟨#[105,110,105,116,95,116]⟩),.slice none 0 0,.bool false,.string (⟨#[117,115,101,114,95,116]⟩),.slice none 0 0,.bool false,.string (⟨#[102,105,108,101,95,116]⟩),.slice none 0 0,.bool false,.string (⟨#[115,104,101,108,108,95,116]⟩),.slice none 0 0,.bool false]),
 (g5,180,#[.string (⟨#[112,114,111,99,101,115,115]⟩),.slice (some ⟨g4,0,none⟩) 4 4,.string (⟨#[102,105,108,101]⟩),.slice (some ⟨g2,0,none⟩) 8 8,.string (⟨#[100,105,114]⟩),.slice (some ⟨g3,0,none⟩) 8 8]),
 (g4,9,#[.string (⟨#[102,111,114,107]⟩),.string (⟨#[116,114,97,110,115,105,116,105,111,110]⟩),.string (⟨#[100,121,110,116,114,97,110,115,105,116,105,111,110]⟩),.string (⟨#[115,101,110,100]⟩)]),
 (g3,9,#[.string (⟨#[114,101,97,100]⟩),.string (⟨#[119,114,105,116,101]⟩),.string (⟨#[99,114,101,97,116,101]⟩),.string (⟨#[117,110,108,105,110,107]⟩),.string (⟨#[97,100,100]⟩),.string (⟨#[114,101,109,111,118,101]⟩),.string (⟨#[114,101,108,97,98,101,108,102,114,111,109]⟩),.string (⟨#[114,101,108,97,98,101,108,116,111]⟩)]),
 (g2,9,#[.string (⟨#[114,101,97,100]⟩),.string (⟨#[119,114,105,116,101]⟩),.string (⟨#[99,114,101,97,116,101]⟩),.string (⟨#[117,110,108,105,110,107]⟩),.string (⟨#[101,120,101,99,117,116,101]⟩),.string (⟨#[101,110,116,114,121,112,111,105,110,116]⟩),.string (⟨#[114,101,108,97,98,101,108,102,114,111,109]⟩),.string (⟨#[114,101,108,97,98,101,108,116,111]⟩)])]
theorem Kr{B:Nat}{w0 w:World}{rs:List Rw}{g2 g3 g4 g5 g6 g9 g12 g15 g16 g17 g18 VB VA Vz:Nat}(M:aV B w0 w (SB g2 g3 g4 g5 g6 g9 g12 g15 g16 g17 g18 VB VA Vz) rs):aJ w (.slice (some ⟨g5,0,none⟩) 3 3) (.slice (some ⟨g6,0,none⟩) 4 4) (.slice (some ⟨g9,0,none⟩) 1 1) (.slice (some ⟨g12,0,none⟩) 2 2) (.slice (some ⟨g15,0,none⟩) 1 1) (.slice (some ⟨g16,0,none⟩) 1 1) (.slice (some ⟨g17,0,none⟩) 1 1) (.slice none 0 0) (.slice (some ⟨g18,0,none⟩) 1 1) (.slice (some ⟨VB,0,none⟩) 5 5) (.slice (some ⟨VA,0,none⟩) 1 1) (.slice none 0 0) (.slice none 0 0) (.slice none 0 0) (.slice (some ⟨Vz,0,none⟩) 3 3) (.slice none 0 0) (.slice none 0 0) yY:=
 ⟨⟨[[.string (⟨#[112,114,111,99,101,115,115]⟩),.slice (some ⟨g4,0,none⟩) 4 4],[.string (⟨#[102,105,108,101]⟩),.slice (some ⟨g2,0,none⟩) 8 8],[.string (⟨#[100,105,114]⟩),.slice (some ⟨g3,0,none⟩) 8 8]],rfl,by simp,(M.slice 10 rfl rfl rfl (by simp[maxLen])),Nn ⟨⟨_,rfl,(M.slice 11 rfl rfl rfl (by simp[maxLen]))⟩,⟨_,rfl,(M.slice 13 rfl rfl rfl (by simp[maxLen]))⟩,⟨_,rfl,(M.slice 12 rfl rfl rfl (by simp[maxLen]))⟩,trivial⟩⟩,
  ⟨[[.string (⟨#[105,110,105,116,95,116]⟩),.slice none 0 0,.bool false],[.string (⟨#[117,115,101,114,95,116]⟩),.slice none 0 0,.bool false],[.string (⟨#[102,105,108,101,95,116]⟩),.slice none 0 0,.bool false],[.string (⟨#[115,104,101,108,108,95,116]⟩),.slice none 0 0,.bool false]],rfl,by simp,(M.slice 9 rfl rfl rfl (by simp[maxLen])),Nn ⟨⟨_,rfl,(SliceAt.nil _ 1)⟩,⟨_,rfl,(SliceAt.nil _ 1)⟩,⟨_,rfl,(SliceAt.nil _ 1)⟩,⟨_,rfl,(SliceAt.nil _ 1)⟩,trivial⟩⟩,
  (M.slice 8 rfl rfl rfl (by simp[maxLen])),
  (M.slice 7 rfl rfl rfl (by simp[maxLen])),
  (M.slice 6 rfl rfl rfl (by simp[maxLen])),
  (M.slice 5 rfl rfl rfl (by simp[maxLen])),
  (M.slice 4 rfl rfl rfl (by simp[maxLen])),
  (SliceAt.nil _ 1),
  ⟨[[.int .i64 1,.int .i64 0,.int .i64 0,.int .i64 0,.slice none 0 0,.int .u64 0,.int .u64 0,.int .u64 0,.int .u64 0,.slice none 0 0]],rfl,by simp,(M.slice 3 rfl rfl rfl (by simp[maxLen])),Nn ⟨bh.node (names:=[]) (kids:=[]) (set:=⟨0,0,0,0⟩) (SliceAt.nil _ 1) (es:=[]) rfl (by simp) (SliceAt.nil _ 10) (by simp),trivial⟩⟩,
  (M.slice 2 rfl rfl rfl (by simp[maxLen])),
  (M.slice 1 rfl rfl rfl (by simp[maxLen])),
  (SliceAt.nil _ 10),
  (SliceAt.nil _ 13),
  Ww,
  (M.slice 0 rfl rfl rfl (by simp[maxLen])),
  (SliceAt.nil _ 9),
  (SliceAt.nil _ 10)⟩
theorem Ks(w0:World):Calls Tryz.prog 65 #[] w0 fun r w'=>∃ v,r=.returned v∧∃ g2 g3 g4 g5 g6 g9 g12 g15 g16 g17 g18 VB VA Vz:Nat,v=.agg #[.slice (some ⟨g5,0,none⟩) 3 3,.slice (some ⟨g6,0,none⟩) 4 4,.slice (some ⟨g9,0,none⟩) 1 1,.slice (some ⟨g12,0,none⟩) 2 2,.slice (some ⟨g15,0,none⟩) 1 1,.slice (some ⟨g16,0,none⟩) 1 1,.slice (some ⟨g17,0,none⟩) 1 1,.slice none 0 0,.slice (some ⟨g18,0,none⟩) 1 1,.slice (some ⟨VB,0,none⟩) 5 5,.slice (some ⟨VA,0,none⟩) 1 1,.slice none 0 0,.slice none 0 0,.slice none 0 0,.slice (some ⟨Vz,0,none⟩) 3 3,.slice none 0 0,.slice none 0 0]∧aV w0.heap.size w0 w' (SB g2 g3 g4 g5 g6 g9 g12 g15 g16 g17 g18 VB VA Vz) []:=by
 refine bX [] (fn:=Tryz.f65) Tryz.func65 rfl Tryz.ntmps65 rfl<|ei<|an q6 fun g1 w1 M1=>fun g2 w2 M2=>fun g3 w3 M3=>fun g4 w4 M4=>
  ei (x:=.agg #[.string (⟨#[112,114,111,99,101,115,115]⟩),.slice (some ⟨g4,0,none⟩) 4 4])<|an (bd (by kernel_rfl))<|
  ei (x:=.agg #[.string (⟨#[102,105,108,101]⟩),.slice (some ⟨g2,0,none⟩) 8 8])<|an (bd (by kernel_rfl))<|
  ei (x:=.agg #[.string (⟨#[100,105,114]⟩),.slice (some ⟨g3,0,none⟩) 8 8])<|an (bd (by kernel_rfl))<|
  fun g5 w5 M5=>
  ei (x:=.agg #[.string (⟨#[105,110,105,116,95,116]⟩),.slice none 0 0,.bool false])<|an (bd (by kernel_rfl))<|
  ei (x:=.agg #[.string (⟨#[117,115,101,114,95,116]⟩),.slice none 0 0,.bool false])<|an (bd (by kernel_rfl))<|
  ei (x:=.agg #[.string (⟨#[102,105,108,101,95,116]⟩),.slice none 0 0,.bool false])<|an (bd (by kernel_rfl))<|
  ei (x:=.agg #[.string (⟨#[115,104,101,108,108,95,116]⟩),.slice none 0 0,.bool false])<|an (bd (by kernel_rfl))<|
  fun g6 w6 M6=>
  fun g7 w7 M7=>
  cl<|an (tG M7 0 (l:=[0,1]) (x:=3) rfl rfl) fun w8 M8=>
  ei (x:=.agg #[.string (⟨#[100,111,109,97,105,110]⟩),.int .u64 3,.int .u64 0,.int .u64 0,.int .u64 0])<|an (bd (by kernel_rfl))<|
  fun g9 w9 M9=>
  ei (x:=.agg #[.string (⟨#[111,98,106,101,99,116,95,114]⟩),.int .u64 0,.int .u64 0,.int .u64 0,.int .u64 0,.int .u64 0,.int .u64 0,.int .u64 0,.int .u64 0])<|an (bd (by kernel_rfl))<|
  fun g10 yq oK=>
  cl<|an (tG oK 0 (l:=[0,1]) (x:=3) rfl rfl) fun Gx M11=>
  ei (x:=.agg #[.string (⟨#[115,121,115,116,101,109]⟩),.int .u64 3,.int .u64 0,.int .u64 0,.int .u64 0,.int .u64 0,.int .u64 0,.int .u64 0,.int .u64 0])<|an (bd (by kernel_rfl))<|
  fun g12 JA Gf=>
  fun g13 MS yK=>
  cl<|an (tG yK 0 (l:=[1]) (x:=2) rfl rfl) fun Vu JD=>
  ei (x:=.agg #[.string (⟨#[114,111,111,116]⟩),.int .u64 2,.int .u64 0,.int .u64 0,.int .u64 0,.int .i64 0,.int .u64 0,.int .i64 0,.int .u64 0,.int .i64 0,.int .u64 0])<|an (bd (by kernel_rfl))<|
  fun g15 OY Ge=>
  ei (x:=.agg #[.string (⟨#[115,104,97,114,101]⟩),.bool false])<|an (bd (by kernel_rfl))<|
  fun g16 XQ Ms=>
  fun g17 XP XK=>
  ei (x:=.agg #[.int .i64 1,.int .i64 0,.int .i64 0,.int .i64 0,.slice none 0 0,.int .u64 0,.int .u64 0,.int .u64 0,.int .u64 0,.slice none 0 0])<|an (bd (by kernel_rfl))<|
  fun g18 w18 XJ=>
  fun g19 w19 YS=>
  cl<|an (tG YS 0 (l:=[0,1]) (x:=3) rfl rfl) fun w20 M20=>
  ei (x:=.agg #[.int .i64 1,.int .u64 3,.int .u64 0,.int .u64 0,.int .u64 0,.int .u64 0,.int .u64 0,.int .u64 0,.int .u64 0,.bool true,.int .i64 0,.int .u32 9,.int .i64 0])<|an (bd (by kernel_rfl))<|
  fun g21 w21 M21=>
  cl<|an (tG M21 0 (l:=[0]) (x:=1) rfl rfl) fun w22 M22=>
  fun g23 w23 M23=>
  cl<|an (tG M23 0 (l:=[2,3]) (x:=12) rfl rfl) fun w24 M24=>
  ei (x:=.agg #[.int .i64 1,.int .u64 1,.int .u64 0,.int .u64 0,.int .u64 0,.int .u64 12,.int .u64 0,.int .u64 0,.int .u64 0,.bool false,.int .i64 1,.int .u32 17,.int .i64 0])<|an (bd (by kernel_rfl))<|
  fun g25 w25 M25=>
  cl<|an (tG M25 0 (l:=[0]) (x:=1) rfl rfl) fun w26 M26=>
  fun g27 w27 M27=>
  cl<|an (tG M27 0 (l:=[1]) (x:=2) rfl rfl) fun w28 M28=>
  ei (x:=.agg #[.int .i64 1,.int .u64 1,.int .u64 0,.int .u64 0,.int .u64 0,.int .u64 2,.int .u64 0,.int .u64 0,.int .u64 0,.bool false,.int .i64 0,.int .u32 2,.int .i64 0])<|an (bd (by kernel_rfl))<|
  fun g29 w29 M29=>
  cl<|an (tG M29 0 (l:=[1]) (x:=2) rfl rfl) fun w30 M30=>
  fun g31 w31 M31=>
  cl<|an (tG M31 0 (l:=[3]) (x:=8) rfl rfl) fun w32 M32=>
  ei (x:=.agg #[.int .i64 1,.int .u64 2,.int .u64 0,.int .u64 0,.int .u64 0,.int .u64 8,.int .u64 0,.int .u64 0,.int .u64 0,.bool false,.int .i64 1,.int .u32 32,.int .i64 0])<|an (bd (by kernel_rfl))<|
  fun g33 w33 M33=>
  cl<|an (tG M33 0 (l:=[1]) (x:=2) rfl rfl) fun w34 M34=>
  fun g35 w35 M35=>
  cl<|an (tG M35 0 (l:=[2]) (x:=4) rfl rfl) fun w36 M36=>
  ei (x:=.agg #[.int .i64 1,.int .u64 2,.int .u64 0,.int .u64 0,.int .u64 0,.int .u64 4,.int .u64 0,.int .u64 0,.int .u64 0,.bool false,.int .i64 1,.int .u32 1,.int .i64 1])<|an (bd (by kernel_rfl))<|
  fun VB w37 M37=>
  fun g38 w38 M38=>
  cl<|an (tG M38 0 (l:=[0]) (x:=1) rfl rfl) fun w39 M39=>
  fun g40 w40 M40=>
  cl<|an (tG M40 0 (l:=[3]) (x:=8) rfl rfl) fun w41 M41=>
  ei (x:=.agg #[.int .i64 1,.int .u64 1,.int .u64 0,.int .u64 0,.int .u64 0,.int .u64 8,.int .u64 0,.int .u64 0,.int .u64 0,.int .i64 0,.string ByteArray.empty,.int .i64 1,.int .i64 0])<|an (bd (by kernel_rfl))<|
  fun VA w42 M42=>
  cl<|an (Lv w42) fun w43 M43=>
  ei (x:=.agg #[.string (⟨#[107,101,114,110,101,108]⟩),.int .i64 0,.int .i64 1,.int .i64 0,.int .i64 0,.int .u64 0,.int .i64 0,.int .u64 0])<|an (bd (by kernel_rfl))<|
  cl<|an (Bm w43) fun w44 M44=>
  ei (x:=.agg #[.string (⟨#[114,111,111,116]⟩),.int .i64 0,.int .i64 0,.int .i64 2,.int .i64 0,.int .u64 0,.int .i64 0,.int .u64 0])<|an (bd (by kernel_rfl))<|
  cl<|an (Bm w44) fun w45 M45=>
  ei (x:=.agg #[.string (⟨#[117,110,108,97,98,101,108,101,100]⟩),.int .i64 0,.int .i64 0,.int .i64 2,.int .i64 0,.int .u64 0,.int .i64 0,.int .u64 0])<|an (bd (by kernel_rfl))<|
  fun Vz w46 M46=>
  ei (x:=.agg #[.slice (some ⟨g5,0,none⟩) 3 3,.slice (some ⟨g6,0,none⟩) 4 4,.slice (some ⟨g9,0,none⟩) 1 1,.slice (some ⟨g12,0,none⟩) 2 2,.slice (some ⟨g15,0,none⟩) 1 1,.slice (some ⟨g16,0,none⟩) 1 1,.slice (some ⟨g17,0,none⟩) 1 1,.slice none 0 0,.slice (some ⟨g18,0,none⟩) 1 1,.slice (some ⟨VB,0,none⟩) 5 5,.slice (some ⟨VA,0,none⟩) 1 1,.slice none 0 0,.slice none 0 0,.slice none 0 0,.slice (some ⟨Vz,0,none⟩) 3 3,.slice none 0 0,.slice none 0 0])<|an (bd (by kernel_rfl))<|
  lb 28<|an ⟨rfl,rfl⟩ fun w M=>?_
 exact ei (x:=28)<|an rfl fun M=>⟨_,rfl,g2,g3,g4,g5,g6,g9,g12,g15,g16,g17,g18,VB,VA,Vz,rfl,M.only (.cons_cons _<|(.cons_cons _<|(.cons _<|(.cons _<|(.cons_cons _<|(.cons _<|(.cons _<|(.cons _<|(.cons _<|(.cons _<|(.cons _<|(.cons _<|(.cons _<|(.cons _<|(.cons_cons _<|(.cons_cons _<|(.cons_cons _<|(.cons_cons _<|(.cons _<|(.cons_cons _<|(.cons _<|(.cons_cons _<|(.cons _<|(.cons_cons _<|(.cons_cons _<|(.cons_cons _<|(.cons_cons _<|(.cons_cons _<|(.cons _<|.refl []))))))))))))))))))))))))))))) (.refl _)⟩
def dP:aA:={ yY with rules:=[⟨1,⟨1,0,0,0⟩,⟨2,0,0,0⟩,false,1,1,0⟩,⟨1,⟨1,0,0,0⟩,⟨2,0,0,0⟩,false,1,2,0⟩,⟨1,⟨1,0,0,0⟩,⟨4,0,0,0⟩,false,1,3,0⟩,⟨1,⟨1,0,0,0⟩,⟨4,0,0,0⟩,false,1,1,1⟩] }
def FY:aA:={ dP with rules:=dP.rules.take 3 }
def BU:aA:={ dP with rules:=[⟨1,⟨1,0,0,0⟩,⟨6,0,0,0⟩,false,1,3,0⟩] }
def FZ:aA:={ BU with conds:=[] }
theorem QN:vI dP=[3]:=by kernel_rfl
theorem XE:aY dP=dP:=by kernel_rfl
theorem OH:yN (aY dP) (mD (aY dP))=FY:=by kernel_rfl
theorem XD:gY FY=BU:=by kernel_rfl
theorem XC:nN dP=FZ:=by kernel_rfl
theorem XB:xg dP FZ=true:=by kernel_rfl
instance (n:Nat):Decidable (oO n):=inferInstanceAs (Decidable (_≤_))
instance (s:ByteArray):Decidable (dG s):=inferInstanceAs (Decidable (_≤_))
instance (n:Int):Decidable (iU n):=inferInstanceAs (Decidable (_∧_))
instance (n:Int):Decidable (OL n):=inferInstanceAs (Decidable (_∧_))
instance (n:Nat):Decidable (yJ n):=inferInstanceAs (Decidable (_<_))
theorem uL:dP.Ok:=by
 repeat' (first|decide|refine List.forall_mem_cons.2 ⟨?_,?_⟩|exact List.forall_mem_nil _|constructor)
theorem Jq:mh dP:=by
 repeat' (first|decide|refine List.forall_mem_cons.2 ⟨?_,?_⟩|exact List.forall_mem_nil _|constructor)
theorem QS:FY.Ok:=by
 repeat' (first|decide|refine List.forall_mem_cons.2 ⟨?_,?_⟩|exact List.forall_mem_nil _|constructor)
theorem QO:mh FY:=by
 repeat' (first|decide|refine List.forall_mem_cons.2 ⟨?_,?_⟩|exact List.forall_mem_nil _|constructor)
theorem QV:BU.Ok:=by
 repeat' (first|decide|refine List.forall_mem_cons.2 ⟨?_,?_⟩|exact List.forall_mem_nil _|constructor)
theorem QU:mh BU:=by
 repeat' (first|decide|refine List.forall_mem_cons.2 ⟨?_,?_⟩|exact List.forall_mem_nil _|constructor)
theorem QT:FZ.Ok:=by
 repeat' (first|decide|refine List.forall_mem_cons.2 ⟨?_,?_⟩|exact List.forall_mem_nil _|constructor)
theorem Jr(p:aA)(hb:p.bools=yY.bools)(hc:p.conds=yY.conds):∀ e∈p.conds,∃ d,d≤12∧g_ d (bg p.bools e)∧(ct (bg p.bools e)).length≤5:=by
 rw[hb,hc];intro e he;obtain rfl:=atl.1 he;exact⟨1,by decide,.name (by kernel_rfl) (by decide),by decide +kernel⟩
theorem Vm:JE dP:=⟨uL,Jq,by decide,by decide,by repeat' (first|decide|refine List.forall_mem_cons.2 ⟨?_,?_⟩|exact List.forall_mem_nil _|constructor),by repeat' (first|decide|refine List.forall_mem_cons.2 ⟨?_,?_⟩|exact List.forall_mem_nil _|constructor),Jr _ rfl rfl,by decide,by decide⟩
theorem QW:JE BU:=⟨QV,QU,by decide,by decide,by repeat' (first|decide|refine List.forall_mem_cons.2 ⟨?_,?_⟩|exact List.forall_mem_nil _|constructor),by repeat' (first|decide|refine List.forall_mem_cons.2 ⟨?_,?_⟩|exact List.forall_mem_nil _|constructor),Jr _ rfl rfl,by decide,by decide⟩
theorem wJ(l:List Int):∀ u∈l.map jN,u.oneCell'=true:=fun u hu=>by
 obtain⟨y,-,rfl⟩:=ati.1 hu;rfl
theorem X3{w0 w:World}{B:Nat}{bs:List Bx}{rs:List Rw}(M:aV B w0 w bs rs)(i:Nat){l:List Int}{s:ay}{g:Nat}{t:TypeId}(hb:bs[i]?=some (g,t,(l.map jN).toArray))(hx:Rl l=s)(hn:l.length≤100:=by decide)(ht:Nat.blt t 9000=true:=by rfl):
 Calls Tryz.prog 66 #[.slice (some ⟨g,0,none⟩) l.length l.length] w fun r w'=>r=.returned (.agg #[.int .u64 s.a,.int .u64 s.b,.int .u64 s.c,.int .u64 s.d])∧as2 w.heap.size w w':=by
 subst hx;exact of2 w _ l (M.slice i hb (by simp) (by rw[atk];exact fun u hu=>wJ l u (by simpa using hu)) (by unfold maxLen;omega) ht)
theorem ofK{w w':World}{u:Value}{l:List Int}{s:ay}(h:CK w 3 l.length (l.map jN) u w')(hx:Rl l=s)(hn:l.length≤100:=by decide):
 Calls Tryz.prog 66 #[u] w' fun r w''=>r=.returned (.agg #[.int .u64 s.a,.int .u64 s.b,.int .u64 s.c,.int .u64 s.d])∧as2 w'.heap.size w' w'':=by
 subst hx;obtain⟨g,rfl,hW,-⟩:=h;exact of2 w' _ l (SliceAt.Au hW (by simp) (by rw[atk];exact fun u hu=>wJ l u (by simpa using hu)) (by unfold maxLen;omega))
theorem Xu{w w':World}{u:Value}{l:List Int}(h:CK w 3 l.length (l.map jN) u w')(hn:l.length≤100:=by decide):SliceAt w' u 1 l.length (l.flatMap anyI):=by
 obtain⟨g,rfl,hW,-⟩:=h
 have e:l.flatMap anyI=l.map jN:=by
  clear hW hn
  induction l with
  | nil=>rfl
  | cons x r ih=>rw[List.flatMap_cons,ih];rfl
 rw[e];exact SliceAt.Au hW (by simp) (by rw[atk];exact fun u hu=>wJ l u (by simpa using hu)) (by unfold maxLen;omega)
theorem RowsIn.tail{B:Nat}{w:World}{r:Rw}{T:List Rw}(h:RowsIn B w (r::T)):RowsIn B w T:=⟨fun x hx=>h.1 x (atf _ hx),(List.pairwise_cons.1 h.2).2⟩
theorem Ls(w0:World)(v v':Value)(a b:List Int)(ha:SliceAt w0 v 1 a.length (a.flatMap anyI))(hb:SliceAt w0 v' 1 b.length (b.flatMap anyI)):Calls Tryz.prog 28 #[v,v'] w0 fun r w'=>r=.returned (.bool (decide (a=b)))∧as2 w0.heap.size w0 w':=by
 obtain⟨la,ka,rfl,-,hm,-⟩:=SliceAt.form ha (by decide);obtain⟨lb',kb,rfl,-⟩:=SliceAt.form hb (by decide);have no:a≠b→Ending.returned (nF [Value.bool false])=.returned (.bool (decide (a=b))):=fun h=>by rw[decide_eq_false h];rfl
 refine bX [] (fn:=Tryz.f28) Tryz.func28 rfl Tryz.ntmps28 rfl<|an (fun h M=>⟨no fun e=>by rw[e] at h;simp at h,M.below⟩) fun h=>lr (ι:=Nat) (fun m=>[(5,.int .i64 (m:Int))]) (fun m _=>m≤a.length∧a.take m=b.take m) (fun m=>a.length-m) 0 (an ⟨⟨rfl,trivial⟩,fun M=>⟨M,as3 _,rfl⟩⟩ ?_)
 have hll:a.length=b.length:=Int.ofNat_inj.1 (by simpa using h);intro m w M ⟨hmm,ht⟩;refine an (fun h2=>?_) fun h2 M=>⟨?_,M.below⟩
 ·simp only[decide_eq_true_eq] at h2;obtain⟨x,y,b1,o1,b2,o2,hx,hy,⟨rfl,hc⟩,rfl,hc'⟩:=dH (f:=anyI) (fun _=>rfl) (by decide) ha hb rfl rfl (m:=m) (by omega) hll M.below;refine dr (by kernel_rfl)<|ia<|an ⟨rfl,rfl,by omega⟩<|lc<|an (hc 0 _ rfl)<|ia<|an ⟨rfl,rfl,by omega⟩<|lc<|an (hc' 0 _ rfl) fun w2 hb2 M2=>an (fun h3 M=>⟨no fun e=>?_,M.below⟩) fun h3=>an (by omega)<|bk (m+1) ⟨rfl,trivial⟩ (fun M=>⟨M,by omega,tC ht hx hy (by simpa using h3)⟩) (by dsimp only;omega)
  subst e;rw[hx] at hy;obtain rfl:=as_ hy;simp at h3
 ·simp only[decide_eq_false_iff_not] at h2;rw[decide_eq_true (GK ht hll (by omega))];rfl
theorem wL{B:Nat}{w0 w:World}{rs:List Rw}{rg h2 h3 h4 h5 h6 h9 h12 h15 h16 h17 h18 h37 h42 h46:Nat}(M:aV B w0 w ((rg,56,(dP.rules.flatMap aj.cells).toArray)::SB h2 h3 h4 h5 h6 h9 h12 h15 h16 h17 h18 h37 h42 h46) rs):aJ w (.slice (some ⟨h5,0,none⟩) 3 3) (.slice (some ⟨h6,0,none⟩) 4 4) (.slice (some ⟨h9,0,none⟩) 1 1) (.slice (some ⟨h12,0,none⟩) 2 2) (.slice (some ⟨h15,0,none⟩) 1 1) (.slice (some ⟨h16,0,none⟩) 1 1) (.slice (some ⟨h17,0,none⟩) 1 1) (.slice none 0 0) (.slice (some ⟨h18,0,none⟩) 1 1) (.slice (some ⟨rg,0,none⟩) 4 4) (.slice (some ⟨h42,0,none⟩) 1 1) (.slice none 0 0) (.slice none 0 0) (.slice none 0 0) (.slice (some ⟨h46,0,none⟩) 3 3) (.slice none 0 0) (.slice none 0 0) dP:=
 have h:=Kr (M.only (.cons _ (.refl _)) (.refl _))
 ⟨h.classes,h.types,h.attrs,h.roles,h.users,h.bools,h.aC,h.cats,h.conds,M.slice 0 rfl rfl rfl (by simp[maxLen]),h.trans,h.aK,h.ranges,h.cons,h.bH,h.files,h.asserts⟩
theorem Vk:RdH (aY dP):=by rw[XE];exact⟨uL,Jq,by decide,by decide,by decide⟩
theorem Vj:RuH (yN (aY dP) (mD (aY dP))):=by rw[OH];exact⟨QS,QO,by decide⟩
theorem Vl:JE (gY (yN (aY dP) (mD (aY dP)))):=by rw[OH,XD];exact QW
theorem DF(w0:World):Calls Tryz.prog 21 #[] w0 fun r w'=>r=.returned (.bool true)∧as2 w0.heap.size w0 w':=by
 refine bX [] (fn:=Tryz.f21) Tryz.func21 rfl Tryz.ntmps21 rfl<|cg<|an ((Ks w0).mono fun _ _ h=>h) fun v w1 hS=>?_
 obtain⟨h2,h3,h4,h5,h6,h9,h12,h15,h16,h17,h18,h37,h42,h46,rfl,hS⟩:=hS
 refine⟨_,_,hS,ei<|an q6 fun q w2 M2=>lb 0<|an ⟨rfl,rfl⟩ fun w3 M3=>fun g4 w4 M4=>cl<|an (X3 M4 0 (l:=[0]) (s:=⟨1,0,0,0⟩) rfl rfl) fun w5 M5=>fun g6 w6 M6=>cl<|an (X3 M6 0 (l:=[1]) (s:=⟨2,0,0,0⟩) rfl rfl) fun w7 M7=>
  ei (x:=.agg #[.int .i64 1,.int .u64 1,.int .u64 0,.int .u64 0,.int .u64 0,.int .u64 2,.int .u64 0,.int .u64 0,.int .u64 0,.bool false,.int .i64 1,.int .u32 1,.int .i64 0])<|an (bd (by kernel_rfl))<|
  fun g8 w8 M8=>
  cl<|an (X3 M8 0 (l:=[0]) (s:=⟨1,0,0,0⟩) rfl rfl) fun w9 M9=>
  fun g10 yq oK=>
  cl<|an (X3 oK 0 (l:=[1]) (s:=⟨2,0,0,0⟩) rfl rfl) fun Gx M11=>
  ei (x:=.agg #[.int .i64 1,.int .u64 1,.int .u64 0,.int .u64 0,.int .u64 0,.int .u64 2,.int .u64 0,.int .u64 0,.int .u64 0,.bool false,.int .i64 1,.int .u32 2,.int .i64 0])<|an (bd (by kernel_rfl))<|
  fun g12 JA Gf=>
  cl<|an (X3 Gf 0 (l:=[0]) (s:=⟨1,0,0,0⟩) rfl rfl) fun MS yK=>
  fun g14 Vu JD=>
  cl<|an (X3 JD 0 (l:=[2]) (s:=⟨4,0,0,0⟩) rfl rfl) fun OY Ge=>
  ei (x:=.agg #[.int .i64 1,.int .u64 1,.int .u64 0,.int .u64 0,.int .u64 0,.int .u64 4,.int .u64 0,.int .u64 0,.int .u64 0,.bool false,.int .i64 1,.int .u32 3,.int .i64 0])<|an (bd (by kernel_rfl))<|
  fun g16 XQ Ms=>
  cl<|an (X3 Ms 0 (l:=[0]) (s:=⟨1,0,0,0⟩) rfl rfl) fun XP XK=>
  fun g18 w18 XJ=>
  cl<|an (X3 XJ 0 (l:=[2]) (s:=⟨4,0,0,0⟩) rfl rfl) fun w19 YS=>
  ei (x:=.agg #[.int .i64 1,.int .u64 1,.int .u64 0,.int .u64 0,.int .u64 0,.int .u64 4,.int .u64 0,.int .u64 0,.int .u64 0,.bool false,.int .i64 1,.int .u32 1,.int .i64 1])<|an (bd (by kernel_rfl))<|
  fun g20 w20 M20=>
  lb 9<|an ⟨rfl,rfl⟩ fun w M=>?_⟩
 have hP:=wL (M.only (.cons_cons _<|.cons _<|.cons _<|.cons _<|.cons _<|.cons _<|.cons _<|.cons _<|.cons _<|.cons _<|.refl _) (.refl _));refine lb 9<|an rfl<|cg<|an (tV _ _ _ _ _ _ _ _ _ _ _ _ _ _ _ _ _ _ dP hP Vm Vk Vj Vl) fun v2 w4 hO=>?_
 obtain⟨hG,hb⟩:=hO;rw[XC] at hG;obtain⟨x0,n0,x1,n1,x2,n2,x3,n3,x4,n4,x5,n5,x6,n6,x7,n7,x8,n8,x9,n9,x10,n10,oM,n11,oL,n12,J5,n13,J4,n14,J3,n15,J2,n16,T,rfl,hT,hPO⟩:=hG;refine⟨_,T,M.eB hb hT,ei<|an q6 fun q2 w5 M5=>lb 0<|an ⟨rfl,rfl⟩ fun w6 M6=>?_⟩;have ac6:=rK w6 _ _ _ _ _ _ _ _ _ _ _ _ _ _ _ _ _ dP (wL (M6.only (.cons _ (.cons_cons _<|.cons _<|.cons _<|.cons _<|.cons _<|.cons _<|.cons _<|.cons _<|.cons _<|.cons _<|.refl _)) (.refl _))) uL (by decide) (by decide) (by decide);rw[QN] at ac6;refine lb 10<|an rfl<|cw M6 ac6 fun u w7 M7=>?_
 obtain⟨ua,uc,rfl,-⟩:=M7.shape 0 rfl;have hO7:=hPO _ _ (RowsIn.tail M7.fM);obtain⟨ob,oo,rfl,hoc⟩:=SliceAt.elt hO7.rules (fun _=>rfl) (by decide) (i:=0) rfl (by decide)
 refine dr (by kernel_rfl)<|lb 0<|an rfl<|lb 0<|an (fun _=>rfl)<|ia (i:=0)<|an (fun _=>⟨rfl,rfl,by decide⟩)<|lc<|an (fun _=>hoc)<|
  br (CK w7 3 1 [jN 0])<|an kX<|an (fun _ w1 a o' hb M' hop oJ=>bK (p:=fun _=>True) (kk:=1) (b:=8) (by kernel_rfl) rfl rfl (by decide) (by decide) (by simp[Value.cells]) rfl w1 a o' hb trivial hop oJ)<|
  cu<|an (fun u h w' hb' M' hR=>ofK (l:=[0]) (s:=⟨1,0,0,0⟩) (hR h) rfl)<|
  br (CK w7 3 2 [jN 1,jN 2])<|an kX<|an (fun _ w1 a o' hb M' hop oJ=>bK (p:=fun _=>True) (kk:=1) (b:=8) (by kernel_rfl) rfl rfl (by decide) (by decide) (by simp[Value.cells]) rfl w1 a o' hb trivial hop oJ)<|
  cu<|an (fun u h w' hb' M' hR=>ofK (l:=[1,2]) (s:=⟨6,0,0,0⟩) (hR h) rfl)<|
  ei (x:=.agg #[.int .i64 1,.int .u64 1,.int .u64 0,.int .u64 0,.int .u64 0,.int .u64 6,.int .u64 0,.int .u64 0,.int .u64 0,.bool false,.int .i64 1,.int .u32 3,.int .i64 0])<|an (fun _=>bd (by kernel_rfl))<|
  ei<|an (fun _=>⟨aaS,fun w=>UH ⟨1,⟨1,0,0,0⟩,⟨6,0,0,0⟩,false,1,3,0⟩ ⟨1,⟨1,0,0,0⟩,⟨6,0,0,0⟩,false,1,3,0⟩ w⟩)<|
  lb 0<|an (fun _=>rfl)<|
  br (CK w7 3 1 [jN 3])<|an kX<|an (fun _ w1 a o' hb M' hop oJ=>bK (p:=fun _=>True) (kk:=1) (b:=8) (by kernel_rfl) rfl rfl (by decide) (by decide) (by simp[Value.cells]) rfl w1 a o' hb trivial hop oJ)<|
  cu<|an (fun u h w' hb' M' hR=>Ls w' _ _ [3] [3] (by have h2:=SliceAt.bR (M'.r 0 rfl) (HZ [3]);exact h2) (Xu (l:=[3]) (hR h)))<|
  lb 10<|an (fun _=>rfl)<|lb 0<|an (fun _=>rfl)<|cl<|an (fun _ w' hb' M'=>Sh w' _ _ _ _ _ _ _ _ _ _ _ _ _ _ _ _ _ _ _ _ _ _ _ _ _ _ _ _ _ _ _ _ _ _ dP FZ (wL (M'.only (.cons _ (.cons_cons _<|.cons _<|.cons _<|.cons _<|.cons _<|.cons _<|.cons _<|.cons _<|.cons _<|.cons _<|.refl _)) (.refl _))) (hPO _ _ (RowsIn.tail M'.fM)) uL QT (by decide) (by decide) (by decide) (by decide) (by decide) (by decide) (by decide) (by decide)) fun yq Ij oK=>?_
 exact fun M=>⟨by rw[XB];rfl,M.below⟩
theorem Ez(x y:ay)(i:Nat):(x.or y).has i=(x.has i||y.has i):=by
 unfold ay.has;rw[← Nat.testBit_or];congr 1;unfold ay.word ay.or;split
 ·rfl
 ·split
  ·rfl
  ·split<;>rfl
theorem AV{a b c:aj}(ha:nw a.perms)(hb:nw b.perms)(h:aF a b=some c):(c.kind=a.kind∧c.cls=a.cls∧c.cond=a.cond)∧(b.kind=a.kind∧b.cls=a.cls∧b.cond=a.cond)∧nw c.perms∧(∀ s t,s<256→t<256→(s,t)∈c.pairs→(s,t)∈a.pairs∨(s,t)∈b.pairs) ∧
 ∀ s t k,s<256→t<256→(((s,t)∈c.pairs∧ib c.perms k=true)↔((s,t)∈a.pairs∧ib a.perms k=true)∨((s,t)∈b.pairs∧ib b.perms k=true)):=by
 unfold aF at h;split at h
 ·cases h
 rename_i h1;simp only[Bool.or_eq_true,Bool.not_eq_true',decide_eq_false_iff_not,not_or,Decidable.not_not,Bool.not_eq_false,beq_iff_eq] at h1;obtain⟨⟨⟨e1,e2⟩,e3⟩,e4⟩:=h1;refine(fun(hc:_∧_∧_)=>⟨hc.1,⟨e1.symm,e2.symm,e3.symm⟩,hc.2⟩) ?_;split at h
 ·rename_i h2;simp only[as4,decide_eq_true_eq] at h2;obtain rfl:=as_ h;refine⟨⟨rfl,rfl,rfl⟩,mO .or _ _,fun s t _ _ h=>.inl h,fun s t k hs ht=>?_⟩;rw[bI hs ht,bI hs ht,bI hs ht];simp only[uh .or ha hb];rw[← h2.1,← h2.2,← e4];cases a.src.has s<;>cases a.tgt.has t<;>cases a.self<;>cases ib a.perms k<;>cases ib b.perms k<;>simp
 ·split at h
  ·rename_i h2;simp only[as4,decide_eq_true_eq] at h2;obtain rfl:=as_ h;refine⟨⟨rfl,rfl,rfl⟩,ha,fun s t hs ht h=>?_,fun s t k hs ht=>?_⟩
   ·rw[bI hs ht] at h;rw[bI hs ht,bI hs ht];simp only[Ez] at h;rw[← h2.2,← e4]
    revert h
    cases a.src.has s<;>cases a.tgt.has t<;>cases b.tgt.has t<;>cases a.self<;>simp
   rw[bI hs ht,bI hs ht,bI hs ht];simp only[Ez];rw[← h2.1,← h2.2,← e4];cases a.src.has s<;>cases a.tgt.has t<;>cases b.tgt.has t<;>cases a.self<;>cases ib a.perms k<;>simp
  ·split at h
   ·rename_i h2;simp only[as4,decide_eq_true_eq] at h2;obtain rfl:=as_ h;refine⟨⟨rfl,rfl,rfl⟩,ha,fun s t hs ht h=>?_,fun s t k hs ht=>?_⟩
    ·rw[bI hs ht] at h;rw[bI hs ht,bI hs ht];simp only[Ez] at h;rw[← h2.2,← e4]
     revert h
     cases a.src.has s<;>cases b.src.has s<;>cases a.tgt.has t<;>cases a.self<;>simp
    rw[bI hs ht,bI hs ht,bI hs ht];simp only[Ez];rw[← h2.1,← h2.2,← e4];cases a.src.has s<;>cases b.src.has s<;>cases a.tgt.has t<;>cases a.self<;>cases ib a.perms k<;>simp
   ·cases h
theorem xK{α:Type}{J:α→α→Option α}{a:α}:∀ {l:List α} {z:α×List α},d_ J a l=some z→∃ m b r,l=m++b::r∧J a b=some z.1∧z.2=m++r
 | [],_,h=>by cases h
 | b::r,z,h=>by
  unfold d_ at h
  cases e:J a b with
  | some c=>rw[e] at h;obtain rfl:=as_ h;exact⟨[],b,r,rfl,e,rfl⟩
  | none=>
   rw[e] at h
   cases e2:d_ J a r with
   | none=>rw[e2] at h;cases h
   | some y=>
    rw[e2] at h;obtain rfl:=as_ h;obtain⟨m,b',r',h1,h2,h3⟩:=xK e2;exact⟨b::m,b',r',by rw[h1];rfl,h2,by show b::y.2=_;rw[h3];rfl⟩
theorem Aq{α:Type}{J:α→α→Option α}:∀ {l l':List α},dN J l=some l'→∃ p a m b r c,l=p++a::(m++b::r)∧J a b=some c∧l'=p++c::(m++r)
 | [],_,h=>by cases h
 | x::l,l',h=>by
  unfold dN at h
  cases e:d_ J x l with
  | some z=>
   rw[e] at h;obtain rfl:=as_ h;obtain⟨m,b,r,h1,h2,h3⟩:=xK e;exact⟨[],x,m,b,r,z.1,by rw[h1];rfl,h2,by rw[h3];rfl⟩
  | none=>
   rw[e] at h
   cases e2:dN J l with
   | none=>rw[e2] at h;cases h
   | some y=>
    rw[e2] at h;obtain rfl:=as_ h;obtain⟨p,a,m,b,r,c,h1,h2,h3⟩:=Aq e2;exact⟨x::p,a,m,b,r,c,by rw[h1];rfl,h2,by rw[h3];rfl⟩
def Xa(T C:Nat)(on:aj→Bool)(j k:Nat)(r:aj):Bool:=(on r&&r.pairs.any fun p=>decide (zm T C r p=j))&&ib r.perms k
theorem EC{T C:Nat}{on:aj→Bool}{j k:Nat}{r:aj}:Xa T C on j k r=true↔on r=true∧∃ s t,((s,t)∈r.pairs∧ib r.perms k=true)∧zm T C r (s,t)=j:=by
 unfold Xa;simp only[as4,List.any_eq_true,decide_eq_true_eq];constructor
 ·rintro⟨⟨h1,⟨s,t⟩,h2,h3⟩,h4⟩;exact⟨h1,s,t,⟨h2,h4⟩,h3⟩
 ·rintro⟨h1,s,t,⟨h2,h4⟩,h3⟩;exact⟨⟨h1,(s,t),h2,h3⟩,h4⟩
theorem Tw{T C:Nat}{on:aj→Bool}{j k:Nat}{a b c:aj}(ha:nw a.perms)(hb:nw b.perms)(hon:∀ x y:aj,x.cond=y.cond→on x=on y)(h:aF a b=some c):Xa T C on j k c=(Xa T C on j k a||Xa T C on j k b):=by
 obtain⟨⟨k1,k2,k3⟩,⟨l1,l2,l3⟩,-,-,hg⟩:=AV ha hb h;have e:∀ (x y:aj) (p:Nat×Nat),x.kind=y.kind→x.cls=y.cls→zm T C x p=zm T C y p:=fun x y p e1 e2=>by unfold zm;rw[e1,e2]
 rw[Bool.eq_iff_iff,Bool.or_eq_true,EC,EC,EC,hon c a k3,hon b a l3];constructor
 ·rintro⟨h1,s,t,h2,h3⟩;obtain⟨hs,ht⟩:=iX h2.1;rcases(hg s t k hs ht).1 h2 with h4|h4
  ·exact .inl ⟨h1,s,t,h4,by rw[← e c a _ k1 k2];exact h3⟩
  ·exact .inr ⟨h1,s,t,h4,by rw[e b c _ (l1.trans k1.symm) (l2.trans k2.symm)];exact h3⟩
 ·rintro(⟨h1,s,t,h2,h3⟩|⟨h1,s,t,h2,h3⟩)
  ·obtain⟨hs,ht⟩:=iX h2.1;exact⟨h1,s,t,(hg s t k hs ht).2 (.inl h2),by rw[e c a _ k1 k2];exact h3⟩
  ·obtain⟨hs,ht⟩:=iX h2.1;exact⟨h1,s,t,(hg s t k hs ht).2 (.inr h2),by rw[← e b c _ (l1.trans k1.symm) (l2.trans k2.symm)];exact h3⟩
theorem WE{T C:Nat}{a b c:aj}(ha:RV T C a)(hb:RV T C b)(h:aF a b=some c):RV T C c:=by
 obtain⟨⟨k1,k2,k3⟩,-,hw,hp,-⟩:=AV ha.perms hb.perms h;refine⟨by rw[k1];exact ha.kind,by rw[k2];exact ha.cls,hw,fun p hq=>?_⟩;obtain⟨hs,ht⟩:=iX hq;rcases hp p.1 p.2 hs ht hq with h|h
 ·exact ha.pairs _ h
 ·exact hb.pairs _ h
theorem KR{T C:Nat}{on:aj→Bool}{l l':List aj}(hl:∀ r∈l,RV T C r)(hon:∀ x y:aj,x.cond=y.cond→on x=on y)(h:dN aF l=some l'):(∀ r∈l',RV T C r)∧dF T C on l'=dF T C on l:=by
 obtain⟨p,a,m,b,r,c,rfl,hj,rfl⟩:=Aq h;have ha:=hl a (by simp);have hb:=hl b (by simp)
 have hl':∀ x∈p++c::(m++r),RV T C x:=fun x hx=>by
  simp only[ath,ata] at hx;rcases hx with hx|rfl|hx|hx
  ·exact hl x (by simp[hx])
  ·exact WE ha hb hj
  ·exact hl x (by simp[hx])
  ·exact hl x (by simp[hx])
 refine⟨hl',?_⟩;obtain⟨w1,g1⟩:=jf (on:=on) hl';obtain⟨w2,g2⟩:=jf (on:=on) hl
 have e1:(dF T C on (p++c::(m++r))).length=(dF T C on (p++a::(m++b::r))).length:=by
  unfold dF;rw[nZ,nZ]
 refine List.ext_getElem e1 fun j hj1 hj2=>?_
 have h1:=g1 j;have h2:=g2 j;rw[as8,as5 hj1] at h1;rw[as8,as5 hj2] at h2;refine AZ (w1 _ (List.getElem_mem hj1)).1 (w2 _ (List.getElem_mem hj2)).1 fun k=>?_
 refine(h1 k).trans (Eq.trans ?_ (h2 k).symm);show List.any _ (Xa T C on j k)=List.any _ (Xa T C on j k);simp only[List.any_append,List.any_cons,Tw ha.perms hb.perms hon hj];cases Xa T C on j k a<;>cases Xa T C on j k b<;>simp
theorem Ay{T C:Nat}{on:aj→Bool}{l:List aj}(hl:∀ r∈l,RV T C r)(hon:∀ x y:aj,x.cond=y.cond→on x=on y):(∀ r∈Co aF l,RV T C r)∧dF T C on (Co aF l)=dF T C on l:=by
 have key:∀ (n:Nat) (l:List aj),(∀ r∈l,RV T C r)→(∀ r∈Rn aF n l,RV T C r)∧dF T C on (Rn aF n l)=dF T C on l:=by
  intro n
  induction n with
  | zero=>exact fun l hl=>⟨hl,rfl⟩
  | succ n ih=>
   intro l hl;unfold Rn
   cases e:dN aF l with
   | none=>exact⟨hl,rfl⟩
   | some l'=>
    obtain⟨h1,h2⟩:=KR (on:=on) hl hon e;obtain⟨h3,h4⟩:=ih l' h1;exact⟨h3,h4.trans h2⟩
 exact key _ l hl
theorem Ho{p:aA}(hR:∀ r∈p.rules,RV p.types.length p.classes.length r):jY (gY p)=jY p:=by
 unfold jY;refine List.map_congr_left fun n _=>?_
 unfold Kw;exact(Ay hR fun x y e=>by rw[e]).2
theorem Hz(o:Int):m_ o≤2:=by
 unfold m_
 repeat' split
 all_goals decide
theorem BG{n:Nat}:∀ {l:List aq},lC n l=0→∀ k∈l,j6 n k=0
 | [],_,_,hk=>by cases hk
 | x::l,h,k,hk=>by
  unfold lC at h;split at h
  ·rename_i hx;rcases ata.1 hk with rfl|hk
   ·exact hx
   ·exact BG h k hk
  ·rename_i hx;exact absurd h hx
theorem Bq{a b c n:Nat}:∀ {l:List aq},nh a b c n l=0→∀ k∈l,iR a b c n k=0
 | [],_,_,hk=>by cases hk
 | x::l,h,k,hk=>by
  unfold nh at h;split at h
  ·rename_i hx;rcases ata.1 hk with rfl|hk
   ·exact hx
   ·exact Bq h k hk
  ·rename_i hx;exact absurd h hx
theorem Ad{n:Nat}:∀ e:aq,j6 n e=0→lH e
 | .node op a rel b names set kids,h=>by
  have ih:∀ k∈kids,j6 n k=0→lH k:=fun k hk=>Ad k
  rw[qy] at h
  cases hb:kA (.node op a rel b names set kids) with
  | true=>rw[hb] at h;simp at h
  | false=>
   rw[hb,if_neg (by decide)] at h;split at h
   ·cases h
   unfold kA at hb;simp only[Bool.or_eq_false_iff,Bool.not_eq_false',decide_eq_true_eq,aq.op,aq.kids,aq.names] at hb;have hk:m_ op=(kids.length:Int):=of_decide_eq_true hb.1.1.1.1.1.2;have hn:¬ (0<(names.length:Int)):=of_decide_eq_false hb.1.1.2;have:=Hz op;exact .node (by omega) (by omega) fun k hkm=>ih k hkm (BG h k hkm)
 termination_by e=>SizeOf.sizeOf e
 decreasing_by
  have:=List.sizeOf_lt_of_mem hk;simp only[aq.node.sizeOf_spec];omega
theorem Qr{e:aq}(h:fI e=true):e.names.length=0∧e.kids.length≤2∧(e.op=8→e.kids=[]):=by
 unfold fI at h;have:=Hz e.op;split at h
 ·rename_i ho;simp only[as4,decide_eq_true_eq] at h;obtain⟨⟨⟨⟨⟨h1,-⟩,-⟩,-⟩,h2⟩,-⟩:=h;exact⟨by omega,by omega,fun h8=>by omega⟩
 ·split at h
  ·simp only[as4,decide_eq_true_eq] at h;obtain⟨⟨h1,h2⟩,-⟩:=h;exact⟨by omega,by omega,fun _=>List.eq_nil_of_length_eq_zero (by omega)⟩
  ·split at h
   ·simp only[as4,decide_eq_true_eq] at h;obtain⟨⟨⟨h1,-⟩,-⟩,h2⟩:=h;exact⟨by omega,by omega,fun _=>List.eq_nil_of_length_eq_zero (by omega)⟩
   ·cases h
theorem rU{nU nR nT N:Nat}:∀ e:aq,iR nU nR nT N e=0→lH e
 | .node op a rel b names set kids,h=>by
  have ih:∀ k∈kids,iR nU nR nT N k=0→lH k:=fun k hk=>rU k
  have hf:fI (.node op a rel b names set kids)=true:=by
   cases hf:fI (.node op a rel b names set kids) with
   | true=>rfl
   | false=>
    rw[om (r:=2) (by unfold eM;rw[if_pos hf])] at h;cases h
  obtain⟨hn,hk,h8⟩:=Qr hf;replace hn:names.length=0:=hn;replace hk:kids.length≤2:=hk;refine .node (by omega) (by omega) fun k hkm=>?_
  have n8:op≠8:=fun e=>by
   have:kids=[]:=h8 e;rw[this] at hkm;cases hkm
  cases hs:eM nU nR nT N (.node op a rel b names set kids) with
  | none=>
   rw[sG hs] at h;exact ih k hkm (Bq h k hkm)
  | some r=>
   rw[om hs] at h;subst h;unfold eM at hs;rw[if_neg (by rw[hf];decide),if_neg (show ¬ (aq.node op a rel b names set kids).op=8 from n8)] at hs
   repeat' (split at hs)
   all_goals cases hs
 termination_by e=>SizeOf.sizeOf e
 decreasing_by
  have:=List.sizeOf_lt_of_mem hk;simp only[aq.node.sizeOf_spec];omega
theorem aaD{p:aA}(h:Jw p):mh p:=by
 have hc:=h.check;unfold mJ at hc;split at hc
 case isFalse hne=>exact absurd hc hne
 rename_i hc3;rw[jK] at hc hc3;have hcl:jM p=0:=hc3 _ (by simp);have Vx:qv p=0:=hc _ (by simp);have hr:fL p=0:=hc _ (by simp);unfold jM at hcl;split at hcl
 ·cases hcl
 unfold qv at Vx;split at Vx
 ·cases Vx
 unfold fL at hr;split at hr
 ·cases hr
 split at hr
 case isFalse _ hne=>exact absurd hr hne
 rename_i _ xJ;rw[cH] at hcl Vx xJ;have z:=h.small.sizes
 have C:∀ x∈p.classes,x.perms.length≤1000000:=fun x hx=>by
  obtain⟨i,hi⟩:=List.getElem?_of_mem hx;have h1:=hcl i (as3 _) (by have:=(atb.1 hi).1;omega);unfold qz at h1;rw[hi] at h1;replace h1:wG ((p.classes.take i).map (·.name)) x=0:=h1;unfold wG at h1;split at h1
  ·split at h1
   ·cases h1
   ·omega
  ·rename_i hne;exact absurd h1 hne
 have E:∀ e∈p.conds,lH e:=fun e he=>by
  obtain⟨i,hi⟩:=List.getElem?_of_mem he;have h1:=xJ i (as3 _) (by have:=(atb.1 hi).1;omega);unfold j7 at h1;rw[hi] at h1;replace h1:cC p.bools.length e=0:=h1;unfold cC at h1;split at h1
  ·cases h1
  ·exact Ad e h1
 have K:∀ x∈p.cons,lH x.expr:=fun x hx=>by
  obtain⟨i,hi⟩:=List.getElem?_of_mem hx;have h1:=Vx i (as3 _) (by have:=(atb.1 hi).1;omega);unfold E3 at h1;rw[hi] at h1;replace h1:I7 p.users.length p.roles.length p.types.length p.classes x=0:=h1;unfold I7 at h1;split at h1
  ·cases h1
  split at h1
  ·cases h1
  unfold eO at h1;split at h1
  ·cases h1
  split at h1
  ·exact rU _ h1
  ·exact rU _ h1
 exact⟨atj z.classes (by decide),C,atj z.types (by decide),fun x hx=>atj (h.small.ow x hx) (by decide),atj z.attrs (by decide),atj z.roles (by decide),atj z.users (by decide),atj z.bools (by decide),atj z.aC (by decide),atj z.cats (by decide),atj z.conds (by decide),E,atj z.rules (by decide),atj z.trans (by decide),atj z.aK (by decide),atj z.ranges (by decide),atj z.cons (by decide),K,atj z.bH (by decide),atj z.files (by decide),atj z.asserts (by decide)⟩
end Go.Proofs.YtdcofoaihmongaaGreat
namespace Go.Proofs.YtdcofoaihmongaaGreat
open Go Go.RowKit Go.Sort
theorem L7(p:aA)(i:Nat)(e:aq)(s:qG):∀ x∈(iw p i e s).kids,x∈s.kids∨x=e:=by
 intro x hx;unfold iw at hx;split at hx
 ·exact .inl hx
 ·split at hx
  ·exact .inl hx
  ·dsimp only at hx;split at hx
   ·rcases ath.1 hx with h|h
    ·exact .inl h
    ·exact .inr (atl.1 h)
   ·exact .inl hx
theorem xQ(p:aA):∀ (l:List aq) (i:Nat) (s:qG),∀ x∈(ji p i l s).kids,x∈s.kids∨x∈l
 | [],_,_,x,hx=>.inl hx
 | e::l,i,s,x,hx=>by
  rcases xQ p l (i+1) _ x hx with h|h
  ·rcases L7 p i e s x h with h|h
   ·exact .inl h
   ·exact .inr (ata.2 (.inl h))
  ·exact .inr (atf _ h)
theorem qY{p:aA}{m:Nat}:∀ x∈(bN p m).kids,x∈p.conds:=fun x hx=>by
 rcases xQ p _ 0 cs0 x hx with h|h
 ·cases h
 ·exact List.mem_of_mem_take h
def CBd(n:Nat)(s:qG):Prop:=(∀ k v,s.sN k=some v→-(n:Int)≤v∧v≤n)∧s.seen.length≤n
theorem MW{f:Int→Option Int}{n n':Nat}(hn:n≤n')(h:∀ k v,f k=some v→-(n:Int)≤v∧v≤n){k0 v0:Int}(h0:-(n':Int)≤v0∧v0≤n'):∀ k v,ez f k0 v0 k=some v→-(n':Int)≤v∧v≤n':=fun k v hk=>by
 unfold ez at hk;split at hk
 ·cases hk;exact h0
 ·have:=h k v hk;constructor<;>omega
theorem Jg{n n' i:Nat}{k:Int}{s:qG}(hn:n≤n')(h:∀ k v,s.sN k=some v→-(n:Int)≤v∧v≤n)(hk:-(n':Int)≤k∧k≤n'):∀ j v,(eP i k s).sN j=some v→-(n':Int)≤v∧v≤n':=
 MW (Nat.le_refl _) (MW hn h hk) (by constructor<;>omega)
theorem U5(p:aA)(i:Nat)(e:aq){n:Nat}{s:qG}(h:CBd n s):CBd (n+1) (iw p i e s):=by
 have hw:CBd (n+1) s:=⟨fun k v hk=>by have:=h.1 k v hk;constructor<;>omega,by have:=h.2;omega⟩;unfold iw;split
 ·exact hw
 ·split
  ·exact hw
  ·dsimp only;split
   ·refine⟨Jg (s:={ s with seen:=_,kids:=_ }) (Nat.le_succ n) h.1 (by have:=h.2;constructor<;>omega),?_⟩;show(s.seen++[_]).length≤n+1;rw[atg];have:=h.2;simp;omega
   ·refine⟨Jg (Nat.le_succ n) h.1 ?_,hw.2⟩;have hb:=wv (bJ (aI p.bools.length) p.bools.length e) (notM (aI p.bools.length) (bJ (aI p.bools.length) p.bools.length e)) s.seen 0;have:=h.2;constructor<;>omega
theorem Dw(p:aA):∀ (l:List aq) (i n:Nat) (s:qG),CBd n s→CBd (n+l.length) (ji p i l s)
 | [],_,_,_,h=>h
 | e::l,i,n,s,h=>by
  have:=Dw p l (i+1) (n+1) _ (U5 p i e h);rw[List.length_cons,Nat.add_comm l.length 1,← Nat.add_assoc];exact this
theorem aa3{p:aA}{k:Int}(hc:p.conds.length≤900):-900≤(cO (bN p p.conds.length) k).1∧(cO (bN p p.conds.length) k).1≤900:=by
 have h:=(Dw p (p.conds.take p.conds.length) 0 0 cs0 ⟨fun _ _ h=>(by cases h),Nat.le_refl _⟩).1;unfold cO;split
 ·exact⟨by decide,by decide⟩
 ·dsimp only
  cases hb:(bN p p.conds.length).sN k with
  | none=>exact⟨by decide,by decide⟩
  | some v=>
   have h2:=h k v hb;rw[atc] at h2;show -900≤v∧v≤900;constructor<;>omega
theorem nW{a b c:aj}(h:aF a b=some c):c.cond=a.cond:=by
 unfold aF at h;split at h
 ·cases h
 ·split at h
  ·cases h;rfl
  ·split at h
   ·cases h;rfl
   ·split at h
    ·cases h;rfl
    ·cases h
section
variable {α:Type} {J:α→α→Option α} {Q:α→Prop} (hJ:∀ a b c,Q a→Q b→J a b=some c→Q c)
include hJ
theorem Bj{a:α}(ha:Q a):∀ {l:List α} {z:α×List α},(∀ x∈l,Q x)→d_ J a l=some z→Q z.1∧∀ x∈z.2,Q x
 | [],_,_,h=>by cases h
 | b::r,z,hl,h=>by
  unfold d_ at h
  cases e:J a b with
  | some c=>rw[e] at h;obtain rfl:=as_ h;exact⟨hJ a b c ha (hl b (ate ..)) e,fun x hx=>hl x (atf _ hx)⟩
  | none=>
   rw[e] at h
   cases e2:d_ J a r with
   | none=>rw[e2] at h;cases h
   | some y=>
    rw[e2] at h;obtain rfl:=as_ h;have h3:=Bj ha (fun x hx=>hl x (atf _ hx)) e2;refine⟨h3.1,fun x hx=>?_⟩;rcases ata.1 hx with rfl|hx
    ·exact hl x (ate ..)
    ·exact h3.2 x hx
theorem Da:∀ {l l':List α},(∀ x∈l,Q x)→dN J l=some l'→∀ x∈l',Q x
 | [],_,_,h=>by cases h
 | a::r,l',hl,h=>by
  unfold dN at h
  cases e:d_ J a r with
  | some z=>
   rw[e] at h;obtain rfl:=as_ h;have h3:=Bj hJ (hl a (ate ..)) (fun x hx=>hl x (atf _ hx)) e;intro x hx;rcases ata.1 hx with rfl|hx
   ·exact h3.1
   ·exact h3.2 x hx
  | none=>
   rw[e] at h
   cases e2:dN J r with
   | none=>rw[e2] at h;cases h
   | some y=>
    rw[e2] at h;obtain rfl:=as_ h;intro x hx;rcases ata.1 hx with rfl|hx
    ·exact hl x (ate ..)
    ·exact Da (fun x hx=>hl x (atf _ hx)) e2 x hx
theorem NN:∀ (n:Nat) {l:List α},(∀ x∈l,Q x)→∀ x∈Rn J n l,Q x
 | 0,_,hl=>hl
 | n+1,l,hl=>by
  unfold Rn
  cases e:dN J l with
  | none=>exact hl
  | some l'=>exact NN n (Da hJ hl e)
theorem qU{l:List α}(hl:∀ x∈l,Q x):∀ x∈Co J l,Q x:=NN hJ _ hl
end
end Go.Proofs.YtdcofoaihmongaaGreat
namespace Go.Proofs.YtdcofoaihmongaaGreat
open Go Go.RowKit
theorem AU{a b c:aj}(ha:a.ny)(hb:b.ny)(h:aF a b=some c):c.ny:=by
 unfold aF at h;split at h
 ·cases h
 ·split at h
  ·obtain rfl:=as_ h;exact⟨ha.kind,ha.src,ha.tgt,ha.cls,mO .or _ _,ha.cond⟩
  ·split at h
   ·obtain rfl:=as_ h;exact⟨ha.kind,ha.src,G9 ha.tgt hb.tgt,ha.cls,ha.perms,ha.cond⟩
   ·split at h
    ·obtain rfl:=as_ h;exact⟨ha.kind,G9 ha.src hb.src,ha.tgt,ha.cls,ha.perms,ha.cond⟩
    ·cases h
theorem zh{α:Type}(J:α→α→Option α)(l:List α):(Co J l).length≤l.length:=by
 have key:∀ (n:Nat) (l:List α),(Rn J n l).length≤l.length:=by
  intro n
  induction n with
  | zero=>exact fun l=>Nat.le_refl _
  | succ n ih=>
   intro l;unfold Rn
   cases e:dN J l with
   | none=>exact Nat.le_refl _
   | some l'=>have:=mV J e;have:=ih l';show(Rn J n l').length≤_;omega
 exact key _ l
theorem CF.rj{p:aA}(h:CF p):CF (gY p):={ h with rules:=fun r hr=>⟨(Ay (on:=fun _=>true) (fun r hr=>(h.rules r hr).1) fun _ _ _=>rfl).1 r hr,qU (J:=aF) (Q:=fun r=>r.ny) (fun _ _ _ ha hb h=>AU ha hb h) (fun r hr=>(h.rules r hr).2) r hr⟩ }
theorem aci{p:aA}(h:p.Ok):(gY p).Ok:={ h with rules:=qU (J:=aF) (Q:=fun r=>r.ny) (fun _ _ _ ha hb h=>AU ha hb h) h.rules,kQ:=atj (zh _ _) h.kQ }
theorem ach{p:aA}(h:mh p):mh (gY p):={ h with rules:=atj (zh _ _) h.rules }
end Go.Proofs.YtdcofoaihmongaaGreat
namespace Go.Proofs.YtdcofoaihmongaaGreat
open Go Go.RowKit Go.Sort
theorem Pc(l:List (List UInt8)):(l.mergeSort fun x y=>decide (x≤y)).Pairwise fun x y=>x≤y:=by
 have h:=List.pairwise_mergeSort (le:=fun x y:List UInt8=>decide (x≤y)) (fun a b c h1 h2=>by
  simp only[decide_eq_true_eq] at *
  exact List.le_trans h1 h2) (fun a b=>by
  simp only[Bool.or_eq_true,decide_eq_true_eq];exact List.le_total a b) l
 exact h.imp fun h=>of_decide_eq_true h
theorem CA{l:List (List UInt8)}(hs:l.Pairwise fun x y=>x≤y):(Lib.compact l).Nodup:=by
 have hget:∀ i j (hi:i<l.length) (hj:j<l.length),i<j→l[i]≤l[j]:=fun i j hi hj h=>List.pairwise_iff_getElem.1 hs i j hi hj h
 have key:∀ m,m≤l.length→(Lib.compactUpTo l.toArray m).Nodup:=by
  intro m
  induction m with
  | zero=>intro _;exact List.nodup_nil
  | succ m ih=>
   intro hm;rw[Lib.compactUpTo_succ];by_cases hk:Lib.keeps l.toArray m=true
   ·rw[if_pos hk];refine List.nodup_append.2 ⟨ih (by omega),List.nodup_cons.2 ⟨by simp,List.nodup_nil⟩,?_⟩;intro x hx y hy e;rw[atl] at hy;subst hy;obtain⟨j,hj,hjx⟩:=(jU _ _ m).1 hx;have hk2:m=0∨l.toArray[m]!≠l.toArray[m-1]!:=of_decide_eq_true hk;rcases hk2 with h0|hne
    ·omega
    ·have g:∀ i (h:i<l.length),l.toArray[i]! = l[i]:=fun i h=>by rw[getElem!_pos l.toArray i (by simpa using h)];simp
     rw[g m (by omega)] at e hne;rw[g (m-1) (by omega)] at hne;rw[g j (by omega)] at hjx;refine hne (List.le_antisymm ?_ (hget (m-1) m (by omega) (by omega) (by omega)));rw[← e,← hjx];by_cases hjm:j=m-1
     ·subst hjm;exact List.le_refl _
     ·exact hget j (m-1) (by omega) (by omega) (by omega)
   ·rw[if_neg hk,List.append_nil];exact ih (by omega)
 exact key _ (Nat.le_refl _)
theorem Ep(e:aq):(ct e).Nodup:=by
 unfold ct lD;refine List.Pairwise.map VR ?_ (CA ?_)
 ·intro a b hne h;have h2:=congrArg dw h;exact hne (by simpa[dw,VR] using h2)
 ·unfold tE;rw[List.map_map]
  have:((l:List (List UInt8))→l.map (dw∘VR)=l):=fun l=>by
   induction l with
   | nil=>rfl
   | cons a l ih=>rw[List.map_cons,ih];rfl
  rw[this];exact Pc _
theorem Dc{e:aq}{l:List ByteArray}(h:∀ s∈bw e,s∈l):(ct e).length≤l.length:=by
 have hs:ct e ⊆ l:=fun s hs=>h s ((nP e s).1 hs)
 exact List.Nodup.length_le_of_subset (Ep e) hs
end Go.Proofs.YtdcofoaihmongaaGreat
namespace Go.Proofs.YtdcofoaihmongaaGreat
open Go Go.RowKit
def toI(o:List Nat):List Int:=o.map fun(k:Nat)=>(k:Int)
theorem VY(o:List Nat)(k:Nat):(toI o).contains (k:Int)=o.contains k:=by
 rw[Bool.eq_iff_iff];unfold toI;simp only[List.contains_eq_mem,decide_eq_true_iff,ati];constructor
 ·rintro⟨a,h,e⟩;obtain rfl:a=k:=by omega
  exact h
 ·exact fun h=>⟨k,h,rfl⟩
theorem VI{α:Type}(l:List α)(o:List Nat):oI l (toI o) l.length=jZ l o:=by
 unfold oI jZ;congr 1
 funext k
 rw[VY]
theorem acg(p:aA)(o:List Nat):fN (yN p (toI o))=jZ (fN p) o:=by
 unfold fN;rw[Tk];unfold yN;rw[VI]
theorem rP{p:aA}{o:List Int}:∀ r∈(yN p o).rules,r∈p.rules:=fun r hr=>by
 unfold yN oI at hr;obtain⟨k,-,h⟩:=List.mem_filterMap.1 hr;split at h
 ·cases h
 ·exact as6 h
theorem fA.wo{p:aA}(h:fA p)(o:List Int):fA (yN p o):=⟨h.bools,fun r hr=>h.rv r (rP r hr),fun r hr=>h.four r (rP r hr),h.conds,fun r hr=>h.lu r (rP r hr),h.oF⟩
theorem Sp{p:aA}(h:fA p):OQ (fN p):=KA h.bools (conds:=p.conds) fun r hr=>(h.rv r hr).perms
theorem PW{p:aA}(h:fA p)(o:List Nat):jY (yN p (toI o))=jY p↔jW (jZ (fN p) o) (fN p):=by
 rw[S9 (h.wo _) h rfl rfl rfl,acg,zn ((Sp h).sub Hs) (Sp h),zn (Sp h) ((Sp h).sub Hs)];exact⟨fun⟨h1,h2⟩ kind cls s t k r hs ht=>⟨h1 kind cls s t k r hs ht,h2 kind cls s t k r hs ht⟩,fun H=>⟨fun kind cls s t k r hs ht=>(H kind cls s t k r hs ht).1,fun kind cls s t k r hs ht=>(H kind cls s t k r hs ht).2⟩⟩
theorem Df(f:Nat→Int):∀ n i,i<n→f i≤kV f n
 | n+1,i,h=>by
  by_cases e:i=n
  ·subst e;exact Int.le_max_right _ _
  ·exact Int.le_trans (Df f n i (by omega)) (Int.le_max_left _ _)
theorem PX(m:Nat)(e:aq):1≤bq (m+1) e:=by
 show 1≤kV (fun i=>match e.kids[i]? with|some k=>bq m k|none=>0) e.kids.length+1;have:=jr (fun i=>match e.kids[i]? with|some k=>bq m k|none=>0) e.kids.length;omega
theorem vR{m:Nat}{e k:aq}(hk:k∈e.kids):bq m k+1≤bq (m+1) e:=by
 obtain⟨i,hi⟩:=List.getElem?_of_mem hk;have hlt:=(atb.1 hi).1;have h:=Df (fun i=>match e.kids[i]? with|some k=>bq m k|none=>0) e.kids.length i hlt;show bq m k+1≤kV (fun i=>match e.kids[i]? with|some k=>bq m k|none=>0) e.kids.length+1;simp only[hi] at h;omega
theorem Av{bl:List gH}(hn:∀ b∈bl,jS b.name=true∧dG b.name){e:aq}(h:iM bl.length e):∀ (d:Nat),bq (d+1) e≤d→g_ d (bg bl e)∧∀ s∈bw (bg bl e),s∈bl.map (·.name):=by
 induction h with
 | @bool a rel b ns s h0 h1=>
  intro d hd
  have hp:0<d:=by
   have:=PX d (.node 1 a rel b ns s []);omega
  obtain⟨d,rfl⟩:∃ k,d=k+1:=⟨d-1,by omega⟩;obtain⟨x,hx⟩:∃ x,bl[a.toNat]?=some x:=⟨_,as5 (by omega)⟩;have hm:=as6 hx
  have e:bg bl (.node 1 a rel b ns s [])=.node 1 0 0 0 [x.name] ay.zero []:=by
   rw[bg,if_pos (by unfold isNum;simp[h0,h1]),hx];rfl
  rw[e];refine⟨.name (hn x hm).1 (hn x hm).2,fun s hs=>?_⟩;rw[fW] at hs;simp only[aq.names,aq.kids,bF,List.append_nil,atl] at hs;subst hs;exact ati.2 ⟨x,hm,rfl⟩
 | @not a rel b ns s k hk ih=>
  intro d hd;have h1:=vR (m:=d) (e:=.node 2 a rel b ns s [k]) (k:=k) (atl.2 rfl);have h0:=(jv d k).1;obtain⟨d,rfl⟩:∃ k,d=k+1:=⟨d-1,by omega⟩;obtain⟨i1,i2⟩:=ih d (by omega)
  have e:bg bl (.node 2 a rel b ns s [k])=.node 2 0 0 0 [] ay.zero [bg bl k]:=by
   rw[bg,if_neg (by unfold isNum;simp),mW];rfl
  rw[e];refine⟨.not i1,fun s hs=>i2 s ?_⟩;rw[fW] at hs;simpa[aq.names,aq.kids,bF] using hs
 | @bin op a rel b ns s k l h3 h7 hk hl ihk ihl=>
  intro d hd;have h1:=vR (m:=d) (e:=.node op a rel b ns s [k,l]) (k:=k) (ate ..);have h2:=vR (m:=d) (e:=.node op a rel b ns s [k,l]) (k:=l) (by simp[aq.kids]);have h0:=(jv d k).1;obtain⟨d,rfl⟩:∃ k,d=k+1:=⟨d-1,by omega⟩;obtain⟨i1,i2⟩:=ihk d (by omega);obtain⟨j1,j2⟩:=ihl d (by omega)
  have e:bg bl (.node op a rel b ns s [k,l])=.node op 0 0 0 [] ay.zero [bg bl k,bg bl l]:=by
   rw[bg,if_neg (by unfold isNum;simp;omega),mW];rfl
  rw[e];refine⟨.bin h3 h7 i1 j1,fun s hs=>?_⟩;rw[fW] at hs;simp only[aq.names,aq.kids,bF,List.append_nil,List.nil_append,ath] at hs;exact hs.elim (i2 s) (j2 s)
theorem Du{p:aA}(h:Jw p)(hok:p.Ok):∀ b∈p.bools,jS b.name=true∧dG b.name:=by
 have hc:=h.check;unfold mJ at hc;split at hc
 case isFalse hne=>exact absurd hc hne
 rw[jK] at hc;have ho:kg p=0:=hc _ (by simp);unfold kg at ho;split at ho
 ·cases ho
 split at ho
 ·rename_i hne;exact absurd ho hne
 rename_i hz;have hz:=Decidable.not_not.1 hz;unfold bE at hz;rw[cH] at hz;intro b hb;obtain⟨i,hi⟩:=List.getElem?_of_mem hb;have h1:=hz i (as3 _) (by rw[as7];have:=(atb.1 hi).1;omega);rw[vN (s:=b.name) (by rw[as9,hi];rfl)] at h1;refine⟨?_,(hok.bools b hb).name⟩;split at h1
 ·assumption
 ·cases h1
theorem aaE{p:aA}(h:Jw p)(hok:p.Ok):JE p:=by
 obtain⟨tp,-⟩:=Bn h hok;have z:=h.small.sizes;have zc:=z.conds;refine⟨hok,aaD h,atj h.bools (by decide),atj zc (by decide),fun y hy=>?_,fun y hy=>?_,fun e he=>?_,atj z.rules (by decide),atj z.trans (by decide)⟩
 ·have:=tp.lu y hy;omega
 ·have:=tp.oF y hy;omega
 ·have hl:=h.small.conds e he;obtain⟨h1,h2⟩:=Av (Du h hok) (tp.conds e he) 12 (by show bq 13 e≤12;omega);exact⟨12,Nat.le_refl _,h1,atj (Dc h2) (by rw[as7];exact atj h.bools (by decide))⟩
theorem DC{sc:qG}{l:List aj}{y:aj}(hy:y∈l.filterMap (cR sc)):∃ x∈l,y={ x with cond:=(cO sc x.cond).1 }:=by
 obtain⟨x,hx,e⟩:=List.mem_filterMap.1 hy;unfold cR at e;split at e
 ·exact⟨x,hx,(as_ e).symm⟩
 ·cases e
theorem Ow{sc:qG}{l:List bD}{y:bD}(hy:y∈l.filterMap (cT sc)):∃ x∈l,y={ x with cond:=(cO sc x.cond).1 }:=by
 obtain⟨x,hx,e⟩:=List.mem_filterMap.1 hy;unfold cT at e;split at e
 ·exact⟨x,hx,(as_ e).symm⟩
 ·cases e
theorem Jf{p:aA}(h:JE p):JE (aY p):=by
 have hb:∀ k,-900≤(cO (bN p p.conds.length) k).1∧(cO (bN p p.conds.length) k).1≤900:=fun k=>aa3 h.conds
 have kl:(aY p).conds.length≤p.conds.length:=by
  have:=L_ p p.conds.length;show(bN p p.conds.length).kids.length≤_;omega
 have rl:(aY p).rules.length≤p.rules.length:=List.length_filterMap_le _ _;have tl:(aY p).trans.length≤p.trans.length:=List.length_filterMap_le _ _
 have i64:∀ k,iU (cO (bN p p.conds.length) k).1:=fun k=>by
  have:=hb k;constructor<;>omega
 refine⟨{ h.ok with conds:=fun e he=>h.ok.conds e (qY e he),sK:=atj kl h.ok.sK,rules:=fun y hy=>?_,kQ:=atj rl h.ok.kQ,trans:=fun y hy=>?_,R7:=atj tl h.ok.R7 },{ h.sm with conds:=atj kl h.sm.conds,iT:=fun e he=>h.sm.iT e (qY e he),rules:=atj rl h.sm.rules,trans:=atj tl h.sm.trans },h.bools,atj kl h.conds,fun y hy=>?_,fun y hy=>?_,fun e he=>h.be e (qY e he),atj rl h.rules,atj tl h.trans⟩
 ·obtain⟨x,hx,rfl⟩:=DC hy;exact { h.ok.rules x hx with cond:=i64 _ }
 ·obtain⟨x,hx,rfl⟩:=Ow hy;exact { h.ok.trans x hx with cond:=i64 _ }
 ·obtain⟨x,hx,rfl⟩:=DC hy;have:=hb x.cond;exact⟨by dsimp only;omega,by dsimp only;omega⟩
 ·obtain⟨x,hx,rfl⟩:=Ow hy;have:=hb x.cond;exact⟨by dsimp only;omega,by dsimp only;omega⟩
theorem ad7{p:aA}(h:JE p)(o:List Int):JE (yN p o):=by
 have rl:(yN p o).rules.length≤p.rules.length:=DS _;exact⟨{ h.ok with rules:=fun y hy=>h.ok.rules y (rP y hy),kQ:=atj rl h.ok.kQ },{ h.sm with rules:=atj rl h.sm.rules },h.bools,h.conds,fun y hy=>h.lu y (rP y hy),h.oF,h.be,atj rl h.rules,h.trans⟩
theorem ad8{p:aA}(h:JE p):JE (gY p):=
 ⟨aci h.ok,ach h.sm,h.bools,h.conds,qU (J:=aF) (Q:=fun y=>-1000000≤y.cond∧y.cond≤1000000) (fun a b c ha _ h=>by rw[nW h];exact ha) h.lu,h.oF,h.be,atj (zh _ _) h.rules,h.trans⟩
theorem Xe{p:aA}(h:Jw p)(hok:p.Ok):JE p∧RdH (aY p)∧RuH (yN (aY p) (mD (aY p)))∧JE (gY (yN (aY p) (mD (aY p)))):=by
 have h1:=aaE h hok;have h2:=Jf h1;have h3:=ad7 h2 (mD (aY p));have rl:(aY p).rules.length≤p.rules.length:=List.length_filterMap_le _ _;have rw':(yN (aY p) (mD (aY p))).rules.length≤(aY p).rules.length:=DS _;have zr:=h.small.sizes.rules;exact⟨h1,⟨h2.ok,h2.sm,h2.bools,atj h2.conds (by decide),by omega⟩,⟨h3.ok,h3.sm,by omega⟩,ad8 h3⟩
theorem H7{l:List ByteArray}{x:ByteArray}(hx:x∈l):l[yE l x]?=some x:=by
 have h:=zq hx;rw[as5 h];have h2:=List.findIdx_getElem (xs:=l) (p:=fun y=>decide (x=y)) (w:=h);exact congrArg some (of_decide_eq_true h2).symm
theorem Lz{l:List ByteArray}(hd:l.Nodup){a:Nat}{x:ByteArray}(h:l[a]?=some x):yE l x=a:=by
 have hx:=as6 h;exact(List.getElem?_inj (zq hx) hd).1 ((H7 hx).trans h.symm)
theorem zB:∀ (m:Nat) (f:Nat→Bool),∃ r,r<2^m∧∀ j,j<m→r.testBit j=f j
 | 0,_=>⟨0,by decide,fun j h=>absurd h (Nat.not_lt_zero j)⟩
 | m+1,f=>by
  obtain⟨r,h1,h2⟩:=zB m fun j=>f (j+1)
  refine⟨2*r+(f 0).toNat,?_,fun j hj=>?_⟩
  ·have:(f 0).toNat≤1:=Bool.toNat_le _;rw[Nat.pow_succ];omega
  ·cases j with
   | zero=>
    rw[Nat.testBit_zero];cases f 0<;>simp[Nat.add_mod]
   | succ j=>
    rw[Nat.testBit_succ,← h2 j (by omega)];congr 1;have:(f 0).toNat≤1:=Bool.toNat_le _;omega
theorem Kj{bl:List gH}{ns:List ByteArray}{n r:Nat}(hm:∀ a x,bl[a]?=some x→x.name∈ns→r.testBit (yE ns x.name)=n.testBit a)(hr:r<64){c:aq}(h:iM bl.length c)(hs:∀ s∈bw (bg bl c),s∈ns):sS (fE ns (bg bl c))∧ib (fE ns (bg bl c)) r=nD bl.length n c:=by
 induction h with
 | @bool a rel b nm s h0 h1=>
  obtain⟨x,hx⟩:∃ x,bl[a.toNat]?=some x:=⟨_,as5 (by omega)⟩
  have e:bg bl (.node 1 a rel b nm s [])=.node 1 0 0 0 [x.name] ay.zero []:=by
   rw[bg,if_pos (by unfold isNum;simp[h0,h1]),hx];rfl
  rw[e] at hs ⊢;have hin:x.name∈ns:=hs _ (by rw[fW];simp[aq.names]);rw[GQ rfl rfl];refine⟨qZ _ _,?_⟩;rw[vZ _ (fun k hk=>BL hk) 64 (Nat.le_refl _),decide_eq_true hr,Bool.true_and,Int.toNat_natCast,hm _ _ hx hin,mH];show _=Cr bl.length n 1 a []
  have hb:cQ bl.length 1 a 0=false:=by
   have:¬ a<0:=by omega
   have h2:¬ (bl.length:Int)≤a:=by omega
   simp[cQ,pR,this,h2]
  unfold Cr;rw[List.length_nil,hb,if_neg (by decide),if_pos rfl]
 | @not a rel b nm s k hk ih=>
  have e:bg bl (.node 2 a rel b nm s [k])=.node 2 0 0 0 [] ay.zero [bg bl k]:=by
   rw[bg,if_neg (by unfold isNum;simp),mW];rfl
  rw[e] at hs ⊢;obtain⟨w1,i1⟩:=ih fun s h=>hs s (mX (by simp[aq.kids]) h)
  rw[Nc (e:=.node 2 0 0 0 [] ay.zero [bg bl k]) (y:=bg bl k) (show(2:Int)≠1 by decide) rfl rfl];refine⟨dB _ _ _,?_⟩;rw[mH];show _=Cr bl.length n 2 a [nD bl.length n k];rw[j4 .xor zR w1,Ey,i1,decide_eq_true hr];have hb:cQ bl.length 2 a 1=false:=by simp[cQ,pR]
  unfold Cr;simp[hb]
 | @bin op a rel b nm s k l h3 h7 hk hl ihk ihl=>
  have e:bg bl (.node op a rel b nm s [k,l])=.node op 0 0 0 [] ay.zero [bg bl k,bg bl l]:=by
   rw[bg,if_neg (by unfold isNum;simp;omega),mW];rfl
  rw[e] at hs ⊢;obtain⟨w1,i1⟩:=ihk fun s h=>hs s (mX (by simp[aq.kids]) h)
  obtain⟨w2,i2⟩:=ihl fun s h=>hs s (mX (k:=bg bl l) (by simp[aq.kids]) h)
  have n1:op≠1:=by omega
  have n2:op≠2:=by omega
  rw[Nd (e:=.node op 0 0 0 [] ay.zero [bg bl k,bg bl l]) (y:=bg bl k) (z:=bg bl l) n1 n2 rfl rfl,mH];show sS (JB op _ _)∧ib (JB op _ _) r=Cr bl.length n op a [nD bl.length n k,nD bl.length n l];have hb:cQ bl.length op a 2=false:=by simp[cQ,pR,n1,n2]
  unfold Cr;rw[List.length_cons,List.length_cons,List.length_nil,hb,if_neg (show ¬ (false=true) by decide),if_neg n1,if_neg n2];unfold JB;by_cases e3:op=3
  ·rw[if_pos e3,if_pos e3];exact⟨dB _ _ _,by rw[j4 .and w1 w2,i1,i2];rfl⟩
  rw[if_neg e3,if_neg e3];by_cases e4:op=4
  ·rw[if_pos e4,if_pos e4];exact⟨dB _ _ _,by rw[j4 .or w1 w2,i1,i2];rfl⟩
  rw[if_neg e4,if_neg e4];by_cases e6:op=6
  ·rw[if_pos e6,if_pos e6];exact⟨dB _ _ _,by rw[j4 .xor zR (dB _ _ _),j4 .xor w1 w2,Ey,i1,i2,decide_eq_true hr];simp⟩
  rw[if_neg e6,if_neg e6];exact⟨dB _ _ _,by rw[j4 .xor w1 w2,i1,i2];rfl⟩
theorem Xo{bl:List gH}(hI:∀ b∈bl,jS b.name=true∧dG b.name)(hd:(bl.map (·.name)).Nodup)(h5:bl.length≤5){c:aq}(hc:iM bl.length c)(hlv:bq 13 c≤12):
 (jT (bg bl c)=true↔∀ n,n<2^bl.length→nD bl.length n c=true)∧(yH (bg bl c)=true↔∀ n,n<2^bl.length→nD bl.length n c=false):=by
 have hsub:=(Av hI hc 12 hlv).2;have hle:=Dc hsub;rw[as7] at hle;have hmem:∀ s∈bw (bg bl c),s∈ct (bg bl c):=fun s hs=>(nP _ s).2 hs
 unfold jT yH;generalize hns:ct (bg bl c)=ns at *;have hl5:ns.length≤5:=by omega
 have h64:∀ r,r<2^ns.length→r<64:=fun r hr=>by
  have:2^ns.length≤2^5:=Nat.pow_le_pow_right (by decide) hl5;omega
 have fwd:∀ n,n<2^bl.length→∃ r,r<2^ns.length∧ib (fE ns (bg bl c)) r=nD bl.length n c:=fun n hn=>by
  obtain⟨r,h1,h2⟩:=zB ns.length fun j=>match ns[j]? with|some s=>n.testBit (yE (bl.map (·.name)) s)|none=>false
  refine⟨r,h1,(Kj (fun a x hx hin=>?_) (h64 r h1) hc hmem).2⟩;rw[h2 _ (zq hin),H7 hin];dsimp only;rw[Lz hd (a:=a) (by rw[as9,hx];rfl)]
 have bwd:∀ r,r<2^ns.length→∃ n,n<2^bl.length∧ib (fE ns (bg bl c)) r=nD bl.length n c:=fun r hr=>by
  obtain⟨n,h1,h2⟩:=zB bl.length fun a=>match bl[a]? with|some x=>r.testBit (yE ns x.name)|none=>false
  refine⟨n,h1,(Kj (fun a x hx hin=>?_) (h64 r hr) hc hmem).2⟩;rw[h2 a (atb.1 hx).1,hx]
 have hw:sS (fE ns (bg bl c)):=(Kj (n:=0) (r:=0) (fun a x hx hin=>by simp) (by decide) hc hmem).1
 have hib:∀ r,ib (bits .and .u64 (fE ns (bg bl c)) (aI ns.length)) r=(ib (fE ns (bg bl c)) r&&decide (r<2^ns.length)):=fun r=>by
  rw[j4 .and hw (yO hl5),ug]
 constructor
 ·rw[decide_eq_true_eq];constructor
  ·intro e n hn;obtain⟨r,h1,h2⟩:=fwd n hn;have:=hib r;rw[e,ug,decide_eq_true h1,Bool.and_true,h2] at this;exact this.symm
  ·intro H;refine AZ (dB _ _ _).1 (yO hl5).1 fun r=>?_
   rw[hib,ug];by_cases hr:r<2^ns.length
   ·obtain⟨n,h1,h2⟩:=bwd r hr;rw[h2,H n h1,Bool.true_and]
   ·rw[decide_eq_false hr,Bool.and_false]
 ·rw[decide_eq_true_eq,Ew (dB _ _ _).1];constructor
  ·intro e n hn;obtain⟨r,h1,h2⟩:=fwd n hn;have:=hib r;rw[e,decide_eq_true h1,Bool.and_true,h2] at this;exact this.symm
  ·intro H r;rw[hib];by_cases hr:r<2^ns.length
   ·obtain⟨n,h1,h2⟩:=bwd r hr;rw[h2,H n h1,Bool.false_and]
   ·rw[decide_eq_false hr,Bool.and_false]
end Go.Proofs.YtdcofoaihmongaaGreat

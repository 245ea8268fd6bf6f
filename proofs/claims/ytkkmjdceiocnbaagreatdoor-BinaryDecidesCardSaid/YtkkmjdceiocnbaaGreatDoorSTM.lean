import Derived.Test.YtkkmjdceiocnbaaGreatDoorSTL
open Bool renaming and_eq_true→ame
open Go.RowKit renaming Below→amc
open List renaming getElem?_eq_getElem→amf,mem_of_getElem?→amg,length_map→amh,getD_eq_getElem?_getD→ami,getElem?_map→amj
open Nat renaming zero_le→amd
set_option maxRecDepth 100000
set_option maxHeartbeats 8000000
set_option linter.unusedSectionVars false
set_option linter.unusedSimpArgs false
set_option linter.unusedVariables false
namespace Go.Proofs.YtkkmjdceiocnbaaGreatDoor
open Go Go.RowKit
def ko(f s t:eG)(k:Nat):eG:=if k/5=0 then f else if k/5=1 then s else t
theorem abz{P:Program}{a:Act}{w:World}{o:Oper}{ty yt:TypeId}{x y:Operand}{k:Nat}(hk:k<100)(ho:o.op=.binOp .quo ty x y yt)(hx:a.eval x=.int .i64 (k:Int))(hy:a.eval y=.int .i64 5):(execOp a.eval o).run P w=.ok (.value (.int .i64 ((k/5:Nat):Int))) w:=by
 rw[LH ho hx hy (by decide),Int.tdiv_eq_ediv_of_nonneg (by omega),show((k:Int)/5)=((k/5:Nat):Int) by omega,wrap_i64];constructor<;>omega
theorem wX(w0:World)(f s t:eG)(k:Nat)(hk:k<15):Calls Tryz.prog 309 #[.agg #[.int .i64 f.user,.int .i64 f.role,.int .i64 f.typ,.int .i64 f.rng.low.ak,.int .u64 f.rng.low.cats,.int .i64 f.rng.high.ak,.int .u64 f.rng.high.cats,.int .i64 s.user,.int .i64 s.role,.int .i64 s.typ,.int .i64 s.rng.low.ak,.int .u64 s.rng.low.cats,.int .i64 s.rng.high.ak,.int .u64 s.rng.high.cats,.int .i64 t.user,.int .i64 t.role,.int .i64 t.typ,.int .i64 t.rng.low.ak,.int .u64 t.rng.low.cats,.int .i64 t.rng.high.ak,.int .u64 t.rng.high.cats],.int .i64 (k:Int)] w0 (fun(r:Ending) (w':World)=>r=.returned (.tuple #[.agg #[.int .i64 (ko f s t k).user,.int .i64 (ko f s t k).role,.int .i64 (ko f s t k).typ,.int .i64 (ko f s t k).rng.low.ak,.int .u64 (ko f s t k).rng.low.cats,.int .i64 (ko f s t k).rng.high.ak,.int .u64 (ko f s t k).rng.high.cats],.int .i64 ((k%5:Nat):Int)])∧amc w0.heap.size w0 w'):=by
 refine bM [] (fn:=Tryz.f309) Tryz.func309 rfl Tryz.ntmps309 rfl<|fun g1 w1 M1=>ei<|an wM fun g2 w2 M2=>ei<|an (fun a w o ho hv=>abz (k:=k) (by omega) ho (aY hv) (cC hv))<|an (fun h=>?_) fun h=>an (fun h2=>?_) fun h2=>?_
 all_goals simp only[decide_eq_true_eq,decide_eq_false_iff_not] at *
 ·have hp:ko f s t k=f:=if_pos (by omega);rw[hp];exact lb 1<|an rfl<|lb 0<|an ⟨rfl,rfl⟩ fun w M=>ei (x:=0)<|an rfl fun M=>⟨congrArg (fun q:Int=>Ending.returned (.tuple #[_,.int .i64 q])) (show(k:Int)=((k%5:Nat):Int) by omega),M.below⟩
 ·have hp:ko f s t k=s:=by unfold ko;rw[if_neg (by omega),if_pos (by omega)]
  rw[hp];exact lb 1<|an rfl<|an (by omega)<|lb 0<|an ⟨rfl,rfl⟩ fun w M=>ei (x:=0)<|an rfl fun M=>⟨congrArg (fun q:Int=>Ending.returned (.tuple #[_,.int .i64 q])) (show(k:Int)-5=((k%5:Nat):Int) by omega),M.below⟩
 ·have hp:ko f s t k=t:=by unfold ko;rw[if_neg (by omega),if_neg (by omega)]
  rw[hp];exact lb 1<|an rfl<|an (by omega)<|lb 0<|an ⟨rfl,rfl⟩ fun w M=>ei (x:=0)<|an rfl fun M=>⟨congrArg (fun q:Int=>Ending.returned (.tuple #[_,.int .i64 q])) (show(k:Int)-10=((k%5:Nat):Int) by omega),M.below⟩
def Jp(f s t:eG)(k:Nat):Int:=if k%5=0 then (ko f s t k).user else if k%5=1 then (ko f s t k).role else (ko f s t k).typ
theorem ug(w0:World)(f s t:eG)(k:Nat)(hk:k<15):Calls Tryz.prog 272 #[.agg #[.int .i64 f.user,.int .i64 f.role,.int .i64 f.typ,.int .i64 f.rng.low.ak,.int .u64 f.rng.low.cats,.int .i64 f.rng.high.ak,.int .u64 f.rng.high.cats,.int .i64 s.user,.int .i64 s.role,.int .i64 s.typ,.int .i64 s.rng.low.ak,.int .u64 s.rng.low.cats,.int .i64 s.rng.high.ak,.int .u64 s.rng.high.cats,.int .i64 t.user,.int .i64 t.role,.int .i64 t.typ,.int .i64 t.rng.low.ak,.int .u64 t.rng.low.cats,.int .i64 t.rng.high.ak,.int .u64 t.rng.high.cats],.int .i64 (k:Int)] w0 (fun(r:Ending) (w':World)=>r=.returned (.int .i64 (Jp f s t k))∧amc w0.heap.size w0 w'):=by
 have hN:∀ x,ko f s t k=x→Jp f s t k=if k%5=0 then x.user else if k%5=1 then x.role else x.typ:=fun x hx=>by unfold Jp;rw[hx]
 have hc:=fun w=>wX w f s t k hk
 obtain⟨x,hx⟩:∃ x,ko f s t k=x:=⟨_,rfl⟩;rw[hx] at hc;rw[hN x hx];refine bM [] (fn:=Tryz.f272) Tryz.func272 rfl Tryz.ntmps272 rfl<|fun g1 w1 M1=>lb 0<|an rfl<|cl<|an (hc _) fun w2 M2=>ei<|an wM fun g2 w3 M3=>lb 0<|an ⟨rfl,rfl⟩ fun w4 M4=>an (fun h=>lb 0<|an rfl<|fun M=>⟨?_,M.below⟩) fun h=>an (fun h2=>lb 0<|an rfl<|fun M=>⟨?_,M.below⟩) fun h2=>lb 0<|an rfl<|fun M=>⟨?_,M.below⟩
 all_goals simp only[decide_eq_true_eq,decide_eq_false_iff_not] at *
 ·rw[if_pos (by omega)];rfl
 ·rw[if_neg (by omega),if_pos (by omega)];rfl
 ·rw[if_neg (by omega),if_neg (by omega)];rfl
def CW(f s t:eG)(k:Nat):iL:=if k%5=4 then (ko f s t k).rng.high else (ko f s t k).rng.low
def ZR(rel:Int)(l m:iL):Bool:=if rel=0 then yN l.ak l.cats m.ak m.cats&&yN m.ak m.cats l.ak l.cats else if rel=1 then !yN l.ak l.cats m.ak m.cats||!yN m.ak m.cats l.ak l.cats else if rel=2 then yN l.ak l.cats m.ak m.cats else if rel=3 then yN m.ak m.cats l.ak l.cats else !yN l.ak l.cats m.ak m.cats&&!yN m.ak m.cats l.ak l.cats
def Hp(f s t:eG)(a b:Nat)(rel:Int):Bool:=if a%5<3 then decide (Jp f s t a=Jp f s t b) == decide (rel=0) else ZR rel (CW f s t a) (CW f s t b)
theorem C0(w0:World)(f s t:eG)(e:aS)(cs:List Value)(hE:bq w0 cs e)(a b:Nat)(ha:e.a=(a:Int))(hb:e.b=(b:Int))(ha2:a<15)(hb2:b<15):Calls Tryz.prog 271 #[.agg cs.toArray,.agg #[.int .i64 f.user,.int .i64 f.role,.int .i64 f.typ,.int .i64 f.rng.low.ak,.int .u64 f.rng.low.cats,.int .i64 f.rng.high.ak,.int .u64 f.rng.high.cats,.int .i64 s.user,.int .i64 s.role,.int .i64 s.typ,.int .i64 s.rng.low.ak,.int .u64 s.rng.low.cats,.int .i64 s.rng.high.ak,.int .u64 s.rng.high.cats,.int .i64 t.user,.int .i64 t.role,.int .i64 t.typ,.int .i64 t.rng.low.ak,.int .u64 t.rng.low.cats,.int .i64 t.rng.high.ak,.int .u64 t.rng.high.cats]] w0 (fun(r:Ending) (w':World)=>r=.returned (.bool (Hp f s t a b e.rel))∧amc w0.heap.size w0 w'):=by
 obtain⟨nv,kv,rfl,hn,hkk⟩:=hE.open;obtain⟨_,_,rfl,-⟩:=aN.get hn;obtain⟨_,_,rfl,-⟩:=aj.form hkk (by decide);rw[ha,hb];refine bM [] (fn:=Tryz.f271) Tryz.func271 rfl Tryz.ntmps271 rfl<|fun g1 w1 M1=>fun g2 w2 M2=>lb 1<|an rfl<|ei<|an (fun a w o ho hv=>Ga (Int.natCast_nonneg _) ho (aY hv) (cC hv))<|an (fun h=>?_) fun h=>?_
 ·have h:a%5<3:=by simp only[decide_eq_true_eq,Int.toNat_natCast] at h;omega
  unfold Hp;rw[if_pos h];refine dr (by kernel_rfl)<|lb 0<|an rfl<|lb 1<|an rfl<|cl<|an (fun w' hb' M'=>ug w' f s t a ha2)<|lb 0<|an rfl<|lb 1<|an rfl<|cl<|an (fun w' hb' M'=>ug w' f s t b hb2)<|lb 1<|an rfl<|fun w3 fL M3=>fun M=>⟨?_,M.below⟩
  rfl
 have h:¬ a%5<3:=by simp only[decide_eq_false_iff_not,Int.toNat_natCast] at h;omega
 unfold Hp;rw[if_neg h];refine ei<|an XL fun g3 w5 M5=>lp (ι:=Nat×iL×iL) (fun(m,l,k)=>[(6,.int .i64 (m:Int))]) (fun(m,l,k)=>(g3,322,#[.int .i64 l.ak,.int .u64 l.cats,.int .i64 k.ak,.int .u64 k.cats])::_) (fun _=>[]) (fun(m,l,k) _=>m≤2∧(1≤m→l=CW f s t a)∧(2≤m→k=CW f s t b)) (fun(m,l,k)=>2-m) (0,⟨0,0⟩,⟨0,0⟩) (an ⟨⟨rfl,trivial⟩,fun M=>⟨M,amd _,(fun h=>absurd h (by decide)),fun h=>absurd h (by decide)⟩⟩ ?_)
 rintro⟨m,l,k⟩ w M ⟨hm,h1,h2⟩;refine an (fun h3=>?_) fun h3=>?_
 ·have hlt:m<2:=by simp at h3;omega
  obtain rfl|rfl:m=0∨m=1:=by omega
  ·have hc:=fun w=>wX w f s t a ha2
   have uo:∀ x,ko f s t a=x→CW f s t a=if a%5=4 then x.rng.high else x.rng.low:=fun x hx=>by unfold CW;rw[hx]
   obtain⟨x,hx⟩:∃ x,ko f s t a=x:=⟨_,rfl⟩;rw[hx] at hc;have uo:=uo x hx;refine spk [(8,41,.int .i64 (a:Int)),(9,42,.tuple #[.agg #[.int .i64 x.user,.int .i64 x.role,.int .i64 x.typ,.int .i64 x.rng.low.ak,.int .u64 x.rng.low.cats,.int .i64 x.rng.high.ak,.int .u64 x.rng.high.cats],.int .i64 ((a%5:Nat):Int)])] [0,1,2,3,4,6,10,11,12] (.alt (.step 13 (.step 5 (.step 7 (.step 8 (.step 9 (.step 14 (.step 15 .done))))))) (.step 5 (.alt (.step 13 (.step 7 (.step 8 (.step 9 (.step 14 (.step 15 .done)))))) (.step 7 (.alt (.step 13 (.step 8 (.step 9 (.step 14 (.step 15 .done))))) (.step 8 (.alt (.step 13 (.step 9 (.step 14 (.step 15 .done)))) (.step 9 (.step 13 (.step 14 (.step 15 .done))))))))))) [0,1] (by rfl) (by kernel_rfl)<|lb 1<|an rfl<|lb 0<|an rfl<|lb 0<|an rfl<|fun w6 zx M6=>an (ei<|an wM fun gx wx Mx=>an rfl<|fun ga wa Ma=>an rfl<|ia<|an ⟨rfl,rfl,by decide⟩<|an rfl<|lb 0<|an rfl<|an rfl<|an rfl<|cl<|an (hc _) fun wb Mb=>an rfl<|an rfl<|lb 1<|an ⟨rfl,rfl⟩ fun wc Mc=>an rfl<|an rfl<|?_) (fun ga wa Ma=>an rfl<|an (ei<|an wM fun gx wx Mx=>an rfl<|ia<|an ⟨rfl,rfl,by decide⟩<|an rfl<|lb 1<|an rfl<|an rfl<|an rfl<|cl<|an (hc _) fun wb Mb=>an rfl<|an rfl<|lb 0<|an ⟨rfl,rfl⟩ fun wc Mc=>an rfl<|an rfl<|?_) (ia<|an ⟨rfl,rfl,by decide⟩<|an rfl<|an (ei<|an wM fun gx wx Mx=>an rfl<|lb 1<|an rfl<|an rfl<|an rfl<|cl<|an (hc _) fun wb Mb=>an rfl<|an rfl<|lb 0<|an ⟨rfl,rfl⟩ fun wc Mc=>an rfl<|an rfl<|?_) (lb 0<|an rfl<|an rfl<|an rfl<|an (ei<|an wM fun gx wx Mx=>an rfl<|cl<|an (hc _) fun wb Mb=>an rfl<|an rfl<|lb 0<|an ⟨rfl,rfl⟩ fun wc Mc=>an rfl<|an rfl<|?_) (cl<|an (hc _) fun wb Mb=>an rfl<|an rfl<|ei<|an wM fun gx wx Mx=>an rfl<|lb 0<|an ⟨rfl,rfl⟩ fun wc Mc=>an rfl<|an rfl<|?_))))
   all_goals first|exact lb 1<|an rfl<|ei<|an ⟨rfl,by decide⟩<|lb 2<|an ⟨rfl,rfl⟩ fun w M=>an (fun h4=>lb 1<|an rfl<|ei<|an ⟨rfl,by decide⟩<|lb 2<|an ⟨rfl,rfl⟩ fun w M=>an (by omega)<|bk (1,x.rng.high,k) ⟨rfl,trivial⟩ (fun M=>⟨M.only (.cons _ (.cons _ (.refl _))) (.refl _),by omega,(fun _=>by rw[uo,if_pos (by simp only[decide_eq_true_eq] at h4;omega)]),fun h=>absurd h (by decide)⟩) (by dsimp only;omega)) fun h4=>an (by omega)<|bk (1,x.rng.low,k) ⟨rfl,trivial⟩ (fun M=>⟨M.only (.cons _ (.cons _ (.refl _))) (.refl _),by omega,(fun _=>by rw[uo,if_neg (by simp only[decide_eq_false_iff_not] at h4;omega)]),fun h=>absurd h (by decide)⟩) (by dsimp only;omega)|exact lb 0<|an rfl<|ei<|an ⟨rfl,by decide⟩<|lb 2<|an ⟨rfl,rfl⟩ fun w M=>an (fun h4=>lb 0<|an rfl<|ei<|an ⟨rfl,by decide⟩<|lb 2<|an ⟨rfl,rfl⟩ fun w M=>an (by omega)<|bk (1,x.rng.high,k) ⟨rfl,trivial⟩ (fun M=>⟨M.only (.cons _ (.cons _ (.refl _))) (.refl _),by omega,(fun _=>by rw[uo,if_pos (by simp only[decide_eq_true_eq] at h4;omega)]),fun h=>absurd h (by decide)⟩) (by dsimp only;omega)) fun h4=>an (by omega)<|bk (1,x.rng.low,k) ⟨rfl,trivial⟩ (fun M=>⟨M.only (.cons _ (.cons _ (.refl _))) (.refl _),by omega,(fun _=>by rw[uo,if_neg (by simp only[decide_eq_false_iff_not] at h4;omega)]),fun h=>absurd h (by decide)⟩) (by dsimp only;omega)
  ·have hc:=fun w=>wX w f s t b hb2
   have uo:∀ x,ko f s t b=x→CW f s t b=if b%5=4 then x.rng.high else x.rng.low:=fun x hx=>by unfold CW;rw[hx]
   obtain⟨x,hx⟩:∃ x,ko f s t b=x:=⟨_,rfl⟩;rw[hx] at hc;have uo:=uo x hx;refine spk [(8,41,.int .i64 (b:Int)),(9,42,.tuple #[.agg #[.int .i64 x.user,.int .i64 x.role,.int .i64 x.typ,.int .i64 x.rng.low.ak,.int .u64 x.rng.low.cats,.int .i64 x.rng.high.ak,.int .u64 x.rng.high.cats],.int .i64 ((b%5:Nat):Int)])] [0,1,2,3,4,6,10,11,12] (.alt (.step 13 (.step 5 (.step 7 (.step 8 (.step 9 (.step 14 (.step 15 .done))))))) (.step 5 (.alt (.step 13 (.step 7 (.step 8 (.step 9 (.step 14 (.step 15 .done)))))) (.step 7 (.alt (.step 13 (.step 8 (.step 9 (.step 14 (.step 15 .done))))) (.step 8 (.alt (.step 13 (.step 9 (.step 14 (.step 15 .done)))) (.step 9 (.step 13 (.step 14 (.step 15 .done))))))))))) [0,1] (by rfl) (by kernel_rfl)<|lb 1<|an rfl<|lb 0<|an rfl<|lb 0<|an rfl<|fun w6 zx M6=>an (ei<|an wM fun gx wx Mx=>an rfl<|fun ga wa Ma=>an rfl<|ia<|an ⟨rfl,rfl,by decide⟩<|an rfl<|lb 0<|an rfl<|an rfl<|an rfl<|cl<|an (hc _) fun wb Mb=>an rfl<|an rfl<|lb 1<|an ⟨rfl,rfl⟩ fun wc Mc=>an rfl<|an rfl<|?_) (fun ga wa Ma=>an rfl<|an (ei<|an wM fun gx wx Mx=>an rfl<|ia<|an ⟨rfl,rfl,by decide⟩<|an rfl<|lb 1<|an rfl<|an rfl<|an rfl<|cl<|an (hc _) fun wb Mb=>an rfl<|an rfl<|lb 0<|an ⟨rfl,rfl⟩ fun wc Mc=>an rfl<|an rfl<|?_) (ia<|an ⟨rfl,rfl,by decide⟩<|an rfl<|an (ei<|an wM fun gx wx Mx=>an rfl<|lb 1<|an rfl<|an rfl<|an rfl<|cl<|an (hc _) fun wb Mb=>an rfl<|an rfl<|lb 0<|an ⟨rfl,rfl⟩ fun wc Mc=>an rfl<|an rfl<|?_) (lb 0<|an rfl<|an rfl<|an rfl<|an (ei<|an wM fun gx wx Mx=>an rfl<|cl<|an (hc _) fun wb Mb=>an rfl<|an rfl<|lb 0<|an ⟨rfl,rfl⟩ fun wc Mc=>an rfl<|an rfl<|?_) (cl<|an (hc _) fun wb Mb=>an rfl<|an rfl<|ei<|an wM fun gx wx Mx=>an rfl<|lb 0<|an ⟨rfl,rfl⟩ fun wc Mc=>an rfl<|an rfl<|?_))))
   all_goals first|exact lb 1<|an rfl<|ei<|an ⟨rfl,by decide⟩<|lb 2<|an ⟨rfl,rfl⟩ fun w M=>an (fun h4=>lb 1<|an rfl<|ei<|an ⟨rfl,by decide⟩<|lb 2<|an ⟨rfl,rfl⟩ fun w M=>an (by omega)<|bk (2,l,x.rng.high) ⟨rfl,trivial⟩ (fun M=>⟨M.only (.cons _ (.cons _ (.refl _))) (.refl _),by omega,(fun _=>h1 (by decide)),fun _=>by rw[uo,if_pos (by simp only[decide_eq_true_eq] at h4;omega)]⟩) (by dsimp only;omega)) fun h4=>an (by omega)<|bk (2,l,x.rng.low) ⟨rfl,trivial⟩ (fun M=>⟨M.only (.cons _ (.cons _ (.refl _))) (.refl _),by omega,(fun _=>h1 (by decide)),fun _=>by rw[uo,if_neg (by simp only[decide_eq_false_iff_not] at h4;omega)]⟩) (by dsimp only;omega)|exact lb 0<|an rfl<|ei<|an ⟨rfl,by decide⟩<|lb 2<|an ⟨rfl,rfl⟩ fun w M=>an (fun h4=>lb 0<|an rfl<|ei<|an ⟨rfl,by decide⟩<|lb 2<|an ⟨rfl,rfl⟩ fun w M=>an (by omega)<|bk (2,l,x.rng.high) ⟨rfl,trivial⟩ (fun M=>⟨M.only (.cons _ (.cons _ (.refl _))) (.refl _),by omega,(fun _=>h1 (by decide)),fun _=>by rw[uo,if_pos (by simp only[decide_eq_true_eq] at h4;omega)]⟩) (by dsimp only;omega)) fun h4=>an (by omega)<|bk (2,l,x.rng.low) ⟨rfl,trivial⟩ (fun M=>⟨M.only (.cons _ (.cons _ (.refl _))) (.refl _),by omega,(fun _=>h1 (by decide)),fun _=>by rw[uo,if_neg (by simp only[decide_eq_false_iff_not] at h4;omega)]⟩) (by dsimp only;omega)
 ·obtain rfl:m=2:=by simp at h3;omega
  obtain rfl:=h1 (by decide);obtain rfl:=h2 (Nat.le_refl _);generalize CW f s t a=l;generalize CW f s t b=k;unfold ZR;refine dr (by kernel_rfl)<|ei (x:=0)<|an ⟨rfl,by decide⟩<|lb 0<|an rfl<|ei (x:=1)<|an ⟨rfl,by decide⟩<|lb 0<|an rfl<|cl<|an (fun w' hb' M'=>tj w' l.ak l.cats k.ak k.cats)<|ei (x:=1)<|an ⟨rfl,by decide⟩<|lb 0<|an rfl<|ei (x:=0)<|an ⟨rfl,by decide⟩<|lb 0<|an rfl<|cl<|an (fun w' hb' M'=>tj w' k.ak k.cats l.ak l.cats)<|fun w6 zx M6=>?_
  generalize yN l.ak l.cats k.ak k.cats=up;generalize yN k.ak k.cats l.ak l.cats=down;refine lb 2<|an rfl<|an (fun r0 M=>⟨?_,M.below⟩) fun r0=>an (fun r1 M=>⟨?_,M.below⟩) fun r1=>an (fun r2 M=>⟨?_,M.below⟩) fun r2=>an (fun r3 M=>⟨?_,M.below⟩) fun r3 M=>⟨?_,M.below⟩
  all_goals simp only[decide_eq_true_eq,decide_eq_false_iff_not] at *
  ·rw[if_pos r0];rfl
  ·rw[if_neg r0,if_pos r1];rfl
  ·rw[if_neg r0,if_neg r1,if_pos r2];rfl
  ·rw[if_neg r0,if_neg r1,if_neg r2,if_pos r3];rfl
  ·rw[if_neg r0,if_neg r1,if_neg r2,if_neg r3];rfl
def Cb(f s t:eG)(op a rel b:Int)(set:aE)(l:List Bool):Bool:=
 if op=8 then Hp f s t a.toNat b.toNat rel else if op=9 then set.mem (Jp f s t a.toNat) else if op=2∧l.length=1 then !(l.getD 0 false) else if l.length≠2 then false
 else if op=3 then l.getD 0 false&&l.getD 1 false else decide (op=4)&&(l.getD 0 false||l.getD 1 false)
mutual
def mw(f s t:eG):aS→Bool
 | .node op a rel b _ set kids=>Cb f s t op a rel b set (DH f s t kids)
def DH(f s t:eG):List aS→List Bool
 | []=>[]
 | k::l=>mw f s t k::DH f s t l
end
theorem sS(f s t:eG)(e:aS):mw f s t e=Cb f s t e.op e.a e.rel e.b e.set (DH f s t e.kids):=by cases e;rw[mw];rfl
theorem DG(f s t:eG):∀ l,DH f s t l=l.map (mw f s t)
 | []=>by rw[DH];rfl
 | k::l=>by rw[DH,List.map_cons,DG f s t l]
theorem JB(f s t:eG):∀ (e:aS) (w0:World) (cs:List Value),bq w0 cs e→Ah e→Calls Tryz.prog 172 #[.agg cs.toArray,.agg #[.int .i64 f.user,.int .i64 f.role,.int .i64 f.typ,.int .i64 f.rng.low.ak,.int .u64 f.rng.low.cats,.int .i64 f.rng.high.ak,.int .u64 f.rng.high.cats,.int .i64 s.user,.int .i64 s.role,.int .i64 s.typ,.int .i64 s.rng.low.ak,.int .u64 s.rng.low.cats,.int .i64 s.rng.high.ak,.int .u64 s.rng.high.cats,.int .i64 t.user,.int .i64 t.role,.int .i64 t.typ,.int .i64 t.rng.low.ak,.int .u64 t.rng.low.cats,.int .i64 t.rng.high.ak,.int .u64 t.rng.high.cats]] w0 (fun(r:Ending) (w':World)=>r=.returned (.bool (mw f s t e))∧amc w0.heap.size w0 w'):=by
 refine aS.ind fun e ih=>?_
 intro w0 cs hE hH;obtain⟨p8,p9,ps,pk⟩:=hH.parts;have Ur:=hE;obtain⟨_,_,rfl,hn,hkk⟩:=Ur.open;obtain⟨_,_,rfl,-⟩:=aN.get hn;obtain⟨_,_,rfl,-⟩:=aj.form hkk (by decide);have hm:=DG f s t e.kids;refine bM [] (fn:=Tryz.f172) Tryz.func172 rfl Tryz.ntmps172 rfl<|fun g1 w1 M1=>fun g2 w2 M2=>lb 1<|an rfl<|an (fun h=>?_) fun h=>?_
 ·have h1:e.op=8:=by simpa using h
  obtain⟨⟨a1,a2⟩,b1,b2⟩:=p8 h1;have hv:mw f s t e=Hp f s t e.a.toNat e.b.toNat e.rel:=by rw[sS,Cb,if_pos h1]
  rw[hv];exact lb 1<|an rfl<|lb 0<|an rfl<|cl<|an (C0 _ f s t e _ (hE.keep M2.below) e.a.toNat e.b.toNat (by omega) (by omega) (by omega) (by omega)) fun w3 M3=>fun M=>⟨rfl,M.below⟩
 have h1:e.op≠8:=by simpa using h
 refine lb 1<|an rfl<|an (fun h=>?_) fun h=>?_
 ·have h2:e.op=9:=by simpa using h
  obtain⟨a1,a2⟩:=p9 h2;have hv:mw f s t e=e.set.mem (Jp f s t e.a.toNat):=by rw[sS,Cb,if_neg h1,if_pos h2]
  rw[hv];obtain⟨k,hk⟩:∃ k:Nat,e.a=(k:Int):=⟨e.a.toNat,by omega⟩;rw[hk,Int.toNat_natCast];exact dr (by kernel_rfl)<|lb 1<|an rfl<|lb 0<|an rfl<|lb 1<|an rfl<|cl<|an (fun w' hb' M'=>ug w' f s t k (by omega))<|cl<|an (fun w' hb' M'=>qw w' e.set ps _)<|fun w3 fL M3=>fun M=>⟨rfl,M.below⟩
 have h2:e.op≠9:=by simpa using h
 refine lb 1<|an rfl<|lb 1<|an (fun _=>rfl)<|an (fun h=>?_) fun h=>?_
 ·obtain⟨h3,h4⟩:e.op=2∧e.kids.length=1:=by
   simp only[ame,decide_eq_true_eq] at h;omega
  obtain⟨y,hy⟩:∃ y,e.kids[0]?=some y:=⟨_,amf (by omega)⟩;have iK:=amg hy;obtain⟨b,o,_,e1,AY,hc⟩:=aj.elt hkk (by decide) hy;obtain⟨_,_,rfl,-⟩:=AY.open;have hv:mw f s t e=!mw f s t y:=by rw[sS f s t e,Cb,if_neg h1,if_neg h2,hm,if_pos ⟨h3,by rw[amh];exact h4⟩,ami,amj,hy];rfl
  rw[hv];exact dr (by kernel_rfl)<|lb 1<|an rfl<|ia (i:=0)<|an ⟨e1,rfl,by omega⟩<|lc<|an (bZ M2.below hc)<|lb 0<|an rfl<|cl<|an (fun w' hb' M'=>ih y iK w' _ (AY.keep M'.below) (pk y iK))<|fun w3 fL M3=>fun M=>⟨rfl,M.below⟩
 have h3:¬ (e.op=2∧e.kids.length=1):=by
  simp only[Bool.and_eq_false_iff,decide_eq_false_iff_not] at h;omega
 refine lb 1<|an rfl<|an (fun h M=>⟨?_,M.below⟩) fun h=>?_
 ·have h4:e.kids.length≠2:=by
   intro h5;rw[h5] at h;simp at h
  rw[sS,Cb,if_neg h1,if_neg h2,hm,if_neg (by rw[amh];exact h3),if_pos (by rw[amh];exact h4)];rfl
 have h4:e.kids.length=2:=by simp at h;omega
 obtain⟨y,hy⟩:∃ y,e.kids[0]?=some y:=⟨_,amf (by omega)⟩;have iK:=amg hy;obtain⟨b,o,_,e1,AY,hc⟩:=aj.elt hkk (by decide) hy;obtain⟨_,_,rfl,-⟩:=AY.open;obtain⟨z,hz⟩:∃ z,e.kids[1]?=some z:=⟨_,amf (by omega)⟩;have Xt:=amg hz;obtain⟨bz,oz,_,e2,XD,hcz⟩:=aj.elt hkk (by decide) hz;obtain⟨_,_,rfl,-⟩:=XD.open
 have hv:mw f s t e=if e.op=3 then mw f s t y&&mw f s t z else decide (e.op=4)&&(mw f s t y||mw f s t z):=by
  rw[sS f s t e,Cb,if_neg h1,if_neg h2,hm,if_neg (by rw[amh];exact h3),if_neg (by rw[amh];exact fun h=>h h4),ami,ami,amj,amj,hy,hz];rfl
 rw[hv];refine lb 1<|an rfl<|an (fun h=>?_) fun h=>?_
 ·rw[if_pos (show e.op=3 by simpa using h)];exact dr (by kernel_rfl)<|lb 1<|an rfl<|ia (i:=0)<|an ⟨e1,rfl,by omega⟩<|lc<|an (bZ M2.below hc)<|lb 0<|an rfl<|cl<|an (fun w' hb' M'=>ih y iK w' _ (AY.keep M'.below) (pk y iK))<|lb 1<|an (fun _=>rfl)<|ia (i:=1)<|an (fun _=>⟨e2,rfl,by omega⟩)<|lc<|an (fun _=>bZ M2.below hcz)<|lb 0<|an (fun _=>rfl)<|cl<|an (fun _ w' hb' M'=>ih z Xt w' _ (XD.keep M'.below) (pk z Xt))<|fun w3 fL M3=>fun M=>⟨rfl,M.below⟩
 ·rw[if_neg (show e.op≠3 by simpa using h)];exact dr (by kernel_rfl)<|lb 1<|an rfl<|lb 1<|an (fun _=>rfl)<|ia (i:=0)<|an (fun _=>⟨e1,rfl,by omega⟩)<|lc<|an (fun _=>bZ M2.below hc)<|lb 0<|an (fun _=>rfl)<|cl<|an (fun _ w' hb' M'=>ih y iK w' _ (AY.keep M'.below) (pk y iK))<|lb 1<|an (fun _=>rfl)<|ia (i:=1)<|an (fun _=>⟨e2,rfl,by omega⟩)<|lc<|an (fun _=>bZ M2.below hcz)<|lb 0<|an (fun _=>rfl)<|cl<|an (fun _ w' hb' M'=>ih z Xt w' _ (XD.keep M'.below) (pk z Xt))<|fun w3 fL M3=>fun M=>⟨rfl,M.below⟩
theorem Lp{nU nR nT N:Nat}(hN:N≤15):∀ e:aS,e.Ok→iC nU nR nT N e=0→Ah e:=by
 refine aS.ind fun e ih=>?_
 intro hok h
 have below:∀ i:Int,aF i (N:Int)=true→0≤i∧i<15:=fun i hi=>by
  unfold aF at hi;rw[ame,decide_eq_true_eq,decide_eq_true_eq] at hi;omega
 have key:(e.op=8→(0≤e.a∧e.a<15)∧0≤e.b∧e.b<15)∧(e.op=9→0≤e.a∧e.a<15)∧∀ k∈e.kids,Ah k:=by
  have MH:e.kids.length=0→∀ k∈e.kids,Ah k:=fun h0 k hk=>by rw[List.length_eq_zero_iff.1 h0] at hk;cases hk
  cases hs:dF nU nR nT N e with
  | some r=>
   rw[kE hs] at h;subst h;unfold dF at hs
   cases hf:cT e with
   | false=>rw[hf,if_pos rfl] at hs;cases hs
   | true=>
    rw[hf,if_neg (by decide)] at hs;by_cases h8:e.op=8
    ·rw[if_pos h8] at hs;have hc:=Option.some.inj hs;unfold ez at hc
     have hk:e.kids.length=0:=by
      unfold cT at hf;rw[if_neg (by omega),if_pos h8,ame,ame,decide_eq_true_eq] at hf;omega
     cases ha:aF e.a (N:Int) with
     | false=>rw[ha,if_pos rfl] at hc;cases hc
     | true=>
      rw[ha,if_neg (by decide)] at hc
      cases hb:aF e.b (N:Int) with
      | false=>rw[hb,if_pos rfl] at hc;cases hc
      | true=>exact⟨fun _=>⟨below _ ha,below _ hb⟩,fun h9=>absurd h9 (by omega),MH hk⟩
    ·rw[if_neg h8] at hs;by_cases h9:e.op=9
     ·rw[if_pos h9] at hs
      repeat' (split at hs)
      all_goals cases hs
     ·rw[if_neg h9] at hs;cases hs
  | none=>
   rw[mP hs] at h
   have hl:∀ l:List aS,lV nU nR nT N l=0→∀ k∈l,iC nU nR nT N k=0:=by
    intro l
    induction l with
    | nil=>exact fun _ k hk=>by cases hk
    | cons x l ihl=>
     intro h0 k hk;rw[lV] at h0;split at h0
     ·rename_i hx;rcases List.mem_cons.1 hk with rfl|hk
      ·exact hx
      ·exact ihl h0 k hk
     ·rename_i hx;exact absurd h0 hx
   refine⟨fun h8=>?_,fun h9=>?_,fun k hk=>ih k hk (hok.BZ k hk) (hl _ h k hk)⟩
   ·unfold dF at hs
    cases hf:cT e with
    | false=>rw[hf,if_pos rfl] at hs;cases hs
    | true=>rw[hf,if_neg (by decide),if_pos h8] at hs;cases hs
   ·unfold dF at hs
    cases hf:cT e with
    | false=>rw[hf,if_pos rfl] at hs;cases hs
    | true=>
     rw[hf,if_neg (by decide),if_neg (by omega),if_pos h9] at hs
     cases ha:aF e.a (N:Int) with
     | false=>rw[ha,if_pos rfl] at hs;cases hs
     | true=>exact below _ ha
 have hset:=hok.set';obtain⟨k1,k2,k3⟩:=key
 cases e with
 | node op a rel b names set kids=>exact .node k1 k2 hset k3
theorem NG{p:aD}(h:gP p=0)(hok:p.Ok):∀ c∈p.cons,Ah c.expr:=fun c hc=>by
 unfold gP at h;split at h
 ·cases h
 rw[mW] at h;obtain⟨i,hi⟩:=List.getElem?_of_mem hc;have:=h i (amd _) (by have:=(List.getElem?_eq_some_iff.1 hi).1;omega);unfold pI at this;rw[hi] at this;replace this:vG p.users.length p.roles.length p.types.length p.classes c=0:=this;unfold vG at this;split at this
 ·cases this
 split at this
 ·cases this
 unfold cq at this;split at this
 ·cases this
 split at this
 ·exact Lp (Nat.le_refl _) _ (hok.cons c hc).expr this
 ·exact Lp (by decide) _ (hok.cons c hc).expr this
def UN:eG:=⟨0,0,0,⟨⟨0,0⟩,⟨0,0⟩⟩⟩
def vv(f s:eG)(cls:Int)(v:Int)(c:ij):Int:=if ((!c.val&&decide (c.cls=cls))&&!mw f s UN c.expr)=true then bits .or .u32 v c.perms else v
def xq(p:aD)(f s:eG)(cls:Int):Int:=p.cons.foldl (vv f s cls) 0
theorem JM(w0:World)(c0 c1 c2 c3 c4 c5 c6 c7 c8 c9 c10 c11 c12 c13 c14 c15 c16:Value)(p:aD)(hp:aA w0 c0 c1 c2 c3 c4 c5 c6 c7 c8 c9 c10 c11 c12 c13 c14 c15 c16 p)(hH:∀ c∈p.cons,Ah c.expr)(f s:eG)(cls:Int):Calls Tryz.prog 65 #[.agg #[c0,c1,c2,c3,c4,c5,c6,c7,c8,c9,c10,c11,c12,c13,c14,c15,c16],.agg #[.int .i64 f.user,.int .i64 f.role,.int .i64 f.typ,.int .i64 f.rng.low.ak,.int .u64 f.rng.low.cats,.int .i64 f.rng.high.ak,.int .u64 f.rng.high.cats],.agg #[.int .i64 s.user,.int .i64 s.role,.int .i64 s.typ,.int .i64 s.rng.low.ak,.int .u64 s.rng.low.cats,.int .i64 s.rng.high.ak,.int .u64 s.rng.high.cats],.int .i64 cls] w0 (fun(e:Ending) (w':World)=>e=.returned (.int .u32 (xq p f s cls))∧amc w0.heap.size w0 w'):=by
 have vT:=hp;obtain⟨_,_,-,-,hmR,-⟩:=aj.form vT.cons (by decide);obtain⟨_,_,_,_,_,_,_,_,_,_,_,_,_,_,_,_,_,_,_,_,_,_,_,_,_,_,_,_,_,_,_,_,_,_,rfl,rfl,rfl,rfl,rfl,rfl,rfl,rfl,rfl,rfl,rfl,rfl,rfl,rfl,rfl,rfl,rfl⟩:=hp.open;refine bM [] (fn:=Tryz.f65) Tryz.func65 rfl Tryz.ntmps65 rfl<|fun g1 w1 M1=>fun g2 w2 M2=>fun g3 w3 M3=>lr (ι:=Nat) (fun m=>[(9,.int .u32 ((p.cons.take m).foldl (vv f s cls) 0)),(10,.int .i64 (m:Int))]) (fun m _=>m≤p.cons.length) (fun m=>p.cons.length-m) 0 (an ⟨⟨rfl,rfl,trivial⟩,fun M=>⟨M,amd _⟩⟩ ?_)
 intro m w M hm;refine lb 2<|an rfl<|an (fun h=>?_) fun h=>?_
 ·have hlt:m<p.cons.length:=by simp at h;omega
  obtain⟨y,hy⟩:∃ y,p.cons[m]?=some y:=⟨_,amf hlt⟩;have iK:=amg hy;obtain⟨b,o,_,e,⟨es,rfl,AY⟩,hc⟩:=aj.elt vT.cons (by decide) hy;obtain⟨_,_,rfl,hn',hk'⟩:=AY.open;obtain⟨_,_,rfl,-⟩:=aN.get hn';obtain⟨_,_,rfl,-⟩:=aj.form hk' (by decide);have hn:(p.cons.take (m+1)).foldl (vv f s cls) 0=vv f s cls ((p.cons.take m).foldl (vv f s cls) 0) y:=by rw[cE hy,List.foldl_append];rfl
  have hF:∀ b,((!y.val&&decide (y.cls=cls))&&!mw f s UN y.expr)=b→vv f s cls ((p.cons.take m).foldl (vv f s cls) 0) y=if b=true then bits .or .u32 ((p.cons.take m).foldl (vv f s cls) 0) y.perms else (p.cons.take m).foldl (vv f s cls) 0:=fun b hb=>by unfold vv;rw[hb]
  refine lb 2<|an rfl<|ia<|an ⟨e,rfl,hlt⟩<|lc<|an (bZ M.below hc)<|ei<|an FE fun g4 w4 M4=>lb 0<|an ⟨rfl,rfl⟩ fun w5 M5=>lb 0<|an rfl<|lb 0<|an (fun _=>rfl)<|lb 0<|an (fun _=>rfl)<|lb 2<|an (fun _=>rfl)<|lb 1<|an (fun _=>rfl)<|ei (x:=.agg #[.int .i64 f.user,.int .i64 f.role,.int .i64 f.typ,.int .i64 f.rng.low.ak,.int .u64 f.rng.low.cats,.int .i64 f.rng.high.ak,.int .u64 f.rng.high.cats,.int .i64 s.user,.int .i64 s.role,.int .i64 s.typ,.int .i64 s.rng.low.ak,.int .u64 s.rng.low.cats,.int .i64 s.rng.high.ak,.int .u64 s.rng.high.cats,.int .i64 0,.int .i64 0,.int .i64 0,.int .i64 0,.int .u64 0,.int .i64 0,.int .u64 0])<|an (fun _=>bd (by kernel_rfl))<|cl<|an (fun _=>JB f s UN y.expr _ _ (AY.keep M5.below) (hH y iK)) fun w7 M7=>an (fun h2=>?_) fun h2=>?_
  ·exact lb 0<|an rfl<|ei<|an rfl<|an (by omega)<|bk (m+1) ⟨by dsimp only;rw[hn,hF _ h2];rfl,rfl,trivial⟩ (fun M=>⟨M.only (.cons _ (.refl _)) (.refl _),by omega⟩) (by dsimp only;omega)
  ·exact an (by omega)<|bk (m+1) ⟨by dsimp only;rw[hn,hF _ h2];rfl,rfl,trivial⟩ (fun M=>⟨M.only (.cons _ (.refl _)) (.refl _),by omega⟩) (by dsimp only;omega)
 ·obtain rfl:m=p.cons.length:=by simp at h;omega
  rw[show xq p f s cls=(p.cons.take p.cons.length).foldl (vv f s cls) 0 by rw[List.take_length];rfl];exact fun M'=>⟨rfl,M.below⟩
def vo:ByteArray:=⟨#[112,114,111,99,101,115,115]⟩
def nQ:ByteArray:=⟨#[116,114,97,110,115,105,116,105,111,110]⟩
def Ag:ByteArray:=⟨#[100,121,110,116,114,97,110,115,105,116,105,111,110]⟩
theorem zS(l:List ByteArray)(s:ByteArray):∀ f i,i+f≤32→0≤(sK l s f i).1∧(sK l s f i).1≤32
 | 0,_,_=>⟨show(0:Int)≤0 by decide,show(0:Int)≤32 by decide⟩
 | f+1,i,h=>by
  rw[sK];split
  ·split
   ·exact⟨show(0:Int)≤(i:Int) by omega,show(i:Int)≤32 by omega⟩
   ·exact zS l s f (i+1) (by omega)
  ·exact⟨show(0:Int)≤0 by decide,show(0:Int)≤32 by decide⟩
theorem yc(p:aD)(cls:Int)(s:ByteArray):0≤(mo p cls s).1∧(mo p cls s).1≤32:=by
 unfold mo;split
 ·exact⟨show(0:Int)≤0 by decide,show(0:Int)≤32 by decide⟩
 ·cases p.classes[cls.toNat]? with
  | none=>exact⟨show(0:Int)≤0 by decide,show(0:Int)≤32 by decide⟩
  | some c=>exact zS c.perms s 32 0 (by decide)
def vH(p:aD)(cls:Int)(v:Int)(s:ByteArray):Int:=if (mo p cls s).2=true then bits .or .u32 v (IntKind.u32.wrap (1*2^((mo p cls s).1).toNat)) else v
def CC(p:aD)(f s:eG)(cls:Int)(y:gi):Int:=if (!y.name.toList == vo.toList||wV p f.role s.role)=true then 0 else vH p cls (vH p cls 0 nQ) Ag
theorem NJ(w0:World)(c0 c1 c2 c3 c4 c5 c6 c7 c8 c9 c10 c11 c12 c13 c14 c15 c16:Value)(p:aD)(hp:aA w0 c0 c1 c2 c3 c4 c5 c6 c7 c8 c9 c10 c11 c12 c13 c14 c15 c16 p)(hok:p.Ok)(f s:eG)(cls:Nat)(y:gi)(hy:p.classes[cls]?=some y):Calls Tryz.prog 66 #[.agg #[c0,c1,c2,c3,c4,c5,c6,c7,c8,c9,c10,c11,c12,c13,c14,c15,c16],.agg #[.int .i64 f.user,.int .i64 f.role,.int .i64 f.typ,.int .i64 f.rng.low.ak,.int .u64 f.rng.low.cats,.int .i64 f.rng.high.ak,.int .u64 f.rng.high.cats],.agg #[.int .i64 s.user,.int .i64 s.role,.int .i64 s.typ,.int .i64 s.rng.low.ak,.int .u64 s.rng.low.cats,.int .i64 s.rng.high.ak,.int .u64 s.rng.high.cats],.int .i64 (cls:Int)] w0 (fun(e:Ending) (w':World)=>e=.returned (.int .u32 (CC p f s cls y))∧amc w0.heap.size w0 w'):=by
 have vT:=hp;have hlt:=(List.getElem?_eq_some_iff.1 hy).1;obtain⟨_,_,_,_,_,_,_,_,_,_,_,_,_,_,_,_,_,_,_,_,_,_,_,_,_,_,_,_,_,_,_,_,_,_,rfl,rfl,rfl,rfl,rfl,rfl,rfl,rfl,rfl,rfl,rfl,rfl,rfl,rfl,rfl,rfl,rfl⟩:=hp.open;obtain⟨b1,o1,_,e1,⟨pv,rfl,Uk⟩,hc⟩:=aj.elt vT.classes (by decide) hy;obtain⟨_,_,rfl,-,hmp,-⟩:=aN.open Uk;refine bM [] (fn:=Tryz.f66) Tryz.func66 rfl Tryz.ntmps66 rfl<|fun g1 w1 M1=>fun g2 w2 M2=>fun g3 w3 M3=>lb 2<|an rfl<|ia<|an ⟨e1,rfl,hlt⟩<|lc (x:=.string y.name)<|an (bZ M3.below hc 0 _ rfl)<|ei (x:=.bool (!(y.name.toList == vo.toList)))<|an (fun a w o ho hv=>QZ ho (aY hv) (cC hv))<|lb 2<|an (fun _=>rfl)<|lb 1<|an (fun _=>rfl)<|lb 0<|an (fun _=>rfl)<|cl<|an (fun _=>Iq _ _ _ _ _ _ _ _ _ _ _ _ _ _ _ _ _ _ p (vT.keep M3.below) hok f.role s.role) fun w4 M4=>an (fun h M=>⟨?_,M.below⟩) fun h=>?_
 ·have h:(!y.name.toList == vo.toList||wV p f.role s.role)=true:=h;unfold CC;rw[if_pos h];rfl
 have hh:¬ (!y.name.toList == vo.toList||wV p f.role s.role)=true:=by
  have h3:(!y.name.toList == vo.toList||wV p f.role s.role)=false:=h;rw[h3];decide
 unfold CC;rw[if_neg hh];clear h hh;have hP:=fun w' (hb:amc w0.heap.size w0 w') k=>IV w' _ _ _ _ _ _ _ _ _ _ _ _ _ _ _ _ _ p (vT.keep hb) (cls:Int) k
 refine fun g4 w5 M5=>lr (ι:=Nat×Int) (fun(m,v)=>[(9,.int .u32 v),(11,.int .i64 (m:Int))]) (fun(m,v) _=>m≤2∧(m=0→v=0)∧(m=1→v=vH p cls 0 nQ)∧(m=2→v=vH p cls (vH p cls 0 nQ) Ag)) (fun(m,v)=>2-m) (0,0) (an ⟨⟨rfl,rfl,trivial⟩,fun M=>⟨M,amd _,(fun _=>rfl),(fun h=>by cases h),fun h=>by cases h⟩⟩ ?_)
 rintro⟨m,v⟩ w M ⟨hm,h0,h1,h2⟩;refine an (fun h3=>?_) fun h3=>?_
 ·have yD:m<2:=by simp at h3;omega
  obtain rfl|rfl:m=0∨m=1:=by omega
  ·obtain rfl:=h0 rfl;have hr:=yc p (cls:Int) nQ;have hF:∀ b,(mo p (cls:Int) nQ).2=b→vH p cls 0 nQ=if b=true then bits .or .u32 0 (IntKind.u32.wrap (1*2^((mo p cls nQ).1).toNat)) else 0:=fun b hb=>by unfold vH;rw[hb]
   refine dr (by kernel_rfl)<|lb 3<|an rfl<|ia (i:=0)<|an ⟨rfl,rfl,by decide⟩<|lb 0<|an rfl<|cl<|an (fun w' hb' M'=>hP w' M'.below nQ)<|fun w6 zx M6=>an (fun h4=>?_) fun h4=>?_
   ·exact ei<|an (fun a w o ho hv=>DL ho (aY hv) (cC hv) hr.1 hr.2)<|ei<|an rfl<|an (by omega)<|bk (1,vH p cls 0 nQ) ⟨by rw[hF _ h4];rfl,rfl,trivial⟩ (fun M=>⟨M,by omega,(fun h=>by cases h),(fun _=>rfl),fun h=>by cases h⟩) (by dsimp only;omega)
   ·exact an (by omega)<|bk (1,vH p cls 0 nQ) ⟨by rw[hF _ h4];rfl,rfl,trivial⟩ (fun M=>⟨M,by omega,(fun h=>by cases h),(fun _=>rfl),fun h=>by cases h⟩) (by dsimp only;omega)
  ·obtain rfl:=h1 rfl;have hr:=yc p (cls:Int) Ag;have hF:∀ b,(mo p (cls:Int) Ag).2=b→vH p cls (vH p cls 0 nQ) Ag=if b=true then bits .or .u32 (vH p cls 0 nQ) (IntKind.u32.wrap (1*2^((mo p cls Ag).1).toNat)) else vH p cls 0 nQ:=fun b hb=>by rw[show ∀ v,vH p cls v Ag=if (mo p cls Ag).2=true then bits .or .u32 v (IntKind.u32.wrap (1*2^((mo p cls Ag).1).toNat)) else v from fun _=>rfl,hb]
   generalize vH p (cls:Int) 0 nQ=v at *;refine dr (by kernel_rfl)<|lb 3<|an rfl<|ia (i:=1)<|an ⟨rfl,rfl,by decide⟩<|lb 0<|an rfl<|cl<|an (fun w' hb' M'=>hP w' M'.below Ag)<|fun w6 zx M6=>an (fun h4=>?_) fun h4=>?_
   ·exact ei<|an (fun a w o ho hv=>DL ho (aY hv) (cC hv) hr.1 hr.2)<|ei<|an rfl<|an (by omega)<|bk (2,vH p cls v Ag) ⟨by rw[hF _ h4];rfl,rfl,trivial⟩ (fun M=>⟨M,by omega,(fun h=>by cases h),(fun h=>by cases h),fun _=>rfl⟩) (by dsimp only;omega)
   ·exact an (by omega)<|bk (2,vH p cls v Ag) ⟨by rw[hF _ h4];rfl,rfl,trivial⟩ (fun M=>⟨M,by omega,(fun h=>by cases h),(fun h=>by cases h),fun _=>rfl⟩) (by dsimp only;omega)
 ·obtain rfl:m=2:=by simp at h3;omega
  obtain rfl:=h2 rfl;exact fun M'=>⟨rfl,M.below⟩
theorem FM{p:aD}{x:eG}(h:ny p x=true):0≤x.typ∧x.typ<p.types.length:=by
 unfold ny at h;split at h
 ·cases h
 rename_i h2;simp only[Bool.or_eq_true,decide_eq_true_eq] at h2;omega
def z8(p:aD)(st:List Bool)(s t:eG)(cls:Int):Int×Int×Int×Bool:=
 if (((decide (cls<0)||decide ((p.classes.length:Int)≤cls))||!ny p s)||!ny p t)=true then (0,0,0,false)
 else match p.classes[cls.toNat]?,p.types[s.typ.toNat]? with
  | some y,some z=>(bits .andNot .u32 (bits .andNot .u32 (rK p st 1 s t cls) (xq p s t cls)) (CC p s t cls y),rK p st 2 s t cls,bits .andNot .u32 (Cl (min y.perms.length 32)) (rK p st 3 s t cls),z.perm)
  | _,_=>(0,0,0,false)
theorem DU(w0:World)(c0 c1 c2 c3 c4 c5 c6 c7 c8 c9 c10 c11 c12 c13 c14 c15 c16:Value)(p:aD)(hp:aA w0 c0 c1 c2 c3 c4 c5 c6 c7 c8 c9 c10 c11 c12 c13 c14 c15 c16 p)(hok:p.Ok)(XA:∀ r∈p.rules,-1000000≤r.cond∧r.cond≤1000000)(hH:∀ c∈p.cons,Ah c.expr)(v:Value)(st:List Bool)(hL:yX w0 v st)(s t:eG)(hs:s.Ok)(ht:t.Ok)(cls:Int):Calls Tryz.prog 24 #[.agg #[c0,c1,c2,c3,c4,c5,c6,c7,c8,c9,c10,c11,c12,c13,c14,c15,c16],v,.agg #[.int .i64 s.user,.int .i64 s.role,.int .i64 s.typ,.int .i64 s.rng.low.ak,.int .u64 s.rng.low.cats,.int .i64 s.rng.high.ak,.int .u64 s.rng.high.cats],.agg #[.int .i64 t.user,.int .i64 t.role,.int .i64 t.typ,.int .i64 t.rng.low.ak,.int .u64 t.rng.low.cats,.int .i64 t.rng.high.ak,.int .u64 t.rng.high.cats],.int .i64 cls] w0 (fun(e:Ending) (w':World)=>e=.returned (.agg #[.int .u32 (z8 p st s t cls).1,.int .u32 (z8 p st s t cls).2.1,.int .u32 (z8 p st s t cls).2.2.1,.bool (z8 p st s t cls).2.2.2,.int .i64 0])∧amc w0.heap.size w0 w'):=by
 have vT:=hp;obtain⟨_,_,_,_,_,_,_,_,_,_,_,_,_,_,_,_,_,_,_,_,_,_,_,_,_,_,_,_,_,_,_,_,_,_,rfl,rfl,rfl,rfl,rfl,rfl,rfl,rfl,rfl,rfl,rfl,rfl,rfl,rfl,rfl,rfl,rfl⟩:=hp.open;refine bM [] (fn:=Tryz.f24) Tryz.func24 rfl Tryz.ntmps24 rfl<|fun g1 w1 M1=>fun g2 w2 M2=>fun g3 w3 M3=>ei<|an aaV fun g4 w4 M4=>lb 3<|an (fun _=>rfl)<|lb 3<|an (fun _=>rfl)<|lb 2<|an (fun _=>rfl)<|cl<|an (fun _=>zK _ _ _ _ _ _ _ _ _ _ _ _ _ _ _ _ _ _ p (vT.keep M4.below) hok s hs) fun w5 M5=>lb 3<|an (fun _=>rfl)<|lb 1<|an (fun _=>rfl)<|cl<|an (fun _=>zK _ _ _ _ _ _ _ _ _ _ _ _ _ _ _ _ _ _ p (vT.keep M5.below) hok t ht) fun w6 M6=>an (fun h=>?_) fun h=>?_
 ·have h:(((decide (cls<0)||decide ((p.classes.length:Int)≤cls))||!ny p s)||!ny p t)=true:=h;have he:z8 p st s t cls=(0,0,0,false):=by unfold z8;rw[if_pos h]
  rw[he];exact ei (x:=.agg #[.int .u32 0,.int .u32 0,.int .u32 0,.bool false,.int .i64 0])<|an (bd (by kernel_rfl))<|lb 0<|an ⟨rfl,rfl⟩ fun w7 M7=>ei (x:=0)<|an rfl fun M=>⟨rfl,M.below⟩
 have h:(((decide (cls<0)||decide ((p.classes.length:Int)≤cls))||!ny p s)||!ny p t)=false:=h;have hh:=h;simp only[Bool.or_eq_false_iff,decide_eq_false_iff_not,Bool.not_eq_false'] at hh;obtain⟨⟨⟨k1,k2⟩,k3⟩,-⟩:=hh;have kt:=FM k3;obtain⟨cn,rfl⟩:∃ cn:Nat,cls=(cn:Int):=⟨cls.toNat,by omega⟩;obtain⟨y,hy⟩:∃ y,p.classes[cn]?=some y:=⟨_,amf (by omega)⟩;obtain⟨z,hz⟩:∃ z,p.types[s.typ.toNat]?=some z:=⟨_,amf (by omega)⟩;obtain⟨b1,o1,_,e1,⟨pv,rfl,-⟩,hc⟩:=aj.elt vT.types (by decide) hz
 have he:z8 p st s t (cn:Int)=(bits .andNot .u32 (bits .andNot .u32 (rK p st 1 s t cn) (xq p s t cn)) (CC p s t cn y),rK p st 2 s t cn,bits .andNot .u32 (Cl (min y.perms.length 32)) (rK p st 3 s t cn),z.perm):=by
  unfold z8;rw[if_neg (by rw[h];decide),Int.toNat_natCast,hy,hz]
 rw[he];have hV:=fun w' (hb:amc w0.heap.size w0 w') k=>L7 w' _ _ _ _ _ _ _ _ _ _ _ _ _ _ _ _ _ p (vT.keep hb) hok XA v st (hL.keep hb) k s t (cn:Int)
 refine dr (by kernel_rfl)<|lb 3<|an rfl<|lb 2<|an rfl<|lb 1<|an rfl<|cl<|an (fun w' hb' M'=>hV w' M'.below 1)<|lb 3<|an rfl<|lb 2<|an rfl<|lb 1<|an rfl<|cl<|an (fun w' hb' M'=>JM w' _ _ _ _ _ _ _ _ _ _ _ _ _ _ _ _ _ p (vT.keep M'.below) hH s t (cn:Int))<|ei (x:=bits .andNot .u32 (rK p st 1 s t cn) (xq p s t cn))<|an rfl<|lb 3<|an rfl<|lb 2<|an rfl<|lb 1<|an rfl<|cl<|an (fun w' hb' M'=>NJ w' _ _ _ _ _ _ _ _ _ _ _ _ _ _ _ _ _ p (vT.keep M'.below) hok s t cn y hy)<|ei (x:=bits .andNot .u32 (bits .andNot .u32 (rK p st 1 s t cn) (xq p s t cn)) (CC p s t cn y))<|an rfl<|lb 3<|an rfl<|lb 2<|an rfl<|lb 1<|an rfl<|cl<|an (fun w' hb' M'=>hV w' M'.below 2)<|lb 3<|an rfl<|cl<|an (fun w' hb' M'=>JK w' _ _ _ _ _ _ _ _ _ _ _ _ _ _ _ _ _ p (vT.keep M'.below) cn y hy)<|lb 3<|an rfl<|lb 2<|an rfl<|lb 1<|an rfl<|cl<|an (fun w' hb' M'=>hV w' M'.below 3)<|ei (x:=bits .andNot .u32 (Cl (min y.perms.length 32)) (rK p st 3 s t cn))<|an rfl<|lb 3<|an rfl<|lb 2<|an rfl<|ia (i:=s.typ.toNat)<|an ⟨e1,by omega,by omega⟩<|lc (x:=.bool z.perm)<|an (bZ M6.below hc 2 _ rfl)<|ei (x:=.agg #[.int .u32 (bits .andNot .u32 (bits .andNot .u32 (rK p st 1 s t cn) (xq p s t cn)) (CC p s t cn y)),.int .u32 (rK p st 2 s t cn),.int .u32 (bits .andNot .u32 (Cl (min y.perms.length 32)) (rK p st 3 s t cn)),.bool z.perm,.int .i64 0])<|an (bd (by kernel_rfl))<|fun w7 RE M7=>lb 0<|an ⟨rfl,rfl⟩ fun w8 M8=>ei (x:=0)<|an rfl fun M=>⟨rfl,M.below⟩
theorem Kc{p:aD}(h:aZ p=0):gP p=0:=by
 unfold aZ at h;split at h
 case isFalse hne=>exact absurd h hne
 rename_i h0;rw[rT] at h;exact h (gP p) (by simp)
theorem Ke{p:aD}(h:aZ p=0):∀ r∈p.rules,-1000000≤r.cond∧r.cond≤1000000:=fun r hr=>by
 unfold aZ at h;split at h
 case isFalse hne=>exact absurd h hne
 rename_i h0;rw[rT] at h;have CY:=h (cP p) (by simp);unfold cP at CY;split at CY
 ·cases CY
 rename_i nD;split at CY
 case isFalse hne=>exact absurd CY hne
 split at CY
 ·cases CY
 have CY:=gO (l:=p.rules) (g:=fun _ r=>o_ p.types.length p.conds.length p.classes r) (fun i x hi=>by unfold iB;rw[hi]) (k:=0) CY;obtain⟨i,hi⟩:=List.getElem?_of_mem hr;have k:=CY i r (amd _) hi;unfold o_ at k;split at k
 ·cases k
 split at k
 ·cases k
 split at k
 ·cases k
 rename_i k1 k2 k3;unfold oO at k3;rw[Bool.not_eq_true,Bool.or_eq_false_iff,Bool.or_eq_false_iff,Bool.or_eq_false_iff,Bool.not_eq_false',Bool.not_eq_false',Bool.not_eq_false',Bool.not_eq_false'] at k3;obtain⟨⟨⟨-,-⟩,kv⟩,kc⟩:=k3;unfold lX at kc;rw[ame,decide_eq_true_eq,decide_eq_true_eq] at kc;omega
theorem U7(x0 x1 x2 x4:Int)(x3:Bool)(w:World):(Op.equalIn 10000 70 (.agg #[.int .u32 x0,.int .u32 x1,.int .u32 x2,.bool x3,.int .i64 x4]) (.agg #[.int .u32 x0,.int .u32 x1,.int .u32 x2,.bool x3,.int .i64 x4])).run Tryz.prog w=.ok true w:=by
 rw[show(10000:Nat)=9998+2 from rfl,Zo];simp
theorem Hh(w0:World)(c0 c1 c2 c3 c4 c5 c6 c7 c8 c9 c10 c11 c12 c13 c14 c15 c16:Value)(p:aD)(hp:aA w0 c0 c1 c2 c3 c4 c5 c6 c7 c8 c9 c10 c11 c12 c13 c14 c15 c16 p)(hok:p.Ok)(v:Value)(st:List Bool)(hL:yX w0 v st)(s t:eG)(hs:s.Ok)(ht:t.Ok):Calls Tryz.prog 9 #[.agg #[c0,c1,c2,c3,c4,c5,c6,c7,c8,c9,c10,c11,c12,c13,c14,c15,c16],v,.agg #[.int .i64 s.user,.int .i64 s.role,.int .i64 s.typ,.int .i64 s.rng.low.ak,.int .u64 s.rng.low.cats,.int .i64 s.rng.high.ak,.int .u64 s.rng.high.cats,.int .i64 t.user,.int .i64 t.role,.int .i64 t.typ,.int .i64 t.rng.low.ak,.int .u64 t.rng.low.cats,.int .i64 t.rng.high.ak,.int .u64 t.rng.high.cats]] w0 (fun r w'=>r=.returned (.bool true)∧amc w0.heap.size w0 w'):=by
 have hp':=hp;have hL':=hL;obtain⟨sa,sc,rfl,-,-,-⟩:=SliceAt.form hL' (by decide);obtain⟨a0,a1,a2,a3,a4,a5,a6,a7,a8,a9,rF,rE,a12,rD,rC,rB,rA,k0,k1,k2,k3,k4,k5,k6,k7,k8,k9,k10,k11,k12,k13,k14,k15,k16,rfl,rfl,rfl,rfl,rfl,rfl,rfl,rfl,rfl,rfl,rfl,rfl,rfl,rfl,rfl,rfl,rfl⟩:=hp.open;refine bM [] (fn:=Tryz.f9) Tryz.func9 rfl Tryz.ntmps9 rfl<|fun g1 w1 M1=>fun g2 w2 M2=>lb 1<|an rfl<|cg<|an (ld w2 _ _ _ _ _ _ _ _ _ _ _ _ _ _ _ _ _ p (hp'.keep M2.below) hok) ?_
 rintro _ w3 ⟨b,rfl,pR,fL⟩;have M3:=M2.keep fL;refine⟨_,_,M3,?_⟩
 cases b with
 | false=>exact lb 1<|an (fun _=>rfl)<|cl (v:=.int .i64 0)<|an (fun hg=>absurd hg (by simp)) fun w4 M4=>an (fun h=>cl<|an (dW _) fun w5 M5=>fun M=>⟨rfl,M.below⟩) fun h=>absurd h (by simp)
 | true=>
  have hS:=pR rfl;refine lb 1<|an (fun _=>rfl)<|cl<|an (fun hg=>tu _ _ _ _ _ _ _ _ _ _ _ _ _ _ _ _ _ _ p (hp'.keep M3.below) hok hS.few) fun w4 M4=>an (fun h=>cl<|an (dW _) fun w5 M5=>fun M=>⟨rfl,M.below⟩) fun h=>?_
  have yE:aZ p=0:=by
   simp at h;exact h.2
  obtain⟨XC,hlen⟩:=tP hS hok yE;have hle:cr p≤3:=by unfold cr;split<;>(try split)<;>omega
  have hl1:1≤cr p:=by unfold cr;split<;>(try split)<;>omega
  have hR:=XC.at (Nat.le_refl (cr p))
  have he:gb aZ p (cr p:Int)=.ok (eP (dM (cr p) p)):=by
   unfold gb;rw[if_pos (by omega),if_pos yE,if_neg (by omega)];simp
  have NX:=uZ (kR (cr p) p);have Wh:=tR hle (hlen (cr p));obtain⟨EU,-⟩:=Io hl1 hle hR yE;have QB:=vS w4 _ _ _ _ _ _ _ _ _ _ _ _ _ _ _ _ _ p (hp'.keep M4.below) hok hS.md;rw[if_pos yE,yE] at QB;refine lb 1<|an rfl<|cl<|an QB fun w5 M5=>lb 1<|an rfl<|cg<|an (zB (hp'.keep M5.below) hok hS (by unfold gA;omega) he) ?_
  rintro _ w6 ⟨⟨ua,uc,rfl,ho⟩,zx⟩;have M6:=M5.sj (r:=bf _ (eP (dM (cr p) p))) zx ho;refine⟨_,_,M6,cg<|an (E8 (dV (M6.r 0 rfl) NX) Wh (Cy hl1 hle hR hok hS.md (by have:=hlen (cr p);omega)) EU) ?_⟩;rintro _ w7 ⟨⟨c0,c1,c2,c3,c4,c5,c6,c7,c8,c9,c10,c11,c12,c13,c14,c15,c16,T,rfl,hT,oF⟩,RE⟩;have M7:=M6.vV RE hT;have hpc:=oF _ _ hT;obtain⟨_,_,_,_,_,_,_,_,_,_,_,_,_,_,_,_,_,_,_,_,_,_,_,_,_,_,_,_,_,_,_,_,_,_,rfl,rfl,rfl,rfl,rfl,rfl,rfl,rfl,rfl,rfl,rfl,rfl,rfl,rfl,rfl,rfl,rfl⟩:=hpc.open;have XA:=Ke yE;have hH:=NG (Kc yE) hok;have hcl:=hS.sizes.classes;refine⟨_,_,M7,ei<|an Ac fun g3 w8 M8=>lb 0<|an ⟨rfl,rfl⟩ fun w9 M9=>an (fun h=>absurd h (by simp)) fun h=>lr (ι:=Nat) (fun z=>[(14,.int .i64 ((z:Int)-1))]) (fun z _=>z≤p.classes.length+2) (fun z=>p.classes.length+2-z) 0<|an ⟨⟨rfl,trivial⟩,fun M=>⟨M,amd _⟩⟩ ?_⟩;intro z pT j3 hz;refine lb 2<|an rfl<|an (fun h=>?_) fun h=>cl<|an (dW _) fun yY M11=>fun M=>⟨rfl,M.below⟩
  have hz2:z≤p.classes.length+1:=by have:=of_decide_eq_true h;omega
  exact dr (by kernel_rfl)<|lb 2<|an rfl<|ei (x:=0)<|an ⟨rfl,by decide⟩<|lb 1<|an rfl<|ei (x:=1)<|an ⟨rfl,by decide⟩<|lb 1<|an rfl<|cl<|an (fun w' hb' M'=>DU w' _ _ _ _ _ _ _ _ _ _ _ _ _ _ _ _ _ p (hp'.keep M'.below) hok XA hH _ st (hL.keep M'.below) s t hs ht _)<|lb 0<|an rfl<|ei (x:=0)<|an ⟨rfl,by decide⟩<|lb 1<|an rfl<|ei (x:=1)<|an ⟨rfl,by decide⟩<|lb 1<|an rfl<|cl<|an (fun w' hb' M'=>DU w' _ _ _ _ _ _ _ _ _ _ _ _ _ _ _ _ _ p (oF _ _ M'.pU.right) hok XA hH _ st (hL.keep M'.below) s t hs ht _)<|ei (x:=true)<|an ⟨adv,fun w=>U7 _ _ _ _ _ w⟩<|fun yY Nu M11=>an (fun h=>absurd h (by simp)) fun h=>an (by omega)<|bk (z+1) ⟨congrArg (fun q=>some (Value.int .i64 q)) (show(z:Int)-1+1=((z+1:Nat):Int)-1 by omega),trivial⟩ (fun M=>⟨M,by omega⟩) (show p.classes.length+2-(z+1)<p.classes.length+2-z by omega)
end Go.Proofs.YtkkmjdceiocnbaaGreatDoor

import Derived.Ground.Names2Prog
import Derived.Shelf.Slices.CompactS
import Derived.Shelf.Slices.In.SortNone
import Derived.Shelf.Sort.Plain
import Derived.Sort.OwnSorted
import Derived.Test.YtdcofoaihmongaaGreatS4
open Bool renaming and_eq_true→avc
open Go renaming wp_seq_k→avq,wpList_nil→avr,wp_cond_split→avt
open Go.RowKit renaming Below→avd
open Int renaming toNat_of_nonneg→avu
open List renaming getElem?_eq_getElem→avf,getElem?_map→avg,mem_of_getElem?→avh,mem_cons_self→avi,mem_cons_of_mem→avj,length_map→avk,mem_append→avm,mem_singleton→avn,length_append→avo,mem_map→avp,getElem?_eq_some_iff→avs,take_length→avv,flatMap_append→avw
open Nat renaming zero_le→ave,le_trans→avl
set_option maxRecDepth 100000
set_option maxHeartbeats 8000000
namespace Go.Proofs.YtdcofoaihmongaaGreat
open Go Go.RowKit
def mX(p q:aC):Bool:=(((((aA eU p.conds q.conds&&decide (p.rules=q.rules))&&decide (p.trans=q.trans))&&decide (p.aN=q.aN))&&decide (p.ranges=q.ranges))&&aA sw p.cons q.cons)
theorem EZ{p q:aC}(h:mX p q=true):p.conds.length=q.conds.length∧p.rules=q.rules∧p.trans=q.trans∧p.aN=q.aN∧p.ranges=q.ranges∧p.cons.length=q.cons.length:=by
 unfold mX at h;simp only[avc,decide_eq_true_eq]at h;obtain⟨⟨⟨⟨⟨h1,h2⟩,h3⟩,h4⟩,h5⟩,h6⟩:=h;exact⟨z6 h1,h2,h3,h4,h5,z6 h6⟩
theorem yZ(w0:World)(c0 c1 c2 c3 c4 c5 c6 c7 c8 c9 aV aP aO aU aT aS aR d0 d1 d2 d3 d4 d5 d6 d7 d8 d9 Ch Cg Ce Cd Cc Cb Ca:Value)(p q:aC)(hp:aM w0 c0 c1 c2 c3 c4 c5 c6 c7 c8 c9 aV aP aO aU aT aS aR p)(hq:aM w0 d0 d1 d2 d3 d4 d5 d6 d7 d8 d9 Ch Cg Ce Cd Cc Cb Ca q):Calls Tryz.prog 68 #[.agg #[c0,c1,c2,c3,c4,c5,c6,c7,c8,c9,aV,aP,aO,aU,aT,aS,aR],.agg #[d0,d1,d2,d3,d4,d5,d6,d7,d8,d9,Ch,Cg,Ce,Cd,Cc,Cb,Ca]] w0 fun r w'=>r=.returned (.bool (mX p q))∧avd w0.heap.size w0 w':=by
 obtain⟨la8,lk8,rfl,-,hm8,hc8⟩:=au.form hp.conds (by decide);obtain⟨ma8,mk8,rfl,-,-,hd8⟩:=au.form hq.conds (by decide);obtain⟨XZ,Uy,rfl,-,hm9,-⟩:=SliceAt.form hp.rules (by decide);obtain⟨ma9,mk9,rfl,-⟩:=SliceAt.form hq.rules (by decide);obtain⟨QT,QK,rfl,-,aeA,-⟩:=SliceAt.form hp.trans (by decide);obtain⟨anc,am6,rfl,-⟩:=SliceAt.form hq.trans (by decide);obtain⟨anv,anl,rfl,-,aoj,-⟩:=SliceAt.form hp.aN (by decide);obtain⟨anb,am5,rfl,-⟩:=SliceAt.form hq.aN (by decide);obtain⟨anu,ank,rfl,-,aoi,-⟩:=SliceAt.form hp.ranges (by decide);obtain⟨ana,am4,rfl,-⟩:=SliceAt.form hq.ranges (by decide);obtain⟨ant,anj,rfl,-,ahX,aic⟩:=au.form hp.cons (by decide);obtain⟨am_,am3,rfl,-,-,ah6⟩:=au.form hq.cons (by decide);have no:mX p q=false→Ending.returned (mE [Value.bool false])=.returned (.bool (mX p q)):=fun h=>by rw[h];rfl
 refine cL [] (fn:=Tryz.f68) Tryz.func68 rfl Tryz.ntmps68 rfl fun g1 w1 M1=>fun g2 w2 M2=>lb 1<|an rfl<|lb 0<|an rfl<|lb 1<|an (fun _=>rfl)<|lb 0<|an (fun _=>rfl)<|lb 1<|an (fun _=>rfl)<|lb 0<|an (fun _=>rfl)<|lb 1<|an (fun _=>rfl)<|lb 0<|an (fun _=>rfl)<|lb 1<|an (fun _=>rfl)<|lb 0<|an (fun _=>rfl)<|lb 1<|an (fun _=>rfl)<|lb 0<|an (fun _=>rfl)<|an (fun h M=>⟨no ?_,M.below⟩) fun h=>?_
 ·cases hs:mX p q with
  | false=>rfl
  | true=>
   obtain⟨a1,a2,a3,a4,a5,a6⟩:=EZ hs;simp[a1,a2,a3,a4,a5,a6]at h
 simp only[Bool.or_eq_false_iff,Bool.not_eq_false',decide_eq_true_eq]at h;obtain⟨⟨⟨⟨⟨Vt,Vq⟩,Vp⟩,Rb⟩,Rc⟩,Yo⟩:=h;have Vb:p.conds.length=q.conds.length:=by have:=Vt;omega
 have Jt:p.rules.length=q.rules.length:=by have:=Vq;omega
 have Js:p.trans.length=q.trans.length:=by have:=Vp;omega
 have D6:p.aN.length=q.aN.length:=by have:=Rb;omega
 have D7:p.ranges.length=q.ranges.length:=by have:=Rc;omega
 have Yd:p.cons.length=q.cons.length:=by have:=Yo;omega
 refine lr (ι:=Nat) (fun m=>[(5,.bool (true&&aA eU (p.conds.take m) (q.conds.take m))),(6,.int .i64 (m:Int))]) (fun m _=>m≤p.conds.length) (fun m=>p.conds.length-m) 0 (an ⟨⟨eC (by rw[eZ];rfl),rfl,trivial⟩,fun M=>⟨M,ave _⟩⟩ ?_);intro m w M hm;refine lb 1<|an rfl<|an (fun h=>?_) fun h=>?_
 ·simp only[decide_eq_true_eq]at h;obtain⟨x,hx⟩:∃ x,p.conds[m]?=some x:=⟨_,avf (by omega)⟩;obtain⟨y,hy⟩:∃ y,q.conds[m]?=some y:=⟨_,avf (by omega)⟩;obtain⟨b,o,z,e1,hz,-,hc⟩:=hc8 m x hx;obtain⟨b',o',z',e2,hz',-,hc'⟩:=hd8 m y hy;obtain⟨IY,UG,rfl,-⟩:=hz.open;obtain⟨Uh,kv2,rfl,-⟩:=hz'.open;refine dr (by kernel_rfl)<|lb 1<|an (fun _=>rfl)<|ia<|an (fun _=>⟨e1,rfl,by omega⟩)<|lc<|an (fun _=>cF M.below hc)<|lb 0<|an (fun _=>rfl)<|ia<|an (fun _=>⟨e2,rfl,by omega⟩)<|lc<|an (fun _=>cF M.below hc')<|cl<|an (fun _ w' hb' M'=>qg x _ _ _ y (bf.keep M'.below hz) (bf.keep M'.below hz')) fun w2 hb M=>an (by omega) (bk (m+1) ⟨eC (by rw[fq hx hy];simp),rfl,trivial⟩ (fun M=>⟨M,by omega⟩) (by dsimp only;omega))
 simp only[decide_eq_false_iff_not]at h;obtain rfl:m=p.conds.length:=by omega
 refine lr (ι:=Nat) (fun m=>[(5,.bool ((true&&aA eU p.conds q.conds)&&aA (fun x y=>decide (x=y)) (p.rules.take m) (q.rules.take m))),(7,.int .i64 (m:Int))]) (fun m _=>m≤p.rules.length) (fun m=>p.rules.length-m) 0 (an ⟨⟨eC (by rw[fu Vb,eZ,Bool.and_true]),rfl,trivial⟩,fun M=>⟨M,ave _⟩⟩ ?_);intro m w M hm;refine lb 1<|an rfl<|an (fun h=>?_) fun h=>?_
 ·simp only[decide_eq_true_eq]at h;obtain⟨x,y,b,o,b',o',hx,hy,⟨e1,hc⟩,e2,hc'⟩:=dU (f:=aj.cells) (fun _=>rfl) (by decide) hp.rules hq.rules rfl rfl (m:=m) (by omega) Jt M.below;refine dr (by kernel_rfl)<|lb 1<|an (fun _=>rfl)<|ia<|an (fun _=>⟨e1,rfl,by omega⟩)<|lc<|an (fun _=>hc)<|lb 0<|an (fun _=>rfl)<|ia<|an (fun _=>⟨e2,rfl,by omega⟩)<|lc<|an (fun _=>hc')<|ei<|an (fun _=>⟨ace,fun w=>VN x y w⟩) fun w2 hb M=>an (by omega) (bk (m+1) ⟨eC (by rw[fq hx hy,Bool.and_assoc]),rfl,trivial⟩ (fun M=>⟨M,by omega⟩) (by dsimp only;omega))
 simp only[decide_eq_false_iff_not]at h;obtain rfl:m=p.rules.length:=by omega
 refine lr (ι:=Nat) (fun m=>[(5,.bool (((true&&aA eU p.conds q.conds)&&aA (fun x y=>decide (x=y)) p.rules q.rules)&&aA (fun x y=>decide (x=y)) (p.trans.take m) (q.trans.take m))),(8,.int .i64 (m:Int))]) (fun m _=>m≤p.trans.length) (fun m=>p.trans.length-m) 0 (an ⟨⟨eC (by rw[fu Jt,eZ,Bool.and_true]),rfl,trivial⟩,fun M=>⟨M,ave _⟩⟩ ?_);intro m w M hm;refine lb 1<|an rfl<|an (fun h=>?_) fun h=>?_
 ·simp only[decide_eq_true_eq]at h;obtain⟨x,y,b,o,b',o',hx,hy,⟨e1,hc⟩,e2,hc'⟩:=dU (f:=bM.cells) (fun _=>rfl) (by decide) hp.trans hq.trans rfl rfl (m:=m) (by omega) Js M.below;refine dr (by kernel_rfl)<|lb 1<|an (fun _=>rfl)<|ia<|an (fun _=>⟨e1,rfl,by omega⟩)<|lc<|an (fun _=>hc)<|lb 0<|an (fun _=>rfl)<|ia<|an (fun _=>⟨e2,rfl,by omega⟩)<|lc<|an (fun _=>hc')<|ei<|an (fun _=>⟨acd,fun w=>VL x y w⟩) fun w2 hb M=>an (by omega) (bk (m+1) ⟨eC (by rw[fq hx hy,Bool.and_assoc]),rfl,trivial⟩ (fun M=>⟨M,by omega⟩) (by dsimp only;omega))
 simp only[decide_eq_false_iff_not]at h;obtain rfl:m=p.trans.length:=by omega
 refine lr (ι:=Nat) (fun m=>[(5,.bool ((((true&&aA eU p.conds q.conds)&&aA (fun x y=>decide (x=y)) p.rules q.rules)&&aA (fun x y=>decide (x=y)) p.trans q.trans)&&aA (fun x y=>decide (x=y)) (p.aN.take m) (q.aN.take m))),(9,.int .i64 (m:Int))]) (fun m _=>m≤p.aN.length) (fun m=>p.aN.length-m) 0 (an ⟨⟨eC (by rw[fu Js,eZ,Bool.and_true]),rfl,trivial⟩,fun M=>⟨M,ave _⟩⟩ ?_);intro m w M hm;refine lb 1<|an rfl<|an (fun h=>?_) fun h=>?_
 ·simp only[decide_eq_true_eq]at h;obtain⟨x,y,b,o,b',o',hx,hy,⟨e1,hc⟩,e2,hc'⟩:=dU (f:=kS.cells) (fun _=>rfl) (by decide) hp.aN hq.aN rfl rfl (m:=m) (by omega) D6 M.below;refine dr (by kernel_rfl)<|lb 1<|an (fun _=>rfl)<|ia<|an (fun _=>⟨e1,rfl,by omega⟩)<|lc<|an (fun _=>hc)<|lb 0<|an (fun _=>rfl)<|ia<|an (fun _=>⟨e2,rfl,by omega⟩)<|lc<|an (fun _=>hc')<|ei<|an (fun _=>⟨ZN,fun w=>VP x y w⟩) fun w2 hb M=>an (by omega) (bk (m+1) ⟨eC (by rw[fq hx hy,Bool.and_assoc]),rfl,trivial⟩ (fun M=>⟨M,by omega⟩) (by dsimp only;omega))
 simp only[decide_eq_false_iff_not]at h;obtain rfl:m=p.aN.length:=by omega
 refine lr (ι:=Nat) (fun m=>[(5,.bool (((((true&&aA eU p.conds q.conds)&&aA (fun x y=>decide (x=y)) p.rules q.rules)&&aA (fun x y=>decide (x=y)) p.trans q.trans)&&aA (fun x y=>decide (x=y)) p.aN q.aN)&&aA (fun x y=>decide (x=y)) (p.ranges.take m) (q.ranges.take m))),(10,.int .i64 (m:Int))]) (fun m _=>m≤p.ranges.length) (fun m=>p.ranges.length-m) 0 (an ⟨⟨eC (by rw[fu D6,eZ,Bool.and_true]),rfl,trivial⟩,fun M=>⟨M,ave _⟩⟩ ?_);intro m w M hm;refine lb 1<|an rfl<|an (fun h=>?_) fun h=>?_
 ·simp only[decide_eq_true_eq]at h;obtain⟨x,y,b,o,b',o',hx,hy,⟨e1,hc⟩,e2,hc'⟩:=dU (f:=kT.cells) (fun _=>rfl) (by decide) hp.ranges hq.ranges rfl rfl (m:=m) (by omega) D7 M.below;refine dr (by kernel_rfl)<|lb 1<|an (fun _=>rfl)<|ia<|an (fun _=>⟨e1,rfl,by omega⟩)<|lc<|an (fun _=>hc)<|lb 0<|an (fun _=>rfl)<|ia<|an (fun _=>⟨e2,rfl,by omega⟩)<|lc<|an (fun _=>hc')<|ei<|an (fun _=>⟨ZM,fun w=>VO x y w⟩) fun w2 hb M=>an (by omega) (bk (m+1) ⟨eC (by rw[fq hx hy,Bool.and_assoc]),rfl,trivial⟩ (fun M=>⟨M,by omega⟩) (by dsimp only;omega))
 simp only[decide_eq_false_iff_not]at h;obtain rfl:m=p.ranges.length:=by omega
 refine lr (ι:=Nat) (fun m=>[(5,.bool ((((((true&&aA eU p.conds q.conds)&&aA (fun x y=>decide (x=y)) p.rules q.rules)&&aA (fun x y=>decide (x=y)) p.trans q.trans)&&aA (fun x y=>decide (x=y)) p.aN q.aN)&&aA (fun x y=>decide (x=y)) p.ranges q.ranges)&&aA sw (p.cons.take m) (q.cons.take m))),(11,.int .i64 (m:Int))]) (fun m _=>m≤p.cons.length) (fun m=>p.cons.length-m) 0 (an ⟨⟨eC (by rw[fu D7,eZ,Bool.and_true]),rfl,trivial⟩,fun M=>⟨M,ave _⟩⟩ ?_);intro m w M hm;refine lb 1<|an rfl<|an (fun h=>?_) fun h=>?_
 ·simp only[decide_eq_true_eq]at h;obtain⟨x,hx⟩:∃ x,p.cons[m]?=some x:=⟨_,avf (by omega)⟩;obtain⟨y,hy⟩:∃ y,q.cons[m]?=some y:=⟨_,avf (by omega)⟩;obtain⟨b,o,z,e1,hz,-,hc⟩:=aic m x hx;obtain⟨b',o',z',e2,hz',-,hc'⟩:=ah6 m y hy;obtain⟨Ru,rfl,hz1⟩:=hz;obtain⟨es2,rfl,hz2⟩:=hz';obtain⟨IY,UG,rfl,hn1,hk1⟩:=hz1.open;obtain⟨Uh,kv2,rfl,hn2,hk2⟩:=hz2.open;obtain⟨_,_,rfl,-⟩:=hn1.get;obtain⟨_,_,rfl,-⟩:=hn2.get;obtain⟨_,_,rfl,-⟩:=hk1.form (by decide);obtain⟨_,_,rfl,-⟩:=hk2.form (by decide);refine dp (by kernel_rfl)<|lb 1<|an rfl<|ia<|an ⟨e1,rfl,by omega⟩<|lc<|an (cF M.below hc)<|lb 0<|an rfl<|ia<|an ⟨e2,rfl,by omega⟩<|lc<|an (cF M.below hc')<|ei<|ei<|an ⟨PL,PL⟩<|an ⟨rfl,rfl⟩ fun g3 g4 w2 hb2 M=>?_
  refine lb 0<|an (fun _=>rfl)<|lb 1<|an (fun _=>rfl)<|lb 0<|an (fun _=>rfl)<|lb 1<|an (fun _=>rfl)<|lb 0<|an (fun _=>rfl)<|lb 1<|an (fun _=>rfl)<|lb 0<|an (fun _=>rfl)<|lb 1<|an (fun _=>rfl)<|cl<|an (fun _=>qg x.expr _ _ _ y.expr (bf.keep M.below hz1) (bf.keep M.below hz2)) fun w3 M=>an (by omega) (bk (m+1) ⟨eC (by rw[fq hx hy];unfold sw;simp[Bool.and_assoc]),rfl,trivial⟩ (fun M=>⟨M.only (.cons _ (.cons _ (.refl _))) (.refl _),by omega⟩) (by dsimp only;omega))
 simp only[decide_eq_false_iff_not]at h;obtain rfl:m=p.cons.length:=by omega
 intro M;refine⟨?_,M.below⟩;rw[fu Yd,kA,kA,kA,kA];unfold mX;simp only[Bool.true_and,mE]
theorem nM(w0:World)(c0 c1 c2 c3 c4 c5 c6 c7 c8 c9 aV aP aO aU aT aS aR d0 d1 d2 d3 d4 d5 d6 d7 d8 d9 Ch Cg Ce Cd Cc Cb Ca:Value)(p q:aC)(hp:aM w0 c0 c1 c2 c3 c4 c5 c6 c7 c8 c9 aV aP aO aU aT aS aR p)(hq:aM w0 d0 d1 d2 d3 d4 d5 d6 d7 d8 d9 Ch Cg Ce Cd Cc Cb Ca q):Calls Tryz.prog 23 #[.agg #[c0,c1,c2,c3,c4,c5,c6,c7,c8,c9,aV,aP,aO,aU,aT,aS,aR],.agg #[d0,d1,d2,d3,d4,d5,d6,d7,d8,d9,Ch,Cg,Ce,Cd,Cc,Cb,Ca]] w0 fun r w'=>r=.returned (.bool (gM p q))∧avd w0.heap.size w0 w':=by
 obtain⟨ans,ani,rfl,-,aoh,-⟩:=SliceAt.form hp.bO (by decide);obtain⟨am9,am2,rfl,-⟩:=SliceAt.form hq.bO (by decide);obtain⟨anr,anh,rfl,-,aog,-⟩:=SliceAt.form hp.files (by decide);obtain⟨am8,am1,rfl,-⟩:=SliceAt.form hq.files (by decide);obtain⟨anq,ang,rfl,-,aof,-⟩:=SliceAt.form hp.asserts (by decide);obtain⟨am7,am0,rfl,-⟩:=SliceAt.form hq.asserts (by decide)
 have hE:gM p q=((((kq p q&&mX p q)&&decide (p.bO=q.bO))&&decide (p.files=q.files))&&decide (p.asserts=q.asserts)):=by
  unfold gM mX;simp only[Bool.and_assoc]
 have no:gM p q=false→Ending.returned (mE [Value.bool false])=.returned (.bool (gM p q)):=fun h=>by rw[h];rfl
 refine cL [] (fn:=Tryz.f23) Tryz.func23 rfl Tryz.ntmps23 rfl fun g1 w1 M1=>fun g2 w2 M2=>lb 1<|an rfl<|lb 0<|an rfl<|cl<|an (ug _ _ _ _ _ _ _ _ _ _ _ _ _ _ _ _ _ _ _ _ _ _ _ _ _ _ _ _ _ _ _ _ _ _ _ p q (hp.keep M2.below) (hq.keep M2.below)) fun w3 M3=>lb 1<|an (fun _=>rfl)<|lb 0<|an (fun _=>rfl)<|cl<|an (fun _=>yZ _ _ _ _ _ _ _ _ _ _ _ _ _ _ _ _ _ _ _ _ _ _ _ _ _ _ _ _ _ _ _ _ _ _ _ p q (hp.keep M3.below) (hq.keep M3.below)) fun w4 M4=>lb 1<|an (fun _=>rfl)<|lb 0<|an (fun _=>rfl)<|lb 1<|an (fun _=>rfl)<|lb 0<|an (fun _=>rfl)<|lb 1<|an (fun _=>rfl)<|lb 0<|an (fun _=>rfl)<|an (fun h M=>⟨no ?_,M.below⟩) fun h=>?_
 ·rw[hE]
  cases hs:(((kq p q&&mX p q)&&decide (p.bO=q.bO))&&decide (p.files=q.files))&&decide (p.asserts=q.asserts) with
  | false=>rfl
  | true=>
   simp only[avc,decide_eq_true_eq]at hs;obtain⟨⟨⟨⟨a1,a2⟩,a3⟩,a4⟩,a5⟩:=hs;simp[a1,a2,a3,a4,a5]at h
 simp only[Bool.or_eq_false_iff,Bool.not_eq_false',decide_eq_true_eq]at h;obtain⟨⟨⟨⟨hsy,hru⟩,Yn⟩,Vs⟩,Nh⟩:=h;have O2:p.bO.length=q.bO.length:=by have:=Yn;omega
 have Jv:p.files.length=q.files.length:=by have:=Vs;omega
 have BA:p.asserts.length=q.asserts.length:=by have:=Nh;omega
 refine lr (ι:=Nat) (fun m=>[(5,.bool (true&&aA (fun x y=>decide (x=y)) (p.bO.take m) (q.bO.take m))),(6,.int .i64 (m:Int))]) (fun m _=>m≤p.bO.length) (fun m=>p.bO.length-m) 0 (an ⟨⟨eC (by rw[eZ];rfl),rfl,trivial⟩,fun M=>⟨M,ave _⟩⟩ ?_);intro m w M hm;refine lb 1<|an rfl<|an (fun h=>?_) fun h=>?_
 ·simp only[decide_eq_true_eq]at h;obtain⟨x,y,b,o,b',o',hx,hy,⟨e1,hc⟩,e2,hc'⟩:=dU (f:=kR.cells) (fun _=>rfl) (by decide) hp.bO hq.bO rfl rfl (m:=m) (by omega) O2 M.below;refine dr (by kernel_rfl)<|lb 1<|an (fun _=>rfl)<|ia<|an (fun _=>⟨e1,rfl,by omega⟩)<|lc<|an (fun _=>hc)<|lb 0<|an (fun _=>rfl)<|ia<|an (fun _=>⟨e2,rfl,by omega⟩)<|lc<|an (fun _=>hc')<|ei<|an (fun _=>⟨ZT,fun w=>VY x y w⟩) fun w2 hb M=>an (by omega) (bk (m+1) ⟨eC (by rw[fq hx hy,Bool.and_assoc]),rfl,trivial⟩ (fun M=>⟨M,by omega⟩) (by dsimp only;omega))
 simp only[decide_eq_false_iff_not]at h;obtain rfl:m=p.bO.length:=by omega
 refine lr (ι:=Nat) (fun m=>[(5,.bool ((true&&aA (fun x y=>decide (x=y)) p.bO q.bO)&&aA (fun x y=>decide (x=y)) (p.files.take m) (q.files.take m))),(7,.int .i64 (m:Int))]) (fun m _=>m≤p.files.length) (fun m=>p.files.length-m) 0 (an ⟨⟨eC (by rw[fu O2,eZ,Bool.and_true]),rfl,trivial⟩,fun M=>⟨M,ave _⟩⟩ ?_);intro m w M hm;refine lb 1<|an rfl<|an (fun h=>?_) fun h=>?_
 ·simp only[decide_eq_true_eq]at h;obtain⟨x,y,b,o,b',o',hx,hy,⟨e1,hc⟩,e2,hc'⟩:=dU (f:=kU.cells) (fun _=>rfl) (by decide) hp.files hq.files rfl rfl (m:=m) (by omega) Jv M.below;refine dr (by kernel_rfl)<|lb 1<|an (fun _=>rfl)<|ia<|an (fun _=>⟨e1,rfl,by omega⟩)<|lc<|an (fun _=>hc)<|lb 0<|an (fun _=>rfl)<|ia<|an (fun _=>⟨e2,rfl,by omega⟩)<|lc<|an (fun _=>hc')<|ei<|an (fun _=>⟨ZS,fun w=>VX x y w⟩) fun w2 hb M=>an (by omega) (bk (m+1) ⟨eC (by rw[fq hx hy,Bool.and_assoc]),rfl,trivial⟩ (fun M=>⟨M,by omega⟩) (by dsimp only;omega))
 simp only[decide_eq_false_iff_not]at h;obtain rfl:m=p.files.length:=by omega
 refine lr (ι:=Nat) (fun m=>[(5,.bool (((true&&aA (fun x y=>decide (x=y)) p.bO q.bO)&&aA (fun x y=>decide (x=y)) p.files q.files)&&aA (fun x y=>decide (x=y)) (p.asserts.take m) (q.asserts.take m))),(8,.int .i64 (m:Int))]) (fun m _=>m≤p.asserts.length) (fun m=>p.asserts.length-m) 0 (an ⟨⟨eC (by rw[fu Jv,eZ,Bool.and_true]),rfl,trivial⟩,fun M=>⟨M,ave _⟩⟩ ?_);intro m w M hm;refine lb 1<|an rfl<|an (fun h=>?_) fun h=>?_
 ·simp only[decide_eq_true_eq]at h;obtain⟨x,y,b,o,b',o',hx,hy,⟨e1,hc⟩,e2,hc'⟩:=dU (f:=kW.cells) (fun _=>rfl) (by decide) hp.asserts hq.asserts rfl rfl (m:=m) (by omega) BA M.below;refine dr (by kernel_rfl)<|lb 1<|an (fun _=>rfl)<|ia<|an (fun _=>⟨e1,rfl,by omega⟩)<|lc<|an (fun _=>hc)<|lb 0<|an (fun _=>rfl)<|ia<|an (fun _=>⟨e2,rfl,by omega⟩)<|lc<|an (fun _=>hc')<|ei<|an (fun _=>⟨ZR,fun w=>VW x y w⟩) fun w2 hb M=>an (by omega) (bk (m+1) ⟨eC (by rw[fq hx hy,Bool.and_assoc]),rfl,trivial⟩ (fun M=>⟨M,by omega⟩) (by dsimp only;omega))
 simp only[decide_eq_false_iff_not]at h;obtain rfl:m=p.asserts.length:=by omega
 intro M;refine⟨?_,M.below⟩;rw[fu BA,kA,kA,kA,hE,hsy,hru];simp only[Bool.true_and,mE]
theorem DY(l:List (List Int)):eN (fun u w=>qW w u l):=fun _ _ _ h hb=>h.keep hb
def TH(p q:aC):Bool:=(gM (lZ p) (lZ q)&&decide (nW p=nW q))&&decide (iI p=iI q)
theorem LQ(w0:World)(c0 c1 c2 c3 c4 c5 c6 c7 c8 c9 aV aP aO aU aT aS aR d0 d1 d2 d3 d4 d5 d6 d7 d8 d9 Ch Cg Ce Cd Cc Cb Ca:Value)(p q:aC)(hp:aM w0 c0 c1 c2 c3 c4 c5 c6 c7 c8 c9 aV aP aO aU aT aS aR p)(hq:aM w0 d0 d1 d2 d3 d4 d5 d6 d7 d8 d9 Ch Cg Ce Cd Cc Cb Ca q)(hS:xJ p)(hS':xJ q)(ht:p.trans.length≤1000)(ht':q.trans.length≤1000)(hk:∀ y∈p.trans,iR y.cond)(hk':∀ y∈q.trans,iR y.cond):
 Calls Tryz.prog 25 #[.agg #[c0,c1,c2,c3,c4,c5,c6,c7,c8,c9,aV,aP,aO,aU,aT,aS,aR],.agg #[d0,d1,d2,d3,d4,d5,d6,d7,d8,d9,Ch,Cg,Ce,Cd,Cc,Cb,Ca]] w0 fun r w'=>r=.returned (.bool (TH p q))∧avd w0.heap.size w0 w':=by
 obtain⟨_,_,_,_,_,_,_,_,_,_,_,_,_,_,_,_,_,_,_,_,_,_,_,_,_,_,_,_,_,_,_,_,_,_,rfl,rfl,rfl,rfl,rfl,rfl,rfl,rfl,rfl,rfl,rfl,rfl,rfl,rfl,rfl,rfl,rfl⟩:=hp.open;obtain⟨_,_,_,_,_,_,_,_,_,_,_,_,_,_,_,_,_,_,_,_,_,_,_,_,_,_,_,_,_,_,_,_,_,_,rfl,rfl,rfl,rfl,rfl,rfl,rfl,rfl,rfl,rfl,rfl,rfl,rfl,rfl,rfl,rfl,rfl⟩:=hq.open;refine cL [] (fn:=Tryz.f25) Tryz.func25 rfl Tryz.ntmps25 rfl fun g1 w1 M1=>fun g2 w2 M2=>dp (by kernel_rfl)<|lb 1<|an rfl<|lb 0<|an rfl<|ei<|ei<|an ⟨nu,nu⟩<|an ⟨rfl,rfl⟩ fun g3 g4 w3 vG M3=>?_
 refine lb 0<|an ⟨rfl,rfl⟩ fun w4 M4=>lb 0<|an ⟨rfl,rfl⟩ fun w5 M5=>lb 0<|an ⟨rfl,rfl⟩ fun w6 M6=>lb 1<|an ⟨rfl,rfl⟩ fun w7 M7=>lb 1<|an ⟨rfl,rfl⟩ fun w8 M8=>lb 1<|an ⟨rfl,rfl⟩ fun w9 M9=>?_
 refine dr (by kernel_rfl)<|lb 0<|an rfl<|lb 1<|an rfl<|cl<|an (fun w' hb' M'=>nM _ _ _ _ _ _ _ _ _ _ _ _ _ _ _ _ _ _ _ _ _ _ _ _ _ _ _ _ _ _ _ _ _ _ _ (lZ p) (lZ q) (zY (hp.keep M'.below)) (zY (hq.keep M'.below)))<|lb 3<|an (fun _=>rfl)<|cr (fun u w=>qW w u (nW p))<|an (DY _)<|an (fun _ w' hb' M'=>sC _ _ _ _ _ _ _ _ _ _ _ _ _ _ _ _ _ _ p (hp.keep M'.below) hS)<|lb 2<|an (fun _=>rfl)<|cr (fun u w=>qW w u (nW q))<|an (DY _)<|an (fun _ w' hb' M'=>sC _ _ _ _ _ _ _ _ _ _ _ _ _ _ _ _ _ _ q (hq.keep M'.below) hS')<|cu<|an (fun u1 u2 h w' hb' M' hR=>uj _ _ _ (nW p) (nW q) (hR.1 h) (hR.2 h))<|lb 3<|an (fun _=>rfl)<|lb 2<|an (fun _=>rfl)<|cl<|an (fun _ w' hb' M'=>yX _ _ _ _ _ _ _ _ _ _ _ _ _ _ _ _ _ _ _ _ _ _ _ _ _ _ _ _ _ _ _ _ _ _ _ p q (hp.keep M'.below) (hq.keep M'.below) hS hS' ht ht' hk hk') fun tS zh M=>?_
 exact fun M=>⟨rfl,M.below⟩
theorem SliceAt.lo{w:World}{g off n c l k:Nat}{xs:List Value}(h:SliceAt w (.slice (some ⟨g,off,none⟩) n c) k n xs)(hl:l≤n):SliceAt w (.slice (if c=l then some ⟨g,off,none⟩ else some ⟨g,off+l*k,none⟩) (n-l) (c-l)) k (n-l) (xs.drop (l*k)):=by
 obtain⟨h1,h2,h3,h4⟩:=h;rcases h4 with⟨h,-⟩|⟨a,c',e,h5,h6⟩
 ·cases h
 cases e;refine⟨by rw[List.length_drop,h1,Nat.sub_mul],by omega,fun u hu=>h3 u (List.mem_of_mem_drop hu),.inr ?_⟩;by_cases hc:c=l
 ·rw[if_pos hc];exact⟨_,_,rfl,by omega,fun j u hu=>by rw[List.drop_of_length_le (by rw[h1];exact Nat.mul_le_mul_right _ (by omega))]at hu;simp at hu⟩
 ·rw[if_neg hc];refine⟨_,_,rfl,by omega,fun j u hu=>?_⟩;rw[List.getElem?_drop]at hu;have:=h6 _ _ hu;rw[Addr.add_mid]at this ⊢;rw[Nat.add_assoc];exact this
theorem SliceAt.hi{w:World}{g off n c l k:Nat}{xs:List Value}(h:SliceAt w (.slice (some ⟨g,off,none⟩) n c) k n xs)(hl:l≤n):SliceAt w (.slice (some ⟨g,off,none⟩) l c) k l (xs.take (l*k)):=by
 obtain⟨h1,h2,h3,h4⟩:=h;rcases h4 with⟨h,-⟩|⟨a,c',e,h5,h6⟩
 ·cases h
 cases e;refine⟨by rw[List.length_take,h1,Nat.min_eq_left (Nat.mul_le_mul_right _ hl)],by omega,fun u hu=>h3 u (List.mem_of_mem_take hu),.inr ⟨_,_,rfl,by omega,fun j u hu=>h6 _ _ ?_⟩⟩;rw[List.getElem?_take]at hu;split at hu
 ·exact hu
 ·cases hu
def Dp(p:aC):Value→World→Prop:=fun v w=>∃ c0 c1 c2 c3 c4 c5 c6 c7 c8 c9 aV aP aO aU aT aS aR:Value,v=.agg #[c0,c1,c2,c3,c4,c5,c6,c7,c8,c9,aV,aP,aO,aU,aT,aS,aR]∧aM w c0 c1 c2 c3 c4 c5 c6 c7 c8 c9 aV aP aO aU aT aS aR p
theorem Bm(p:aC):eN (Dp p):=fun _ _ _ ⟨c0,c1,c2,c3,c4,c5,c6,c7,c8,c9,aV,aP,aO,aU,aT,aS,aR,e,h⟩ hb=>⟨c0,c1,c2,c3,c4,c5,c6,c7,c8,c9,aV,aP,aO,aU,aT,aS,aR,e,h.keep hb⟩
inductive eD (n:Nat):aq→Prop
 | bool {a rel b:Int} {ns:List ByteArray} {s:ay}:0≤a→a<n→eD n (.node 1 a rel b ns s [])
 | not {a rel b:Int} {ns:List ByteArray} {s:ay} {k:aq}:eD n k→eD n (.node 2 a rel b ns s [k])
 | bin {op a rel b:Int} {ns:List ByteArray} {s:ay} {k l:aq}:3≤op→op≤7→eD n k→eD n l→eD n (.node op a rel b ns s [k,l])
theorem V9{n i:Nat}{a:Int}(h0:0≤a)(h1:a<n):WW (zi n (nQ n i)) a=i.testBit a.toNat:=by
 have ha:a.toNat<n:=by omega
 unfold WW zi nQ;rw[decide_eq_true h0,Bool.true_and,avg,List.getElem?_range ha];simp only[Option.map_some,Option.getD_some];unfold WW;rw[decide_eq_true (Int.natCast_nonneg _),Bool.true_and,Int.toNat_natCast,avg,List.getElem?_range ha];rfl
theorem Tk{n i:Nat}{e:aq}(h:eD n e):gu (zi n (nQ n i)) e=jN n i e:=by
 induction h with
 | @bool a rel b ns s h0 h1=>
  rw[nD,ni];show k_ _ 1 a []=Db n i 1 a []
  have hb:dG n 1 a 0=false:=by
   have:¬ a<0:=by omega
   have h2:¬ (n:Int)≤a:=by omega
   simp[dG,qp,this,h2]
  unfold k_ Db;rw[if_pos rfl,List.length_nil,hb,if_neg (by decide),if_pos rfl,V9 h0 h1]
 | @not a rel b ns s k hk ih=>
  rw[nD,ni];show k_ _ 2 a [gu _ k]=Db n i 2 a [jN n i k];rw[ih];have hb:dG n 2 a 1=false:=by simp[dG,qp]
  unfold k_ Db;simp[hb]
 | @bin op a rel b ns s k l h3 h7 hk hl ihk ihl=>
  rw[nD,ni];show k_ _ op a [gu _ k,gu _ l]=Db n i op a [jN n i k,jN n i l];rw[ihk,ihl]
  have hb:dG n op a 2=false:=by
   have h1:¬ op=1:=by omega
   have h2:¬ op=2:=by omega
   simp[dG,qp,h1,h2]
  unfold k_ Db;have e:op=3∨op=4∨op=5∨op=6∨op=7:=by omega
  generalize jN n i k=x;generalize jN n i l=y;rcases e with rfl|rfl|rfl|rfl|rfl<;>simp[hb]<;>cases x<;>cases y<;>rfl
theorem Y9{n i:Nat}{conds:List aq}(hc:∀ e∈conds,eD n e){k:Int}(hk:-(conds.length:Int)≤k∧k≤conds.length):lF n conds (nQ n i) k=E_ n conds k i:=by
 have get:∀ m,m<conds.length→((kD n conds (nQ n i))[m]?).getD false=match conds[m]? with|some e=>jN n i e|none=>false:=fun m hm=>by
  obtain⟨e,he⟩:∃ e,conds[m]?=some e:=⟨_,avf hm⟩;rw[he];unfold kD;rw[avg,he];exact Tk (hc e (avh he))
 unfold lF E_;by_cases h1:0<k∧k≤conds.length
 ·rw[if_pos h1,if_pos h1,get _ (by omega)];cases conds[(k-1).toNat]?<;>rfl
 ·rw[if_neg h1,if_neg h1];by_cases h2:k<0∧0-(conds.length:Int)≤k
  ·rw[if_pos h2,if_pos h2,get _ (by omega)];cases conds[(0-k-1).toNat]?<;>rfl
  ·rw[if_neg h2,if_neg h2,decide_eq_true (by omega)]
theorem uO{T C:Nat}{f g:aj→Bool}:∀ (l:List aj) (out:List Int),(∀ r∈l,f r=g r)→iw T C f out l=iw T C g out l
 | [],_,_=>rfl
 | r::l,out,h=>by
  unfold iw;rw[List.foldl_cons,List.foldl_cons,h r (avi ..)];exact uO l _ fun x hx=>h x (avj _ hx)
structure mU (p:aC):Prop where
 bools:p.bools.length≤5
 rv:∀ r∈p.rules,RV p.types.length p.classes.length r
 four:∀ r∈p.rules,r.kind=4→r.cond=0
 conds:∀ e∈p.conds,eD p.bools.length e
 om:∀ r∈p.rules,-(p.conds.length:Int)≤r.cond∧r.cond≤p.conds.length
 pz:∀ y∈p.trans,-(p.conds.length:Int)≤y.cond∧y.cond≤p.conds.length
theorem TP{p:aC}(h:mU p)(i:Nat):C8 p i=iL p.types.length p.classes.length (fun r=>E_ p.bools.length p.conds r.cond i) p.rules:=
 uO _ _ fun r hr=>Y9 h.conds (h.om r hr)
theorem JJ{α β:Type}{f g:α→Option β}:∀ (l:List α),(∀ x∈l,f x=g x)→l.filterMap f=l.filterMap g
 | [],_=>rfl
 | x::l,h=>by rw[List.filterMap_cons,List.filterMap_cons,h x (avi ..),JJ l fun y hy=>h y (avj _ hy)]
end Go.Proofs.YtdcofoaihmongaaGreat
namespace Go.Proofs.YtdcofoaihmongaaGreat
open Go Go.Proofs Go.Shelf
def Ja:Go.Shelf.Ren:=⟨fun|190=>269|125=>208|258=>296|128=>262|129=>263|302=>307|303=>308|304=>309|305=>310|306=>311|307=>312|308=>313|309=>314|310=>315|333=>319|329=>290|330=>291|334=>320|335=>321|336=>322|344=>325|n=>n,fun|31=>28|9=>9|3=>3|46=>246|0=>0|51=>50|53=>52|4=>4|183=>325|182=>324|131=>161|5=>5|218=>352|222=>356|228=>362|229=>363|n=>n,fun|n=>n⟩
theorem OY:Go.Proofs.Lays.n190 Tryz.prog Ja:={
 mixed:=by kernel_rfl
 f125:=Tryz.func208.trans (congrArg some (by kernel_rfl))
 f128:=Tryz.func262.trans (congrArg some (by kernel_rfl))
 f129:=Tryz.func263.trans (congrArg some (by kernel_rfl))
 f190:=Tryz.func269.trans (congrArg some (by kernel_rfl))
 f258:=Tryz.func296.trans (congrArg some (by kernel_rfl))
 f302:=Tryz.func307.trans (congrArg some (by kernel_rfl))
 f303:=Tryz.func308.trans (congrArg some (by kernel_rfl))
 f304:=Tryz.func309.trans (congrArg some (by kernel_rfl))
 f305:=Tryz.func310.trans (congrArg some (by kernel_rfl))
 f306:=Tryz.func311.trans (congrArg some (by kernel_rfl))
 f307:=Tryz.func312.trans (congrArg some (by kernel_rfl))
 f308:=Tryz.func313.trans (congrArg some (by kernel_rfl))
 f309:=Tryz.func314.trans (congrArg some (by kernel_rfl))
 f310:=Tryz.func315.trans (congrArg some (by kernel_rfl))
 f329:=Tryz.func290.trans (congrArg some (by kernel_rfl))
 f330:=Tryz.func291.trans (congrArg some (by kernel_rfl))
 f333:=Tryz.func319.trans (congrArg some (by kernel_rfl))
 f334:=Tryz.func320.trans (congrArg some (by kernel_rfl))
 f335:=Tryz.func321.trans (congrArg some (by kernel_rfl))
 f336:=Tryz.func322.trans (congrArg some (by kernel_rfl))
 f344:=Tryz.func325.trans (congrArg some (by kernel_rfl))
 t0:=Tryz.underlying0
 a0:=Tryz.isAgg0
 z0:=Tryz.sizeOf0
 v0:=Tryz.zeroValue0
 t3:=Tryz.underlying3
 a3:=Tryz.isAgg3
 z3:=Tryz.sizeOf3
 v3:=Tryz.zeroValue3
 t4:=Tryz.underlying4
 a4:=Tryz.isAgg4
 z4:=Tryz.sizeOf4
 v4:=Tryz.zeroValue4
 t5:=Tryz.underlying5
 a5:=Tryz.isAgg5
 z5:=Tryz.sizeOf5
 v5:=Tryz.zeroValue5
 t9:=Tryz.underlying9
 a9:=Tryz.isAgg9
 z9:=Tryz.sizeOf9
 v9:=Tryz.zeroValue9
 t31:=Tryz.underlying28
 a31:=Tryz.isAgg28
 z31:=Tryz.sizeOf28
 v31:=Tryz.zeroValue28
 t46:=Tryz.underlying246
 a46:=Tryz.isAgg246
 z46:=Tryz.sizeOf246
 v46:=Tryz.zeroValue246
 t51:=Tryz.underlying50
 a51:=Tryz.isAgg50
 z51:=Tryz.sizeOf50
 v51:=Tryz.zeroValue50
 t53:=Tryz.underlying52
 a53:=Tryz.isAgg52
 z53:=Tryz.sizeOf52
 v53:=Tryz.zeroValue52
 t131:=Tryz.underlying161
 a131:=Tryz.isAgg161
 z131:=Tryz.sizeOf161
 v131:=Tryz.zeroValue161
 t182:=Tryz.underlying324
 a182:=Tryz.isAgg324
 z182:=Tryz.sizeOf324
 v182:=Tryz.zeroValue324
 t183:=Tryz.underlying325
 a183:=Tryz.isAgg325
 z183:=Tryz.sizeOf325
 v183:=Tryz.zeroValue325
 t218:=Tryz.underlying352
 a218:=Tryz.isAgg352
 z218:=Tryz.sizeOf352
 v218:=Tryz.zeroValue352
 t222:=Tryz.underlying356
 a222:=Tryz.isAgg356
 z222:=Tryz.sizeOf356
 v222:=Tryz.zeroValue356
 t228:=Tryz.underlying362
 a228:=Tryz.isAgg362
 z228:=Tryz.sizeOf362
 v228:=Tryz.zeroValue362
 t229:=Tryz.underlying363
 a229:=Tryz.isAgg363
 z229:=Tryz.sizeOf363
 v229:=Tryz.zeroValue363 }
def I_:Go.Shelf.Ren:=⟨fun|194=>270|n=>n,fun|31=>28|9=>9|3=>3|4=>4|0=>0|n=>n,fun|n=>n⟩
theorem OX:Go.Proofs.Lays.n194 Tryz.prog I_:={
 mixed:=by kernel_rfl
 f194:=Tryz.func270.trans (congrArg some (by kernel_rfl))
 t0:=Tryz.underlying0
 a0:=Tryz.isAgg0
 z0:=Tryz.sizeOf0
 v0:=Tryz.zeroValue0
 t3:=Tryz.underlying3
 a3:=Tryz.isAgg3
 z3:=Tryz.sizeOf3
 v3:=Tryz.zeroValue3
 t4:=Tryz.underlying4
 a4:=Tryz.isAgg4
 z4:=Tryz.sizeOf4
 v4:=Tryz.zeroValue4
 t9:=Tryz.underlying9
 a9:=Tryz.isAgg9
 z9:=Tryz.sizeOf9
 v9:=Tryz.zeroValue9
 t31:=Tryz.underlying28
 a31:=Tryz.isAgg28
 z31:=Tryz.sizeOf28
 v31:=Tryz.zeroValue28 }
open Go.Sort Go.RowKit in
theorem slices_Sort_string(blk off cap:Nat)(ss:List (List UInt8))(w:World)(hH:Holds encStr w blk off ss.toArray)(hblk:blk<w.heap.size)(hsz:ss.length<4611686018427387904):
 Calls Tryz.prog 269 #[.slice (some ⟨blk,off,none⟩) ss.length cap] w fun e w'=>e=.returned (.tuple #[])∧∃ n os,w'=grow (putRow encStr (Sort.ahead w n) blk off (ss.mergeSort fun x y=>decide (x≤y)).toArray) os:=Any.slices_Sort_string OY blk off cap ss w hH hblk hsz
theorem slices_Sort_string_none(p:Option Addr)(cap:Nat)(w:World):
 Calls Tryz.prog 269 #[.slice p 0 cap] w fun e w'=>e=.returned (.tuple #[])∧w'=w:=Any.slices_Sort_string_none OY p cap w
open Go.Sort Go.RowKit in
theorem slices_Compact_string(blk off cap:Nat)(zs:List (List UInt8))(w:World)(hH:Holds encStr w blk off zs.toArray)(hsz:zs.length≤9223372036854775807)(hcap:zs.length≤cap):
 Calls Tryz.prog 270 #[.slice (some ⟨blk,off,none⟩) zs.length cap] w fun e w'=>e=.returned (.slice (some ⟨blk,off,none⟩) (Lib.compact zs).length cap)∧∃ q,w'=putRow encStr (Sort.ahead w q) blk off (Lib.compact zs++List.replicate (zs.length-(Lib.compact zs).length) []).toArray:=Any.slices_Compact_string OX blk off cap zs w hH hsz hcap
theorem slices_Compact_string_empty(a:Option Addr)(cap:Nat)(w:World):
 Calls Tryz.prog 270 #[.slice a 0 cap] w fun e w'=>e=.returned (.slice a 0 cap)∧w'=w:=Any.slices_Compact_string_empty OX a cap w
open Go.Sort Go.RowKit
def dM(s:ByteArray):List UInt8:=s.data.toList
def Xe(b:List UInt8):ByteArray:=⟨b.toArray⟩
theorem nG(s:ByteArray):Xe (dM s)=s:=by cases s;simp[Xe,dM]
def t_(l:List ByteArray):List ByteArray:=((l.map dM).mergeSort fun x y=>decide (x≤y)).map Xe
def lY(l:List ByteArray):List ByteArray:=(Lib.compact (l.map dM)).map Xe
theorem Eo(l:List ByteArray):l.flatMap aW=(l.map dM).map encStr:=by
 induction l with
 | nil=>rfl
 | cons s l ih=>rw[List.flatMap_cons,List.map_cons,List.map_cons,← ih];show Value.string s::_=Value.string (Xe (dM s))::_;rw[nG];rfl
theorem Em(l:List (List UInt8)):(l.map Xe).flatMap aW=l.map encStr:=by
 induction l with
 | nil=>rfl
 | cons s l ih=>rw[List.map_cons,List.flatMap_cons,List.map_cons,← ih];rfl
theorem RN(w:World)(base:Nat)(v:Value)(n:Nat)(l:List ByteArray)(hn:n=l.length)(h:w.ownsRow base 9 1 v n (l.flatMap aW))(hz:n≤100000001):
 Calls Tryz.prog 269 #[v] w fun e w'=>∃ z,e=.returned z∧w'.ownsRow base 9 1 v n ((t_ l).flatMap aW)∧w.grownBy w' v.ownBlock:=by
 subst hn;unfold t_;rw[Eo]at h;rw[Em];rcases h.2 with⟨rfl,h0⟩|⟨g,cap,cur,rfl,hg,hh,h1,h2,h3,h4⟩
 ·have:l=[]:=List.eq_nil_of_length_eq_zero h0;subst this;refine(slices_Sort_string_none none 0 w).mono ?_;rintro e w' ⟨rfl,rfl⟩;exact⟨_,rfl,by simpa using h,World.grownBy.refl _ _⟩
 ·have hl:(l.map dM).length=l.length:=avk ..;rw[← hl]at h1 ⊢;refine(slices_Sort_string g 0 cap (l.map dM) w (holds_of_block hh (by rw[Nat.mul_one,← hl]at h4;exact h4)) (Array.getElem?_eq_some_iff.1 hh).1 (by rw[hl];omega)).mono ?_;rintro e w' ⟨rfl,n,os,rfl⟩;exact⟨_,rfl,ownsRow_sorted (List.length_mergeSort _) hg hh h1 h2 h3,grownBy_sorted _⟩
theorem zf:∀ l:List (List UInt8),(Lib.compact l).length≤l.length:=fun l=>by
 unfold Lib.compact Lib.compactUpTo;rw[avk];exact avl (List.length_filter_le _ _) (by rw[List.length_range];omega)
theorem ku(d:Array (List UInt8))(x:List UInt8):∀ m,(x∈Lib.compactUpTo d m↔∃ j,j<m∧d[j]! = x)
 | 0=>by simp[Lib.compactUpTo]
 | m+1=>by
  rw[Lib.compactUpTo_succ,avm,ku d x m];constructor
  ·rintro(⟨j,hj,h⟩|h)
   ·exact⟨j,by omega,h⟩
   ·split at h
    ·exact⟨m,by omega,(avn.1 h).symm⟩
    ·cases h
  ·rintro⟨j,hj,h⟩;by_cases hk:Lib.keeps d m=true
   ·by_cases hjm:j=m
    ·subst hjm;right;rw[if_pos hk];exact avn.2 h.symm
    ·exact .inl ⟨j,by omega,h⟩
   ·left;by_cases hjm:j=m
    ·subst hjm;have h3:¬ (j=0∨d[j]!≠d[j-1]!):=fun h4=>hk (decide_eq_true h4)
     have h4:j≠0:=fun e=>h3 (.inl e)
     have h5:d[j]! = d[j-1]!:=Classical.byContradiction fun e=>h3 (.inr e)
     exact⟨j-1,by omega,by rw[← h5,h]⟩
    ·exact⟨j,by omega,h⟩
theorem yI(l:List (List UInt8))(x:List UInt8):x∈Lib.compact l↔x∈l:=by
 unfold Lib.compact;rw[ku];constructor
 ·rintro⟨j,hj,rfl⟩;rw[getElem!_pos l.toArray j (by simpa using hj)];simp
 ·intro h;obtain⟨j,hj,rfl⟩:=List.getElem_of_mem h;exact⟨j,hj,by rw[getElem!_pos l.toArray j (by simpa using hj)];simp⟩
theorem Vx(w:World):grow w #[]=w:=by simp[grow]
theorem GV(w:World)(base:Nat)(v:Value)(n:Nat)(l:List ByteArray)(hn:n=l.length)(h:w.ownsRow base 9 1 v n (l.flatMap aW))(hz:n≤100000001):
 Calls Tryz.prog 270 #[v] w fun e w'=>∃ v',e=.returned v'∧w'.ownsRow base 9 1 v' (lY l).length ((lY l).flatMap aW)∧w.grownBy w' v.ownBlock∧v'.ownBlock=v.ownBlock:=by
 subst hn;unfold lY;rw[Eo]at h;rw[Em];rcases h.2 with⟨rfl,h0⟩|⟨g,cap,cur,rfl,hg,hh,h1,h2,h3,h4⟩
 ·have:l=[]:=List.eq_nil_of_length_eq_zero h0;subst this;refine(slices_Compact_string_empty none 0 w).mono ?_;rintro e w' ⟨rfl,rfl⟩;refine⟨_,rfl,?_,World.grownBy.refl _ _,rfl⟩;rw[show([]:List ByteArray).map dM=[] from rfl,show Lib.compact ([]:List (List UInt8))=[] from rfl];simpa using h
 ·have hl:(l.map dM).length=l.length:=avk ..;have hc:=zf (l.map dM);rw[← hl]at h1 ⊢;refine(slices_Compact_string g 0 cap (l.map dM) w (holds_of_block hh (by rw[Nat.mul_one,← hl]at h4;exact h4)) (by rw[hl];omega) h1).mono ?_;rintro e w' ⟨rfl,q,rfl⟩;have hb:=heap_sorted (n:=q) (os:=#[]) (Lib.compact (l.map dM)++List.replicate ((l.map dM).length-(Lib.compact (l.map dM)).length) []).toArray hh;have hgr:=grownBy_sorted (w:=w) (g:=g) (n:=q) (os:=#[]) (Lib.compact (l.map dM)++List.replicate ((l.map dM).length-(Lib.compact (l.map dM)).length) []).toArray;rw[Vx]at hb hgr;refine⟨_,rfl,⟨by simp,.inr ⟨g,cap,_,by rw[avk],hg,hb,by rw[avk];omega,h2,by simp[putCells,h3],?_⟩⟩,hgr,rfl⟩;have ht:=take_putCells cur (Lib.compact (l.map dM)++List.replicate ((l.map dM).length-(Lib.compact (l.map dM)).length) []) (by rw[avo,List.length_replicate];omega);have ht2:=congrArg (List.take (Lib.compact (l.map dM)).length) ht;rw[List.take_take,List.map_append,List.take_left' (avk ..),Nat.min_eq_left (by rw[avo];omega)]at ht2;rw[avk,Nat.mul_one];exact ht2
theorem Qe(l:List ByteArray)(s:ByteArray):s∈t_ l↔s∈l:=by
 unfold t_;constructor
 ·intro h;obtain⟨b,hb,rfl⟩:=avp.1 h;rw[List.mem_mergeSort]at hb;obtain⟨t,ht,rfl⟩:=avp.1 hb;rw[nG];exact ht
 ·intro h;exact avp.2 ⟨dM s,List.mem_mergeSort.2 (List.mem_map_of_mem h),nG s⟩
theorem Qf(l:List ByteArray):(t_ l).length=l.length:=by unfold t_;rw[avk,List.length_mergeSort,avk]
theorem F4(l:List ByteArray)(s:ByteArray):s∈lY l↔s∈l:=by
 unfold lY;constructor
 ·intro h;obtain⟨b,hb,rfl⟩:=avp.1 h;obtain⟨t,ht,rfl⟩:=avp.1 ((yI _ _).1 hb);rw[nG];exact ht
 ·intro h;exact avp.2 ⟨dM s,(yI _ _).2 (List.mem_map_of_mem h),nG s⟩
def dh(e:aq):List ByteArray:=lY (t_ (bh e))
theorem oI(e:aq)(s:ByteArray):s∈dh e↔s∈bh e:=by unfold dh;rw[F4,Qe]
end Go.Proofs.YtdcofoaihmongaaGreat
namespace Go.Proofs.YtdcofoaihmongaaGreat
open Go Go.RowKit
theorem XP{e:aq}{t k:Nat}{v:Value}{rs:List Rw}:(⟨v,t,k,0+(bh e).length,[]++(bh e).flatMap aW⟩::rs:List Rw)=⟨v,t,k,(bh e).length,(bh e).flatMap aW⟩::rs:=by rw[Nat.zero_add,List.nil_append]
theorem eX.len2{d:Nat}{e:aq}(h:eX d e):(bh e).length≤2^d:=by
 induction h with
 | @name d s h1 h2=>rw[bh,bG];exact Nat.one_le_two_pow
 | @not d k h1 ih=>rw[bh,bG,bG,Nat.pow_succ];simp only[List.nil_append,List.append_nil];omega
 | @bin d op k l h1 h2 h3 h4 ih1 ih2=>rw[bh,bG,bG,bG,Nat.pow_succ];simp only[List.nil_append,List.append_nil,avo];omega
theorem eX.len{d:Nat}{e:aq}(h:eX d e)(hd:d≤12):(bh e).length≤4096:=avl h.len2 (Nat.pow_le_pow_right (by decide:0<2) hd)
theorem Ny(w0:World)(cs:List Value)(e:aq)(d:Nat)(hE:bf w0 cs e)(hB:eX d e)(hd:d≤12):Calls Tryz.prog 229 #[.agg cs.toArray] w0 (fun(r:Ending) (w':World)=>∃ v',r=.returned v'∧(w'.ownsRow w0.heap.size 9 1 v' (dh e).length ((dh e).flatMap aW)∧avd w0.heap.size w0 w')):=by
 have hln:=hB.len hd;have hE0:=hE;obtain⟨_,_,rfl,hnn,hkk⟩:=hE0.open;obtain⟨pa9,pc9,rfl,hnk,hnm,abh⟩:=SliceAt.form hnn (by decide);obtain⟨qa,qc,rfl,hkc,hkm,hcell⟩:=au.form hkk (by decide);have bL:=hr1 Tryz.prog Tryz.f229 (fun(r:Ending) (w':World)=>∃ v',r=.returned v'∧(w'.ownsRow w0.heap.size 9 1 v' (dh e).length ((dh e).flatMap aW)∧avd w0.heap.size w0 w')) 13 2 rfl;refine en Tryz.func229 rfl Tryz.ntmps229 rfl (vs:=[.agg #[.int .i64 e.op,.int .i64 e.a,.int .i64 e.rel,.int .i64 e.b,.slice pa9 e.names.length pc9,.int .u64 e.set.a,.int .u64 e.set.b,.int .u64 e.set.c,.int .u64 e.set.d,.slice qa e.kids.length qc]]) rfl fun _ F=>?_
 have M:=Mm.start w0;refine avq fun K1 gV=>ah<|Hf (on rfl) rfl (F.u rf) rfl F rfl M fun g1 _ _ F M=>xA (v:=.slice none 0 0) F rf rf rf fun _ F=>avr<|gV _ _ ?_
 refine avq fun K2 h_=>avq fun K3 nh=>ah<|xW F (M.b 0 rfl) rf rf rf Oh rf rO rf fun _ F=>xC F M rf rf agY (args1 (F.u rf)) (NA _ _ e d (hE.keep M.below) hB hd) fun _ _ F M=>ke (on rfl) (V5 rfl (F.u rf) rfl) rfl F rfl (show Value.bool (!decide ((0:Int)=0))=_ from rfl) fun _ F=>avr<|nh _ _ ?_
 refine wp_cond_false (F.e 6 rfl) ?_;refine wp_skip<|h_ _ _ ?_;refine avq fun K4 n_=>ah<|xW F (M.b 0 rfl) rf rf rf Oh rf rO rf fun _ F=>kt (on rfl) (fS rfl Tryz.func268 Zc rfl (args2 rfl (F.u rf))) (Ka e w0 _ _ _ d _ _ _ _ (M.bC 9 1) hE hB (by omega)) rfl F rfl fun v9 _ w9 hR F=>?_
 have M:=hR.cast rfl (XP (e:=e));refine xA F rf rf rf fun _ F=>avr<|n_ _ _ ?_
 refine avq fun K5 nZ=>ah<|xM F rf rf rf fun _ F=>kt (on rfl) (fS rfl Tryz.func269 adR rfl (args1 (F.u rf))) (RN _ w0.heap.size _ _ (bh e) rfl (M.r 0 rfl) (by omega)) rfl F rfl fun z9 _ w9 hR F=>?_
 have M:=M.grow 0 rfl hR.1 hR.2 (.inl rfl);refine avr<|nZ _ _ ?_;refine avq fun K6 pN=>ah<|xM F rf rf rf fun _ F=>kt (on rfl) (fS rfl Tryz.func270 adQ rfl (args1 (F.u rf))) (GV _ w0.heap.size _ _ (t_ (bh e)) (Qf _).symm (M.r 0 rfl) (by omega)) rfl F rfl fun v8 _ w9 hR F=>?_
 have M:=M.grow 0 rfl hR.1 hR.2.1 (.inl hR.2.2);refine xA F rf rf rf fun _ F=>avr<|pN _ _ ?_
 refine wp_ret<|bL _ _ _ _ F rfl ?_;exact⟨_,rfl,M.r 0 rfl,M.below⟩
def mF(l:List ByteArray)(s:ByteArray):Nat:=l.findIdx (fun y=>decide (s=y))
theorem X6{l:List ByteArray}{x:ByteArray}{m:Nat}{y:ByteArray}(hy:l[m]?=some y)(h:∀ j z,j<m→l[j]?=some z→x≠z)(e:x=y):(m:Int)=(mF l x:Int):=by
 unfold mF;obtain⟨hm,hy'⟩:=avs.1 hy;rw[(List.findIdx_eq hm).2 ⟨by rw[hy'];simpa using e,fun j hj=>by simpa using h j (l[j]) hj (avf (by omega))⟩]
theorem U0{l:List ByteArray}{x:ByteArray}{m:Nat}(hm:m=l.length)(h:∀ j z,j<m→l[j]?=some z→x≠z)(hx:x∈l):False:=by
 obtain⟨j,hj,e⟩:=List.getElem_of_mem hx;exact h j x (by omega) (by rw[avf hj,e]) rfl
theorem mQ{l:List ByteArray}{x:ByteArray}(hx:x∈l):mF l x<l.length:=List.findIdx_lt_length.2 ⟨x,hx,by simp⟩
theorem Q0{l:List ByteArray}{x y:ByteArray}{m:Nat}(hy:l[m]?=some y)(h:∀ j z,j<m→l[j]?=some z→x≠z)(hne:x≠y):∀ j z,j<m+1→l[j]?=some z→x≠z:=fun j z hj hz=>by
 by_cases e:j=m
 ·subst e;rw[hy]at hz;cases hz;exact hne
 ·exact h j z (by omega) hz
def Qz(op:Int):Nat:=if op=3 then 297 else if op=4 then 298 else if op=6 then 299 else 300
def KF(op x y:Int):Int:=if op=3 then bits .and .u64 x y else if op=4 then bits .or .u64 x y else if op=6 then bits .xor .u64 18446744073709551615 (bits .xor .u64 x y) else bits .xor .u64 x y
def Tw(ns:List ByteArray)(op:Int)(names:List ByteArray)(l:List Int):Int:=
 if op=1 then fT (mF ns (names.getD 0 ⟨#[]⟩):Int) 64 else if op=2 then bits .xor .u64 18446744073709551615 (l.getD 0 0) else KF op (l.getD 0 0) (l.getD 1 0)
mutual
def fZ(ns:List ByteArray):aq→Int
 | .node op _ _ _ names _ kids=>Tw ns op names (Qa ns kids)
def Qa(ns:List ByteArray):List aq→List Int
 | []=>[]
 | k::l=>fZ ns k::Qa ns l
end
theorem EP(ns:List ByteArray)(e:aq):fZ ns e=Tw ns e.op e.names (Qa ns e.kids):=by cases e;rw[fZ];rfl
theorem tZ(ns:List ByteArray):∀ (l:List aq) (i:Nat) {y:aq},l[i]?=some y→(Qa ns l).getD i 0=fZ ns y
 | [],_,_,h=>by simp at h
 | k::l,0,y,h=>by
  rw[Qa];obtain rfl:k=y:=by simpa using h
  rfl
 | k::l,i+1,y,h=>by
  rw[Qa];simpa using tZ ns l i (by simpa using h)
theorem Yv{x y:ByteArray}(h:(x.toList == y.toList)=true):x=y:=of_decide_eq_true ((oD x y).symm.trans h)
theorem ab9{x y:ByteArray}(h:(x.toList == y.toList)=false):x≠y:=of_decide_eq_false ((oD x y).symm.trans h)
theorem RM(w0:World)(nB:Nat)(hn:nB≤5):Calls Tryz.prog 230 #[.int .i64 (nB:Int)] w0 (fun(r:Ending) (w':World)=>r=.returned (.int .u64 (aK nB))∧avd w0.heap.size w0 w'):=by
 have hn6:=nt6 hn;have bL:=hr1 Tryz.prog Tryz.f230 (fun(r:Ending) (w':World)=>r=.returned (.int .u64 (aK nB))∧avd w0.heap.size w0 w') 10 2 rfl;refine en Tryz.func230 rfl Tryz.ntmps230 rfl (vs:=[.int .i64 (nB:Int)]) rfl fun _ F=>?_
 have M:=Mm.start w0;refine avq fun K1 gV=>ah<|xA (v:=.int .u64 0) F rf rf rf fun _ F=>avr<|gV _ _ ?_
 refine avq fun K2 h_=>avq fun K3 nh=>ah<|xM F rf rf rf fun _ F=>
  ke (on rfl) (j5 rfl rfl (F.u rf) (by omega) (show _≤((64:Nat):Int) by omega)) rfl F rfl (congrArg (Value.int .i64) (nt1 hn)) fun _ F=>
  kz F rf (JW rfl (F.u rf) rfl) fun _ F=>
  avr<|
  nh _ _ ?_
 refine avt (F.e 5 rfl) (fun hc1=>?_) (fun hc1=>?_)
 ·have hd2:=of_decide_eq_true hc1;refine avq fun K4 n_=>ah<|xA (v:=.int .u64 18446744073709551615) F rf rf rf fun _ F=>avr<|n_ _ _ ?_
  refine wp_ret<|bL _ _ _ _ F rfl ?_;exfalso;omega
 ·have hd3:=of_decide_eq_false hc1;refine wp_skip<|h_ _ _ ?_
  refine avq fun K5 nZ=>ah<|xM F rf rf rf fun _ F=>
   ke (on rfl) (j5 rfl rfl (F.u rf) (by omega) (show _≤((64:Nat):Int) by omega)) rfl F rfl (congrArg (Value.int .u64) (nt3 hn)) fun _ F=>
   ke (on rfl) (j5 rfl rfl (F.u rf) (Int.natCast_nonneg _) (Int.ofNat_le.2 (avl hn6 (by decide)))) rfl F rfl (congrArg (Value.int .u64) (nt4 hn)) fun _ F=>
   ke (on rfl) (JT rfl (F.u rf) rfl) rfl F rfl (congrArg (Value.int .u64) (nt5 hn)) fun _ F=>
   xA F rf rf rf fun _ F=>
   avr<|
   nZ _ _ ?_
  refine wp_ret<|bL _ _ _ _ F rfl ?_;exact⟨rfl,M.below⟩
theorem T5(w0:World)(x y:Int):Calls Tryz.prog 297 #[.agg #[.int .u64 x,.int .u64 y]] w0 (fun(r:Ending) (w':World)=>r=.returned (.int .u64 (bits .and .u64 x y))∧avd w0.heap.size w0 w'):=by
 have bL:=hr1 Tryz.prog Tryz.f297 (fun(r:Ending) (w':World)=>r=.returned (.int .u64 (bits .and .u64 x y))∧avd w0.heap.size w0 w') 8 2 rfl;refine en Tryz.func297 rfl Tryz.ntmps297 rfl (vs:=[.agg #[.int .u64 x,.int .u64 y]]) rfl fun _ F=>?_
 have M:=Mm.start w0;refine avq fun K1 gV=>ah<|Hf (on rfl) rfl (F.u rf) rfl F rfl M fun g1 _ _ F M=>xA (v:=.int .u64 0) F rf rf rf fun _ F=>avr<|gV _ _ ?_
 refine avq fun K2 h_=>ah<|xF 0 F rf rf rf Ie rf kf rf fun _ F=>xL F (M.b 0 rfl) rf rf rf Oi rf rf fun _ F=>xF 1 F rf rf rf Ie rf kf rf fun _ F=>xL F (M.b 0 rfl) rf rf rf Oi rf rf fun _ F=>kz F rf (JX rfl (F.u rf) (F.u rf)) fun _ F=>xA F rf rf rf fun _ F=>avr<|h_ _ _ ?_
 refine wp_ret<|bL _ _ _ _ F rfl ?_;exact⟨rfl,M.below⟩
theorem XH(w0:World)(x y:Int):Calls Tryz.prog 298 #[.agg #[.int .u64 x,.int .u64 y]] w0 (fun(r:Ending) (w':World)=>r=.returned (.int .u64 (bits .or .u64 x y))∧avd w0.heap.size w0 w'):=by
 have bL:=hr1 Tryz.prog Tryz.f298 (fun(r:Ending) (w':World)=>r=.returned (.int .u64 (bits .or .u64 x y))∧avd w0.heap.size w0 w') 8 2 rfl;refine en Tryz.func298 rfl Tryz.ntmps298 rfl (vs:=[.agg #[.int .u64 x,.int .u64 y]]) rfl fun _ F=>?_
 have M:=Mm.start w0;refine avq fun K1 gV=>ah<|Hf (on rfl) rfl (F.u rf) rfl F rfl M fun g1 _ _ F M=>xA (v:=.int .u64 0) F rf rf rf fun _ F=>avr<|gV _ _ ?_
 refine avq fun K2 h_=>ah<|xF 0 F rf rf rf Ie rf kf rf fun _ F=>xL F (M.b 0 rfl) rf rf rf Oi rf rf fun _ F=>xF 1 F rf rf rf Ie rf kf rf fun _ F=>xL F (M.b 0 rfl) rf rf rf Oi rf rf fun _ F=>kz F rf (V3 rfl (F.u rf) (F.u rf)) fun _ F=>xA F rf rf rf fun _ F=>avr<|h_ _ _ ?_
 refine wp_ret<|bL _ _ _ _ F rfl ?_;exact⟨rfl,M.below⟩
theorem Qv(w0:World)(x y:Int):Calls Tryz.prog 299 #[.agg #[.int .u64 x,.int .u64 y]] w0 (fun(r:Ending) (w':World)=>r=.returned (.int .u64 (bits .xor .u64 18446744073709551615 (bits .xor .u64 x y)))∧avd w0.heap.size w0 w'):=by
 have bL:=hr1 Tryz.prog Tryz.f299 (fun(r:Ending) (w':World)=>r=.returned (.int .u64 (bits .xor .u64 18446744073709551615 (bits .xor .u64 x y)))∧avd w0.heap.size w0 w') 9 2 rfl;refine en Tryz.func299 rfl Tryz.ntmps299 rfl (vs:=[.agg #[.int .u64 x,.int .u64 y]]) rfl fun _ F=>?_
 have M:=Mm.start w0;refine avq fun K1 gV=>ah<|Hf (on rfl) rfl (F.u rf) rfl F rfl M fun g1 _ _ F M=>xA (v:=.int .u64 0) F rf rf rf fun _ F=>avr<|gV _ _ ?_
 refine avq fun K2 h_=>ah<|xF 0 F rf rf rf Ie rf kf rf fun _ F=>xL F (M.b 0 rfl) rf rf rf Oi rf rf fun _ F=>xF 1 F rf rf rf Ie rf kf rf fun _ F=>xL F (M.b 0 rfl) rf rf rf Oi rf rf fun _ F=>kz F rf (V2 rfl (F.u rf) (F.u rf)) fun _ F=>kz F rf (Pm rfl (F.u rf)) fun _ F=>xA F rf rf rf fun _ F=>avr<|h_ _ _ ?_
 refine wp_ret<|bL _ _ _ _ F rfl ?_;exact⟨rfl,M.below⟩
theorem IL(w0:World)(x y:Int):Calls Tryz.prog 300 #[.agg #[.int .u64 x,.int .u64 y]] w0 (fun(r:Ending) (w':World)=>r=.returned (.int .u64 (bits .xor .u64 x y))∧avd w0.heap.size w0 w'):=by
 have bL:=hr1 Tryz.prog Tryz.f300 (fun(r:Ending) (w':World)=>r=.returned (.int .u64 (bits .xor .u64 x y))∧avd w0.heap.size w0 w') 8 2 rfl;refine en Tryz.func300 rfl Tryz.ntmps300 rfl (vs:=[.agg #[.int .u64 x,.int .u64 y]]) rfl fun _ F=>?_
 have M:=Mm.start w0;refine avq fun K1 gV=>ah<|Hf (on rfl) rfl (F.u rf) rfl F rfl M fun g1 _ _ F M=>xA (v:=.int .u64 0) F rf rf rf fun _ F=>avr<|gV _ _ ?_
 refine avq fun K2 h_=>ah<|xF 0 F rf rf rf Ie rf kf rf fun _ F=>xL F (M.b 0 rfl) rf rf rf Oi rf rf fun _ F=>xF 1 F rf rf rf Ie rf kf rf fun _ F=>xL F (M.b 0 rfl) rf rf rf Oi rf rf fun _ F=>kz F rf (V2 rfl (F.u rf) (F.u rf)) fun _ F=>xA F rf rf rf fun _ F=>avr<|h_ _ _ ?_
 refine wp_ret<|bL _ _ _ _ F rfl ?_;exact⟨rfl,M.below⟩
theorem E8(w0:World)(op:Int):Calls Tryz.prog 273 #[.int .i64 op] w0 (fun(r:Ending) (w':World)=>r=.returned (.func (.func (Qz op)) #[] #[])∧avd w0.heap.size w0 w'):=by
 exact cL [] (fn:=Tryz.f273) Tryz.func273 rfl Tryz.ntmps273 rfl<|an (fun a=>fun M=>⟨congrArg (fun n:Nat=>Ending.returned (.func (.func n) #[] #[])) (by unfold Qz;simp_all),M.below⟩) fun a=>an (fun b=>fun M=>⟨congrArg (fun n:Nat=>Ending.returned (.func (.func n) #[] #[])) (by unfold Qz;simp_all),M.below⟩) fun b=>an (fun c=>fun M=>⟨congrArg (fun n:Nat=>Ending.returned (.func (.func n) #[] #[])) (by unfold Qz;simp_all),M.below⟩) fun c=>fun M=>⟨congrArg (fun n:Nat=>Ending.returned (.func (.func n) #[] #[])) (by unfold Qz;simp_all),M.below⟩
theorem MU(w0:World)(v:Value)(l:List ByteArray)(h:SliceAt w0 v 1 l.length (l.flatMap aW))(x:ByteArray)(hx:x∈l):Calls Tryz.prog 272 #[v,.string x] w0 (fun(r:Ending) (w':World)=>r=.returned (.int .i64 ((mF l x:Int)))∧avd w0.heap.size w0 w'):=by
 obtain⟨_,_,rfl,-,hm5,-⟩:=SliceAt.form h (by decide);refine cL [] (fn:=Tryz.f272) Tryz.func272 rfl Tryz.ntmps272 rfl<|lr (ι:=Nat) (fun m=>[(8,.int .i64 (m:Int))]) (fun m _=>m≤l.length∧∀ j z,j<m→l[j]?=some z→x≠z) (fun m=>l.length-m) 0 (an ⟨⟨rfl,trivial⟩,fun M=>⟨M,ave _,fun j z h=>absurd h (Nat.not_lt_zero j)⟩⟩ ?_);intro m w M ⟨hm,hno⟩;refine an (fun h1=>?_) fun h1 M=>?_
 ·have hlt:m<l.length:=by simp at h1;omega
  obtain⟨y,hy⟩:∃ y,l[m]?=some y:=⟨_,avf hlt⟩;obtain⟨b,o,e,hc⟩:=SliceAt.elt h (fun _=>rfl) (by decide) hy hlt;refine ia<|an ⟨e,rfl,hlt⟩<|lc (x:=.string y)<|an (cF M.below hc 0 _ rfl)<|?_;refine an (fun h2 M=>⟨ri (X6 hy hno (Yv h2)).symm,M.below⟩) fun h2=>?_
  exact an (by omega)<|bk (m+1) ⟨rfl,trivial⟩ (fun M=>⟨M,by omega,Q0 hy hno (ab9 h2)⟩) (by dsimp only;omega)
 ·exact(U0 (by simp at h1;omega) hno hx).elim
theorem Nw(w0:World)(bi:Int)(hb0:0≤bi)(hb1:bi≤60)(nB:Nat)(hn:nB≤5):Calls Tryz.prog 271 #[.int .i64 bi,.int .i64 (nB:Int)] w0 (fun(r:Ending) (w':World)=>∃ v,r=.returned v∧((bT w' w0.heap.size v (fT bi 64))∧avd w0.heap.size w0 w')):=by
 have bL:=hr1 Tryz.prog Tryz.f271 (fun(r:Ending) (w':World)=>∃ v,r=.returned v∧((bT w' w0.heap.size v (fT bi 64))∧avd w0.heap.size w0 w')) 40 4 rfl;refine en Tryz.func271 rfl Tryz.ntmps271 rfl (vs:=[.int .i64 bi,.int .i64 (nB:Int)]) rfl fun _ F=>?_
 have M:=Mm.start w0;refine avq fun K1 gV=>ah<|xA (v:=.slice none 0 0) F rf rf rf fun _ F=>avr<|gV _ _ ?_
 refine avq fun K2 h_=>ah<|xM F rf rf rf fun _ F=>
  ke (on rfl) (j5 rfl rfl (F.u rf) (by omega) (show _≤((64:Nat):Int) by omega)) rfl F rfl (congrArg (Value.int .i64) (nt1 hn)) fun _ F=>
  ke (on rfl) (Ph rfl (F.u rf) rfl (by decide)) rfl F rfl (congrArg (Value.int .i64) (nt2 hn)) fun _ F=>
  ke (on rfl) (B6 rfl rfl (F.u rf)) rfl F rfl rfl fun _ F=>
  kn (f:=fun n=>.slice (some ⟨n,0,none⟩) 1 1) (on rfl) (zU rfl (F.u rf) (F.u rf) Xi Jp Sz rfl (by decide)) rfl F rfl M fun g1 _ _ F M=>
  xA F rf rf rf fun _ F=>
  avr<|
  h_ _ _ ?_
 refine avq fun K3 nh=>avq fun K4 n_=>ah<|xM F rf rf rf fun _ F=>kz F rf (fQ rfl (F.u rf) Xi) fun _ F=>xM (v:=.int .i64 0) F rf rf rf fun _ F=>avr<|n_ _ _ ?_
 refine wp_block<|?_;refine eH (ι:=Nat×Int) (fun|(t,x),a,w=>Fs a 40 [(0,.int .i64 bi),(5,.slice (some ⟨g1,0,none⟩) 1 1),(14,.int .i64 1),(15,.int .i64 (t:Int))]∧Mm w0 w [(g1,52,#[.int .u64 x])] []∧t≤1∧(t=0→x=0)∧(t=1→x=fT bi 64)) (fun|(t,x)=>1-t) (0,0) ⟨F.sub ⟨rfl,rfl,rfl,rfl,trivial⟩,M,ave _,⟨fun _=>rfl,fun h=>by cases h⟩⟩ ?_
 (repeat clear F);(repeat clear M)
 rintro⟨t,x⟩ _ _ ⟨F,M,ht,hx⟩;refine avq fun K5 nZ=>ah<|kz F rf (jf rfl (F.u rf) (F.u rf)) fun _ F=>avr<|nZ _ _ ?_
 refine avq fun K6 pN=>?_
 refine avt (F.e 16 rfl) (fun hc2=>?_) (fun hc2=>?_)
 ·have hd3:=of_decide_eq_true hc2;refine wp_skip<|pN _ _ ?_;refine avq fun K7 rR=>wp_block<|avq fun K8 wX=>?_
  have ht0:t=0:=by omega
  have F:=F.eq 15 rfl (congrArg (Value.int .i64) (show((t:Nat):Int)=0 by omega));refine ah<|xM F rf rf rf fun _ F=>xA F rf rf rf fun _ F=>avr<|wX _ _ ?_
  refine avq fun K9 yD=>ah<|xM (v:=.int .i64 0) F rf rf rf fun _ F=>avr<|yD _ _ ?_
  refine wp_block<|?_;refine eH (ι:=Nat×Int) (fun|(k,acc),a,w=>Fs a 40 [(0,.int .i64 bi),(5,.slice (some ⟨g1,0,none⟩) 1 1),(6,.int .i64 0),(14,.int .i64 1),(15,.int .i64 0),(18,.int .i64 (k:Int))]∧Mm w0 w [(g1,52,#[.int .u64 acc])] []∧k≤64∧acc=fT bi k) (fun|(k,acc)=>64-k) (0,x) ⟨F.sub ⟨rfl,rfl,rfl,rfl,rfl,rfl,trivial⟩,M,ave _,hx.1 ht0⟩ ?_
  (repeat clear F);(repeat clear M)
  rintro⟨k,acc⟩ _ _ ⟨F,M,hk,hacc⟩;refine avq fun WG lS=>ah<|kz F rf (jf rfl (F.u rf) rfl) fun _ F=>avr<|lS _ _ ?_
  refine avq fun Z7 qE=>?_
  refine avt (F.e 19 rfl) (fun Q_=>?_) (fun Q_=>?_)
  ·have Sq:=of_decide_eq_true Q_;refine wp_skip<|qE _ _ ?_;refine avq fun Z6 pI=>wp_block<|avq fun Z5 pH=>ah<|xM F rf rf rf fun _ F=>xA F rf rf rf fun _ F=>avr<|pH _ _ ?_
   refine avq fun K14 tC=>ah<|xM F rf rf rf fun _ F=>
    ke (on rfl) (V6 rfl (F.u rf) rfl) rfl F rfl (congrArg (Value.int .i64) (wrap_i64 (by omega))) fun _ F=>
    xM F rf rf rf fun _ F=>
    ke (on rfl) (eV rfl (F.u rf) (F.u rf)) rfl F rfl (congrArg (Value.int .i64) (wrap_i64 (by omega))) fun _ F=>
    xM F rf rf rf fun _ F=>
    kz F rf (Pg rfl (F.u rf) (F.u rf) (by omega) (show _≤((64:Nat):Int) by omega)) fun _ F=>
    kz F rf (JX rfl (F.u rf) rfl) fun _ F=>
    kz F rf (Pj rfl (F.u rf) rfl) fun _ F=>
    avr<|
    tC _ _ ?_
   refine avt (F.e 28 rfl) (fun rQ=>?_) (fun rQ=>?_)
   ·have hd7:=of_decide_eq_true rQ;have hbit:jO bi k=true:=rQ;refine rd 8 [29,30,31,32,33,34,35,36] [bZ (.slice (some ⟨g1,0,none⟩) 1 1),bZ (.int .i64 0),bZ (.pointer (some ⟨g1,0,none⟩)),bZ (.int .u64 acc),bZ (.int .i64 (k:Int)),bZ (.int .u64 (IntKind.u64.wrap (1*2^((k:Int):Int).toNat))),bZ (.int .u64 (bits .or .u64 acc (IntKind.u64.wrap (1*2^((k:Int):Int).toNat)))),bZ (.pointer (some ⟨g1,0,none⟩))] (by kernel_rfl) (by kernel_rfl) (by kernel_rfl) rfl (by decide) rfl rfl F ⟨ak _,ak _,ak _,ak _,ak _,ak _,ak _,ak _,trivial⟩ ⟨?_,?_,?_,?_,?_,?_,?_,?_,trivial⟩ ?_
    ·exact fun a w Q' hf hi H G hK=>dv (on rfl) (cQ rfl (G 5 _ rfl (F.g 5 rfl)).ev) rfl hf rfl hK rfl
    ·exact fun a w Q' hf hi H G hK=>dv (on rfl) (cQ rfl (G 6 _ rfl (F.g 6 rfl)).ev) rfl hf rfl hK rfl
    ·exact fun a w Q' hf hi H G hK=>dv (on rfl) (bE (i:=0) rfl (iA (H 0 ⟨.data,by simp,rfl⟩ _ _ rfl rfl)).ev (iA (H 1 ⟨.data,by simp,rfl⟩ _ _ rfl rfl)).ev (by omega) Xi kf) rfl hf rfl hK rfl
    ·exact fun a w Q' hf hi H G hK=>dv (on rfl) (bW rfl (iA (H 2 ⟨.data,by simp,rfl⟩ _ _ rfl rfl)).ev Oi rfl (((M.keep hi).b 0 rfl).c1 0)) rfl hf rfl hK rfl
    ·exact fun a w Q' hf hi H G hK=>dv (on rfl) (cQ rfl (G 7 _ rfl (F.g 7 rfl)).ev) rfl hf rfl hK rfl
    ·exact fun a w Q' hf hi H G hK=>dv (on rfl) (j5 rfl rfl (iA (H 4 ⟨.data,by simp,rfl⟩ _ _ rfl rfl)).ev (by omega) (show _≤((64:Nat):Int) by omega)) rfl hf rfl hK rfl
    ·exact fun a w Q' hf hi H G hK=>dv (on rfl) (V3 rfl (iA (H 3 ⟨.data,by simp,rfl⟩ _ _ rfl rfl)).ev (iA (H 5 ⟨.data,by simp,rfl⟩ _ _ rfl rfl)).ev) rfl hf rfl hK rfl
    ·exact fun a w Q' hf hi H G hK=>dv (on rfl) (bE (i:=0) rfl (iA (H 0 ⟨.data,by simp,rfl⟩ _ _ rfl rfl)).ev (iA (H 1 ⟨.data,by simp,rfl⟩ _ _ rfl rfl)).ev (by omega) Xi kf) rfl hf rfl hK rfl
    (repeat clear F);intro _ _ CQ F D
    obtain⟨_,h,rfl⟩:=D 6 _ _ rfl rfl;have F:=F.add h;obtain⟨_,h,rfl⟩:=D 7 _ _ rfl rfl;have F:=F.add h;have M:=M.keep CQ;clear D CQ;intro Qt Vm;refine ks (on rfl) rfl (F.u rf) (F.u rf) F M 0 (cs':=#[.int .u64 (bits .or .u64 acc (IntKind.u64.wrap (1*2^((k:Int):Int).toNat)))]) rfl rfl rfl kf rfl (jm _ _ rfl) rfl rfl fun _ M=>avr (Vm _ _ ?_)
    refine pI _ _ ?_
    refine ah<|
     ke (on rfl) (eV rfl (F.u rf) rfl) rfl F rfl (congrArg (Value.int .i64) (wrap_i64 (by omega))) fun _ F=>
     xM F rf rf rf fun _ F=>
     avr<|?_
    exact⟨(k+1,bits .or .u64 acc (IntKind.u64.wrap (1*2^((k:Int):Int).toNat))),⟨F.sub ⟨rfl,rfl,rfl,rfl,rfl,rfl,trivial⟩,M,by omega,by rw[Cu hbit,← hacc]⟩,by show 64-(k+1)<64-k;omega⟩
   ·have hd8:=of_decide_eq_false rQ;have hbit:jO bi k=false:=rQ;refine wp_skip<|pI _ _ ?_
    refine ah<|
     ke (on rfl) (eV rfl (F.u rf) rfl) rfl F rfl (congrArg (Value.int .i64) (wrap_i64 (by omega))) fun _ F=>
     xM F rf rf rf fun _ F=>
     avr<|?_
    exact⟨(k+1,acc),⟨F.sub ⟨rfl,rfl,rfl,rfl,rfl,rfl,trivial⟩,M,by omega,by rw[Ep hbit,← hacc]⟩,by show 64-(k+1)<64-k;omega⟩
  ·have hd9:=of_decide_eq_false Q_;refine wp_exit<|rR _ _ ?_;have F:=F.eq 15 rfl (congrArg (Value.int .i64) (show(0:Int)=((t:Nat):Int) by omega))
   refine ah<|
    ke (on rfl) (eV rfl (F.u rf) rfl) rfl F rfl (congrArg (Value.int .i64) (wrap_i64 (by omega))) fun _ F=>
    xM F rf rf rf fun _ F=>
    avr<|?_
   exact⟨(t+1,acc),⟨F.sub ⟨rfl,rfl,rfl,rfl,trivial⟩,M,by omega,⟨fun h=>by omega,fun _=>by rw[show k=64 by omega]at hacc;exact hacc⟩⟩,by show 1-(t+1)<1-t;omega⟩
 ·have aeM:=of_decide_eq_false hc2;refine wp_exit<|nh _ _ ?_;refine avq fun K15 rS=>ah<|xM F rf rf rf fun _ F=>xA F rf rf rf fun _ F=>avr<|rS _ _ ?_
  refine wp_ret<|bL _ _ _ _ F rfl ?_;exact⟨_,rfl,⟨_,rfl,(by have hW:=M.b 0 rfl;rw[hx.2 (by omega)]at hW;exact hW),M.lo _ (avh (i:=0) rfl)⟩,M.below⟩
inductive OpW (op:Int):Prop
 | and (h:Qz op=297) (hb:∀ x y,KF op x y=bits .and .u64 x y)
 | or (h:Qz op=298) (hb:∀ x y,KF op x y=bits .or .u64 x y)
 | same (h:Qz op=299) (hb:∀ x y,KF op x y=bits .xor .u64 18446744073709551615 (bits .xor .u64 x y))
 | diff (h:Qz op=300) (hb:∀ x y,KF op x y=bits .xor .u64 x y)
theorem opW(op:Int):OpW op:=by
 by_cases h3:op=3
 ·exact .and (by unfold Qz;rw[if_pos h3]) (fun x y=>by unfold KF;rw[if_pos h3])
 by_cases h4:op=4
 ·exact .or (by unfold Qz;rw[if_neg h3,if_pos h4]) (fun x y=>by unfold KF;rw[if_neg h3,if_pos h4])
 by_cases h6:op=6
 ·exact .same (by unfold Qz;rw[if_neg h3,if_neg h4,if_pos h6]) (fun x y=>by unfold KF;rw[if_neg h3,if_neg h4,if_pos h6])
 ·exact .diff (by unfold Qz;rw[if_neg h3,if_neg h4,if_neg h6]) (fun x y=>by unfold KF;rw[if_neg h3,if_neg h4,if_neg h6])
theorem xQ.Zj{d:Nat}{e:aq}(h:xQ d e)(h1:e.op≠1):0<e.kids.length:=by
 have h2:=h.kids;have h3:tT e.op≠0:=fun h4=>h1 (h.op1.1 h4)
 omega
theorem xQ.Zi{d:Nat}{e:aq}(h:eX d e)(h1:e.op≠1)(h2:e.op≠2):1<e.kids.length:=by
 cases h with
 | name _ _=>exact absurd rfl h1
 | not _=>exact absurd rfl h2
 | bin _ _ _ _=>exact Nat.lt_succ_self 1
theorem fC{e k:aq}(hk:k∈e.kids){s:ByteArray}(hs:s∈bh k):s∈bh e:=by
 rw[dR];refine List.mem_append_right _ ?_
 have:∀ l:List aq,k∈l→s∈bG l:=fun l=>by
  induction l with
  | nil=>intro h;cases h
  | cons a l ih=>
   intro h;rw[bG];rcases List.mem_cons.1 h with rfl|h
   ·exact List.mem_append_left _ hs
   ·exact List.mem_append_right _ (ih h)
 exact this _ hk
theorem Io{ns:List ByteArray}{e:aq}{sn:ByteArray}(h1:e.op=1)(hs:e.names=[sn]):fZ ns e=fT (mF ns sn:Int) 64:=by
 rw[EP,Tw,if_pos h1,hs];rfl
theorem Oq{ns:List ByteArray}{e y:aq}(h1:e.op≠1)(h2:e.op=2)(hy:e.kids[0]?=some y):fZ ns e=bits .xor .u64 18446744073709551615 (fZ ns y):=by
 rw[EP,Tw,if_neg h1,if_pos h2,tZ _ _ _ hy]
theorem Ot{ns:List ByteArray}{e y z:aq}(h1:e.op≠1)(h2:e.op≠2)(hy:e.kids[0]?=some y)(hz:e.kids[1]?=some z):fZ ns e=KF e.op (fZ ns y) (fZ ns z):=by
 rw[EP,Tw,if_neg h1,if_neg h2,tZ _ _ _ hy,tZ _ _ _ hz]
theorem P_(ns:List ByteArray)(hn:ns.length≤5):∀ (e:aq) (w0:World) (cs:List Value) (d:Nat),bf w0 cs e→eX d e→∀ lv:Value,SliceAt w0 lv 1 ns.length (ns.flatMap aW)→(∀ s∈bh e,s∈ns)→Calls Tryz.prog 231 #[.agg cs.toArray,lv] w0 (fun(r:Ending) (w':World)=>∃ v,r=.returned v∧((bT w' w0.heap.size v (fZ ns e))∧avd w0.heap.size w0 w')):=by
 refine aq.ind fun e ih=>?_
 intro w0 cs d hE hB lv hL hns;have hb:=hB.facts;obtain⟨nv,kv,rfl,C9,hk⟩:=hE.open;obtain⟨_,_,rfl,-,hng⟩:=aF.get C9;obtain⟨_,_,rfl,-,CP,-⟩:=au.form hk (by decide);obtain⟨_,_,rfl,-⟩:=SliceAt.form hL (by decide);refine cL [] (fn:=Tryz.f231) Tryz.func231 rfl Tryz.ntmps231 rfl<|fun g1 w1 M1=>lb 0<|an rfl<|an (fun h=>?_) fun h=>?_
 ·have h1:e.op=1:=by simpa using h
  obtain⟨sn,zR,hsI,hsO⟩:=hb.nm (hb.op1.2 h1);have iT:sn∈ns:=hns sn (by rw[dR,zR];exact List.mem_append_left _ (avn.2 rfl));have WM:=mQ iT;obtain⟨b,o,e1,hc⟩:=hng 0 sn (by rw[zR];rfl);exact lb 0<|an rfl<|ia (i:=0)<|an ⟨e1,rfl,by rw[zR];exact Nat.zero_lt_one⟩<|lc (x:=.string sn)<|an (cell_later M1.below hc)<|cl<|an (MU _ _ ns (hL.keep M1.below) sn iT) fun w2 M2=>cst M2 (Nw _ (mF ns sn:Int) (by omega) (by omega) ns.length hn) fun g w M M=>⟨_,rfl,⟨_,rfl,by have hW:=M.b 0 rfl;rw[Io h1 zR];exact hW,M.lo _ (avh (i:=0) rfl)⟩,M.below⟩
 have h1:e.op≠1:=by simpa using h
 have U_:=hb.Zj h1;obtain⟨y,hy⟩:∃ y,e.kids[0]?=some y:=⟨_,avf U_⟩;have qz:=avh hy;obtain⟨b,o,_,e1,qF,hc⟩:=au.elt hk (by decide) hy;obtain⟨nv',kv',rfl,-⟩:=qF.open;obtain⟨dy,-,hBy⟩:=hb.Zk y qz;refine lb 0<|an rfl<|ia (i:=0)<|an ⟨e1,rfl,U_⟩<|lc<|an (cF M1.below hc)<|cst M1 (ih y qz _ _ dy (qF.keep M1.below) hBy _ (hL.keep M1.below) (fun t ht=>hns t (fC qz ht))) fun gy w3 M3=>lb 1<|an rfl<|an (fun h2=>?_) fun h2=>?_
 ·refine lp (ι:=Nat×Int) (fun(t,x)=>[(33,.int .i64 (t:Int))]) (fun(t,x)=>(gy,52,#[.int .u64 x])::_) (fun _=>[]) (fun(t,x) _=>t≤1∧(t=0→x=fZ ns y)∧(t=1→x=bits .xor .u64 18446744073709551615 (fZ ns y))) (fun(t,x)=>1-t) (0,fZ ns y) (an ⟨⟨rfl,trivial⟩,fun M=>⟨M,by decide,fun _=>rfl,fun h=>by cases h⟩⟩ ?_);rintro⟨t,x⟩ w M ⟨ht,hx0,hx1⟩;refine an (fun h=>?_) fun h M=>⟨_,rfl,⟨_,rfl,by have hW:=M.b 0 rfl;rw[Oq h1 (by simpa using h2) hy,← hx1 (by simp at h;omega)];exact hW,M.lo _ (avh (i:=0) rfl)⟩,M.below⟩
  obtain rfl:t=0:=by simp at h;omega
  obtain rfl:=hx0 rfl;exact ia (i:=0)<|an ⟨rfl,rfl,by decide⟩<|lb 0<|an rfl<|ei (x:=.int .u64 (bits .xor .u64 18446744073709551615 (fZ ns y)))<|an (fun a w o ho hv=>Pm ho (kB hv))<|ia (i:=0)<|an ⟨rfl,rfl,by decide⟩<|lb 0<|an ⟨⟨rfl,rfl⟩,Nat.le_refl _⟩ fun w M=>an (by omega)<|bk (1,bits .xor .u64 18446744073709551615 (fZ ns y)) ⟨rfl,trivial⟩ (fun M=>⟨M,by omega,(fun h=>by cases h),fun _=>rfl⟩) (by dsimp only;omega)
 have h2:e.op≠2:=by simpa using h2
 have hlz:=xQ.Zi hB h1 h2;obtain⟨z,hz⟩:∃ z,e.kids[1]?=some z:=⟨_,avf hlz⟩;have hzm:=avh hz;obtain⟨bz,oz,_,e2,ZF,hcz⟩:=au.elt hk (by decide) hz;obtain⟨nvz,kvz,rfl,-⟩:=ZF.open;obtain⟨dz,-,hBz⟩:=hb.Zk z hzm;rcases opW e.op with⟨hf,hop⟩|⟨hf,hop⟩|⟨hf,hop⟩|⟨hf,hop⟩
 all_goals
  refine lb 1<|an rfl<|cl<|an (hf▸E8 _ e.op :) fun w4 M4=>lb 1<|an rfl<|ia (i:=1)<|an ⟨e2,rfl,hlz⟩<|lc<|an (cF M4.below hcz)<|cst M4 (ih z hzm _ _ dz (ZF.keep M4.below) hBz _ (hL.keep M4.below) (fun t ht=>hns t (fC hzm ht))) fun gz w5 M5=>lp (ι:=Nat×Int) (fun(t,x)=>[(56,.int .i64 (t:Int))]) (fun(t,x)=>_::(gy,52,#[.int .u64 x])::_) (fun _=>[]) (fun(t,x) _=>t≤1∧(t=0→x=fZ ns y)∧(t=1→x=KF e.op (fZ ns y) (fZ ns z))) (fun(t,x)=>1-t) (0,fZ ns y) (an ⟨⟨rfl,trivial⟩,fun M=>⟨M,by decide,fun _=>rfl,fun h=>by cases h⟩⟩ ?_)
  rintro⟨t,x⟩ w M ⟨ht,hx0,hx1⟩;refine an (fun h=>?_) fun h M=>⟨_,rfl,⟨_,rfl,by have hW:=M.b 1 rfl;rw[Ot h1 h2 hy hz,← hx1 (by simp at h;omega)];exact hW,M.lo _ (avh (i:=1) rfl)⟩,M.below⟩
  obtain rfl:t=0:=by simp at h;omega
  obtain rfl:=hx0 rfl;exact ia (i:=0)<|an ⟨rfl,rfl,by decide⟩<|lb 0<|an rfl<|ia (i:=0)<|an ⟨rfl,rfl,by decide⟩<|lb 1<|an rfl<|ei (x:=.agg #[.int .u64 (fZ ns y),.int .u64 (fZ ns z)])<|an (bd (by kernel_rfl))<|cl (v:=.int .u64 (KF e.op (fZ ns y) (fZ ns z)))<|an (by rw[hop];first|exact T5 _ _ _|exact XH _ _ _|exact Qv _ _ _|exact IL _ _ _) fun w6 M6=>ia (i:=0)<|an ⟨rfl,rfl,by decide⟩<|lb 1<|an ⟨⟨rfl,rfl⟩,Nat.le_refl _⟩ fun w M=>an (by omega)<|bk (1,KF e.op (fZ ns y) (fZ ns z)) ⟨rfl,trivial⟩ (fun M=>⟨M,by omega,(fun h=>by cases h),fun _=>rfl⟩) (by dsimp only;omega)
theorem eX.some{d:Nat}{e:aq}(h:eX d e):0<(bh e).length:=by
 induction h with
 | name _ _=>rw[bh];simp
 | not _ ih=>rw[bh,bG,bG];simpa using ih
 | bin _ _ _ _ ih _=>rw[bh,bG];simp only[List.nil_append,avo];omega
theorem eX.adA{d:Nat}{e:aq}(h:eX d e):0<(dh e).length:=by
 obtain⟨s,hs⟩:∃ s,s∈bh e:=by
  have:=h.some
  cases hl:bh e with
  | nil=>rw[hl]at this;cases this
  | cons a l=>exact⟨a,avi ..⟩
 exact List.length_pos_of_mem ((oI e s).2 hs)
def fG(e:aq):Bool:=decide (bits .and .u64 (fZ (dh e) e) (aK (dh e).length)=aK (dh e).length)
def lX(e:aq):Bool:=decide (bits .and .u64 (fZ (dh e) e) (aK (dh e).length)=0)
theorem F2(w0:World)(cs:List Value)(e:aq)(d:Nat)(hE:bf w0 cs e)(hBE:eX d e)(hd:d≤12)(hn:(dh e).length≤5):Calls Tryz.prog 171 #[.agg cs.toArray] w0 (fun(r:Ending) (w':World)=>r=.returned (.tuple #[.bool (fG e),.bool (fG e||lX e)])∧avd w0.heap.size w0 w'):=by
 have hn0:=hBE.adA;have hE0:=hE;obtain⟨_,_,rfl,hnn,hkk⟩:=hE0.open;obtain⟨_,_,rfl,-⟩:=aF.get hnn;obtain⟨_,_,rfl,-⟩:=au.form hkk (by decide);refine cL [] (fn:=Tryz.f171) Tryz.func171 rfl Tryz.ntmps171 rfl<|fun g1 w1 M1=>lb 0<|an rfl<|Hg M1 (Ny _ _ e d (hE.keep M1.below) hBE hd) fun ta tc w2 M2=>?_
 refine an (fun h=>?_) fun _=>?_
 ·exfalso;simp only[Bool.or_eq_true,decide_eq_true_eq]at h;omega
 refine cl<|an (RM _ (dh e).length hn) fun w3 M3=>lb 0<|an rfl<|cst M3 (P_ (dh e) hn e _ _ d (hE.keep M3.below) hBE _ (SliceAt.bF (M3.r 0 rfl) (ET _)) (fun t ht=>(oI e t).2 ht)) fun gt w4 M4=>?_
 refine lr (ι:=Nat×Bool×Bool) (fun(t,x,z)=>[(6,.bool x),(7,.bool z),(27,.int .i64 (t:Int))]) (fun(t,x,z) _=>t≤1∧(t=0→x=true∧z=true)∧(t=1→x=fG e∧z=lX e)) (fun(t,x,z)=>1-t) (0,true,true) (an ⟨⟨rfl,rfl,rfl,trivial⟩,fun M=>⟨M,ave _,fun _=>⟨rfl,rfl⟩,fun h=>by cases h⟩⟩ ?_);rintro⟨t,x,z⟩ w M ⟨ht,h0,h1⟩;refine an (fun h=>?_) fun h M=>?_
 ·obtain rfl:t=0:=by simp at h;omega
  obtain⟨rfl,rfl⟩:=h0 rfl;refine ia (i:=0)<|an ⟨rfl,rfl,by decide⟩<|lb 0<|an rfl<|ei (x:=bits .and .u64 (fZ (dh e) e) (aK (dh e).length))<|an (fun _=>rfl)<|ei (x:=bits .and .u64 (fZ (dh e) e) (aK (dh e).length))<|an (fun _=>rfl)<|?_;exact an (by omega)<|bk (1,fG e,lX e) ⟨rfl,rfl,rfl,trivial⟩ (fun M=>⟨M,by omega,(fun h=>by cases h),fun _=>⟨rfl,rfl⟩⟩) (by dsimp only;omega)
 ·obtain⟨rfl,rfl⟩:=h1 (by simp at h;omega);exact⟨by cases fG e<;>rfl,M.below⟩
def isNum(nB:Nat)(op a:Int):Bool:=decide (op=1)&&decide (0≤a)&&decide (a<(nB:Int))
mutual
def aI(bl:List dP):aq→aq
 | .node op a _ _ _ _ kids=>if isNum bl.length op a=true then .node op 0 0 0 [((bl[a.toNat]?).map (·.name)).getD ⟨#[]⟩] ay.zero [] else .node op 0 0 0 [] ay.zero (Uk bl kids)
def Uk(bl:List dP):List aq→List aq
 | []=>[]
 | k::l=>aI bl k::Uk bl l
end
theorem jV(bl:List dP):∀ l,Uk bl l=l.map (aI bl)
 | []=>by rw[Uk];rfl
 | k::l=>by rw[Uk,List.map_cons,jV bl l]
theorem OU{bl:List dP}{e:aq}{k:Nat}{y:dP}(h1:e.op=1)(ha:e.a=(k:Int))(hk:k<bl.length)(hy:bl[k]?=some y):aI bl e=.node e.op 0 0 0 [y.name] ay.zero []:=by
 cases e with
 | node op a rel b names set kids=>
  have h1:op=1:=h1;have ha:a=(k:Int):=ha;rw[aI,if_pos (by unfold isNum;simp[h1,ha,hk]),ha,Int.toNat_natCast,hy];rfl
theorem Ui{bl:List dP}{e:aq}(h:¬ (e.op=1∧0≤e.a∧e.a<(bl.length:Int))):aI bl e=.node e.op 0 0 0 [] ay.zero (e.kids.map (aI bl)):=by
 cases e with
 | node op a rel b names set kids=>
  have h:¬ (op=1∧0≤a∧a<(bl.length:Int)):=h;rw[aI,if_neg (by unfold isNum;simp only[avc,decide_eq_true_eq];exact fun h2=>h ⟨h2.1.1,h2.1.2,h2.2⟩),jV];rfl
theorem Uj{bl:List dP}{l:List aq}{m:Nat}{y:aq}(hy:l[m]?=some y):(l.map (aI bl))[m]?=some (aI bl y):=by rw[avg,hy];rfl
theorem Fc(p:aC)(_:p.Ok):∀ (e:aq) (w0:World) (cs:List Value),bf w0 cs e→mw e→∀ (c0 c1 c2 c3 c4 c5 c6 c7 c8 c9 aV aP aO aU aT aS aR:Value),aM w0 c0 c1 c2 c3 c4 c5 c6 c7 c8 c9 aV aP aO aU aT aS aR p→Calls Tryz.prog 172 #[.agg cs.toArray,.agg #[c0,c1,c2,c3,c4,c5,c6,c7,c8,c9,aV,aP,aO,aU,aT,aS,aR]] w0 (fun(r:Ending) (w':World)=>∃ v,r=.returned v∧(vu w0 (aI p.bools e) v w'∧avd w0.heap.size w0 w')):=by
 refine aq.ind fun e ih=>?_
 intro w0 cs hE iT c0 c1 c2 c3 c4 c5 c6 c7 c8 c9 aV aP aO aU aT aS aR hp;obtain⟨nv,kv,rfl,C9,hkv⟩:=hE.open;obtain⟨_,_,rfl,-⟩:=aF.get C9;obtain⟨_,_,rfl,-,hkm,-⟩:=au.form hkv (by decide);obtain⟨_,_,_,_,_,_,_,_,_,_,_,_,_,_,_,_,_,_,_,_,_,_,_,_,_,_,_,_,_,_,_,_,_,_,rfl,rfl,rfl,rfl,rfl,rfl,rfl,rfl,rfl,rfl,rfl,rfl,rfl,rfl,rfl,rfl,rfl⟩:=hp.open;refine cL [] (fn:=Tryz.f172) Tryz.func172 rfl Tryz.ntmps172 rfl<|fun g1 w1 M1=>fun g2 w2 M2=>ei<|an rM fun g3 w3 M3=>lb 2<|an rfl<|lb 2<|an (fun _=>rfl)<|lb 2<|an (fun _=>rfl)<|lb 1<|an (fun _=>rfl)<|an (fun h=>?_) fun h=>?_
 ·obtain⟨⟨h1,h2⟩,h3⟩:(e.op=1∧0≤e.a)∧e.a<p.bools.length:=by simpa using h
  obtain⟨y,hy⟩:∃ y,p.bools[e.a.toNat]?=some y:=⟨_,avf (by omega)⟩;obtain⟨b,o,e1,hc⟩:=SliceAt.elt hp.bools (fun _=>rfl) (by decide) hy (by omega);rw[OU h1 (k:=e.a.toNat) (by omega) (by omega) hy];exact sp [0,1,2,3,4,5,6,7,8] (.step 9 (.step 10 (.last 11))) [0,1] (by kernel_rfl)<|lb 0<|an rfl<|lb 1<|an rfl<|lb 0<|an rfl<|ia<|an ⟨e1,(avu h2).symm,by omega⟩<|lc (x:=.string y.name)<|an (fun u hu=>cF hu hc 0 _ rfl)<|fun w hb M=>fun g w M=>an rfl<|ei (x:=.agg #[.int .i64 e.op,.int .i64 0,.int .i64 0,.int .i64 0,.slice (some ⟨g,0,none⟩) 1 1,.int .u64 0,.int .u64 0,.int .u64 0,.int .u64 0,.slice none 0 0])<|an (bd (by kernel_rfl))<|an rfl<|lb 1<|an ⟨rfl,rfl⟩ fun w M=>ei (x:=1)<|an rfl fun M=>⟨_,rfl,⟨_,_,_,_,[⟨.slice none 0 0,89,10,0,[]⟩,⟨.slice (some ⟨g,0,none⟩) 1 1,9,1,1,[.string y.name]⟩],rfl,bV.node (es:=[]) rfl rfl (avj _ (avn.2 rfl)) (avi ..) rfl (by simp) (by simp),((M.Ct 1 1 (by simp[maxLen]) rfl).bC 89 10).dV⟩,M.below⟩
 rw[Ui (fun h'=>by simp[h'.1,h'.2.1,h'.2.2]at h)];refine lb 2<|an rfl<|ei (x:=.agg #[.int .i64 e.op,.int .i64 0,.int .i64 0,.int .i64 0,.slice none 0 0,.int .u64 0,.int .u64 0,.int .u64 0,.int .u64 0,.slice none 0 0])<|an (bd (by kernel_rfl))<|ei<|an rM fun g5 w5 M5=>lb 0<|an ⟨rfl,rfl⟩ fun w6 M6=>lb 3<|an rfl<|?_
 refine lp (ι:=Nat×Value×List (List Value)×List Rw) (fun(m,u,es,T)=>[(41,.int .i64 (m:Int))]) (fun(m,u,es,T)=>(g5,89,#[.int .i64 e.op,.int .i64 0,.int .i64 0,.int .i64 0,.slice none 0 0,.int .u64 0,.int .u64 0,.int .u64 0,.int .u64 0,u])::_) (fun(m,u,es,T)=>⟨u,89,10,m,es.flatten⟩::⟨.slice none 0 0,9,1,0,[]⟩::T) (fun(m,u,es,T) _=>m≤e.kids.length∧es.length=m∧(∀ x∈es,x.length=10)∧∀ (i:Nat) x y,es[i]?=some x→(e.kids.map (aI p.bools))[i]?=some y→bV T x y) (fun(m,u,es,T)=>e.kids.length-m) (0,.slice none 0 0,[],[]) (an ⟨⟨rfl,trivial⟩,fun M=>⟨(M.bC 9 1).bC 89 10,ave _,rfl,(fun _ h=>by cases h),fun i x y h=>by simp at h⟩⟩ ?_);rintro⟨m,u,es,T⟩ w M ⟨hm,hl,he,hR⟩;refine an (fun h=>?_) fun h=>?_
 ·have hlt:m<e.kids.length:=by simp at h;omega
  obtain⟨y,hy⟩:∃ y,e.kids[m]?=some y:=⟨_,avf hlt⟩;have qz:=avh hy;obtain⟨b,o,_,e1,qF,hc⟩:=au.elt hkv (by decide) hy;obtain⟨_,_,rfl,hn',hk'⟩:=qF.open;obtain⟨_,_,rfl,-⟩:=aF.get hn';obtain⟨_,_,rfl,-⟩:=au.form hk' (by decide);have hkl:=iT.parts.2.1;refine ia<|an ⟨e1,rfl,hlt⟩<|lc<|an (cF M.below hc)<|ei<|an rM fun g6 w7 M7=>lb 0<|an ⟨rfl,rfl⟩ fun w8 M8=>sp [0,1,2,3,7] (.step 4 (.step 5 (.step 6 (.last 8)))) [1,3,4] (by kernel_rfl)<|lb 1<|an rfl<|lb 2<|an rfl<|lb 0<|an rfl<|fun w9 Zv M9=>cg<|an (ih y qz _ _ (qF.keep M9.below) (iT.parts.2.2 y qz) _ _ _ _ _ _ _ _ _ _ _ _ _ _ _ _ _ (hp.keep M9.below)) fun v tS ⟨⟨na,nc,ka,kc,T9,hv,D9,Fx⟩,zh⟩=>⟨_,_,M9.dS zh Fx,?_⟩
  subst hv;exact an rfl<|fun g7 Dw M11=>an rfl<|KJ 0 id rfl (M11.slice 0 rfl (k:=10) (n:=1) rfl rfl (by simp[maxLen])) ⟨by unfold maxLen;omega,by omega⟩ fun va vc He Dr=>an rfl<|lb 2<|an ⟨rfl,rfl⟩ fun KE vI=>an (by omega)<|bk (m+1,.slice va (m+1) vc,es++[[.int .i64 (aI p.bools y).op,.int .i64 (aI p.bools y).a,.int .i64 (aI p.bools y).rel,.int .i64 (aI p.bools y).b,.slice na (aI p.bools y).names.length nc,.int .u64 (aI p.bools y).set.a,.int .u64 (aI p.bools y).set.b,.int .u64 (aI p.bools y).set.c,.int .u64 (aI p.bools y).set.d,.slice ka (aI p.bools y).kids.length kc]],T++T9) ⟨rfl,trivial⟩ (fun M=>⟨(M.only (.cons _ (.cons _ (.refl _))) (.refl _)).cast rfl (by dsimp only;rw[← fP];rfl),by omega,by rw[avo,hl];rfl,i_ he rfl,q_ (R:=bV) (fun _ _ _ _ hs h=>bV.mono hs h) hl hR (Uj hy) (fun r hr=>avm.2 (.inl hr)) (D9.mono fun r hr=>avm.2 (.inr hr))⟩) (by dsimp only;omega)
 obtain rfl:m=e.kids.length:=by simp at h;omega
 obtain⟨x1,y1,rfl⟩:=M.form 0 rfl;refine lb 0<|an rfl<|lb 1<|an ⟨rfl,rfl⟩ fun w M=>ei (x:=1)<|an rfl fun M=>⟨_,rfl,⟨none,0,x1,y1,_,(by rw[show(aq.node e.op 0 0 0 [] ay.zero (e.kids.map (aI p.bools))).kids.length=e.kids.length from avk ..];rfl),?_,M.dV⟩,M.below⟩
 rw[show(aq.node e.op 0 0 0 [] ay.zero (e.kids.map (aI p.bools))).kids.length=e.kids.length from avk ..];exact bV.node (names:=[]) (set:=ay.zero) (es:=es) rfl rfl (avj _ (avi ..)) (by rw[avk];exact avi ..) (by rw[avk];exact hl) he fun i x y h1 h2=>(hR i x y h1 h2).mono fun r hr=>avj _ (avj _ hr)
def fF(x n:Int):Nat→List Int→Int
 | _,[]=>0
 | i,y::l=>if y=x then (i:Int)+1 else if y=n then -(i:Int)-1 else fF x n (i+1) l
theorem JI{x n y:Int}{m:Nat}{l:List Int}(hy:l[m]?=some y)(h1:y≠x)(h2:y≠n):fF x n m (l.drop m)=fF x n (m+1) (l.drop (m+1)):=by
 obtain⟨hm,rfl⟩:=avs.1 hy;rw[List.drop_eq_getElem_cons hm,fF,if_neg h1,if_neg h2]
theorem ZH{x n y:Int}{m:Nat}{l:List Int}(hy:l[m]?=some y)(h1:y=x):fF x n m (l.drop m)=(m:Int)+1:=by
 obtain⟨hm,rfl⟩:=avs.1 hy;rw[List.drop_eq_getElem_cons hm,fF,if_pos h1]
theorem ZI{x n y:Int}{m:Nat}{l:List Int}(hy:l[m]?=some y)(h1:y≠x)(h2:y=n):fF x n m (l.drop m)=-(m:Int)-1:=by
 obtain⟨hm,rfl⟩:=avs.1 hy;rw[List.drop_eq_getElem_cons hm,fF,if_neg h1,if_pos h2]
theorem O7{x n:Int}{m:Nat}{l:List Int}(hm:m=l.length):fF x n m (l.drop m)=0:=by rw[hm,List.drop_length,fF]
def jE(N:List ((Unit×Int)×Nat)):List Int:=N.map fun z=>z.1.2
theorem SX{N:List ((Unit×Int)×Nat)}{m:Nat}{z:(Unit×Int)×Nat}(h:N[m]?=some z):(jE N)[m]?=some z.1.2:=by unfold jE;rw[avg,h];rfl
theorem vR(N:List ((Unit×Int)×Nat)):(jE N).length=N.length:=avk ..
theorem rA{w:World}{g:Nat}{x:Int}(h:Whole w g 52 #[.int .u64 x]):SliceAt w (.slice (some ⟨g,0,none⟩) 1 1) 1 [x].length ([x].flatMap Og):=yg (cs:=[.int .u64 x]) h rfl (fun u hu=>by rw[avn.1 hu];rfl)
theorem Rk(w0:World)(v:Value)(N:List ((Unit×Int)×Nat))(hs:SliceAt w0 v 1 N.length (N.flatMap r_))(hN:cH w0 0 N)(hl:N.length≤100000)(gx gn:Nat)(x n:Int)(hX:Whole w0 gx 52 #[.int .u64 x])(hNx:Whole w0 gn 52 #[.int .u64 n]):Calls Tryz.prog 174 #[v,.slice (some ⟨gx,0,none⟩) 1 1,.slice (some ⟨gn,0,none⟩) 1 1] w0 (fun(r:Ending) (w':World)=>r=.returned (.int .i64 (fF x n 0 (jE N)))∧avd w0.heap.size w0 w'):=by
 obtain⟨_,_,rfl,-⟩:=hs.form (by decide);refine cL [] (fn:=Tryz.f174) Tryz.func174 rfl Tryz.ntmps174 rfl<|lr (ι:=Nat) (fun m=>[(11,.int .i64 (m:Int))]) (fun m _=>m≤N.length∧fF x n 0 (jE N)=fF x n m ((jE N).drop m)) (fun m=>N.length-m) 0 (an ⟨⟨rfl,trivial⟩,fun M=>⟨M,ave _,rfl⟩⟩ ?_);intro m w M ⟨hm,hI⟩;refine an (fun h=>?_) fun h M=>⟨ri (hI.trans (O7 (by rw[vR];simp at h;omega))),M.below⟩
 have hlt:m<N.length:=by simp at h;omega
 obtain⟨z,hz⟩:∃ z,N[m]?=some z:=⟨_,avf hlt⟩;obtain⟨b,o,e,hc⟩:=SliceAt.elt hs (fun _=>rfl) (by decide) hz hlt;have hzw:=(hN z (avh hz)).1;have hy:=SX hz;refine ia<|an ⟨e,rfl,hlt⟩<|lc (x:=.slice (some ⟨z.2,0,none⟩) 1 1)<|an (cF M.below hc 0 _ rfl)<|cl<|an (qK _ _ _ [z.1.2] [x] (rA (Whole.under M.below hzw hzw.lt)) (rA (Whole.under M.below hX hX.lt))) fun w1 M1=>?_
 refine an (fun h1=>an (by omega) fun M=>⟨ri (hI.trans (ZH hy (by simpa using h1))),M.below⟩) fun h1=>?_
 have h1:z.1.2≠x:=by simpa using h1
 refine cl<|an (qK _ _ _ [z.1.2] [n] (rA (Whole.under M1.below hzw hzw.lt)) (rA (Whole.under M1.below hNx hNx.lt))) fun w2 M2=>?_
 refine an (fun h2=>an (by omega)<|an (by omega) fun M=>⟨ri (by rw[hI,ZI hy h1 (by simpa using h2)];omega),M.below⟩) fun h2=>?_
 exact an (by omega)<|bk (m+1) ⟨rfl,trivial⟩ (fun M=>⟨M,by omega,hI.trans (JI hy h1 (by simpa using h2))⟩) (by dsimp only;omega)
theorem aY.Vy{B:Nat}{w0 w w':World}{bs bs':List Bx}{rs rs':List Rw}(M:aY B w0 w bs rs)(N:aY w.heap.size w w' bs' rs'):aY B w0 w' (bs'++bs) (rs++rs'):=by
 have hb:=N.below;have M':=M.keep hb;have R:=M.dS hb N.dV;refine⟨M'.below,M'.le,M'.old,fun b h=>?_,fun b h=>?_,?_,R.row,fun r hr b h=>?_,R.wv⟩
 ·rcases avm.1 h with h|h
  ·exact N.box b h
  ·exact M'.box b h
 ·rcases avm.1 h with h|h
  ·exact avl M.big (N.lo b h)
  ·exact M'.lo b h
 ·rw[List.map_append];refine List.nodup_append.2 ⟨N.nd,M.nd,?_⟩;intro x hx y hy e;obtain⟨b,hb1,rfl⟩:=avp.1 hx;obtain⟨c,hc1,rfl⟩:=avp.1 hy;have h1:=N.lo b hb1;have h2:=(M.box c hc1).lt;omega
 ·rcases avm.1 h with h|h
  ·rcases avm.1 hr with hr|hr
   ·intro e;have h1:=((M.row r hr).lt _ e).2;have h2:=N.lo b h;omega
   ·exact N.far r hr b h
  ·exact R.far r hr b h
def eB{α:Type}(f:Int→Option α)(k:Int)(v:α):Int→Option α:=fun j=>if j=k then some v else f j
def z8{α:Type}(c:α→Value)(L:List (Int×Value))(f:Int→Option α):Prop:=∀ k,jI L k=(f k).map c
theorem z8.nil{α:Type}(c:α→Value):z8 c [] (fun _=>none):=fun _=>rfl
theorem z8.put{α:Type}{c:α→Value}{L:List (Int×Value)}{f:Int→Option α}(h:z8 c L f)(k:Int)(v:α):z8 c ((k,c v)::gX L k) (eB f k v):=fun j=>by
 rw[zN];unfold eB;by_cases e:j=k
 ·rw[if_pos e,if_pos e];rfl
 ·rw[if_neg e,if_neg e,h j]
theorem z8.get{α:Type}{c:α→Value}{L:List (Int×Value)}{f:Int→Option α}(h:z8 c L f)(k:Int)(z:α):(jI L k).getD (c z)=c ((f k).getD z):=by
 rw[h k];cases f k<;>rfl
def eF(c:Int):Int:=if c<0-c then 0-c else c
def mJ(l:List aj)(f:Int→Option Bool):Int→Option Bool:=l.foldl (fun g y=>eB g (eF y.cond) true) f
def nF(l:List bM)(f:Int→Option Bool):Int→Option Bool:=l.foldl (fun g y=>eB g (eF y.cond) true) f
def fI(p:aC):Int→Option Bool:=nF p.trans (mJ p.rules fun _=>none)
theorem Lr{l:List aj}{f:Int→Option Bool}{m:Nat}{y:aj}(hy:l[m]?=some y):mJ (l.take (m+1)) f=eB (mJ (l.take m) f) (eF y.cond) true:=by
 unfold mJ;rw[bw hy,List.foldl_append];rfl
theorem Lq{l:List bM}{f:Int→Option Bool}{m:Nat}{y:bM}(hy:l[m]?=some y):nF (l.take (m+1)) f=eB (nF (l.take m) f) (eF y.cond) true:=by
 unfold nF;rw[bw hy,List.foldl_append];rfl
structure ox where
 pE:Int→Option Int
 ev:Int→Option Bool
 nv:Int→Option Bool
 seen:List Int
 kids:List aq
def cW(i:Nat)(k:Int)(s:ox):ox:={ s with pE:=eB (eB s.pE ((i:Int)+1) k) (0-((i:Int)+1)) (0-k) }
def ct(p:aC)(i:Nat)(e:aq)(s:ox):ox:=
 if (fG (aI p.bools e)||lX (aI p.bools e))=true then { s with ev:=eB (eB s.ev ((i:Int)+1) (fG (aI p.bools e))) (0-((i:Int)+1)) (!fG (aI p.bools e)),nv:=eB (eB s.nv ((i:Int)+1) (!fG (aI p.bools e))) (0-((i:Int)+1)) (fG (aI p.bools e)) }
 else if (fI p ((i:Int)+1)).getD false=false then s
 else
  let x:=bN (aK p.bools.length) p.bools.length e
  let k:=fF x (notM (aK p.bools.length) x) 0 s.seen
  if k=0 then cW i ((s.seen.length:Int)+1) { s with seen:=s.seen++[x],kids:=s.kids++[e] } else cW i k s
def jC(p:aC)(i:Nat):List aq→ox→ox
 | [],s=>s
 | e::l,s=>jC p (i+1) l (ct p i e s)
def cs0:ox:=⟨fun _=>none,fun _=>none,fun _=>none,[],[]⟩
def bn(p:aC)(m:Nat):ox:=jC p 0 (p.conds.take m) cs0
theorem Ck(p:aC):∀ (l:List aq) (i:Nat) (s:ox) (e:aq),jC p i (l++[e]) s=ct p (i+l.length) e (jC p i l s)
 | [],i,s,e=>rfl
 | y::l,i,s,e=>by
  rw[List.cons_append,jC,jC,Ck p l (i+1) _ e,List.length_cons];congr 1;omega
theorem jg{p:aC}{m:Nat}{e:aq}(hy:p.conds[m]?=some e):bn p (m+1)=ct p m e (bn p m):=by
 obtain⟨hm,-⟩:=avs.1 hy;unfold bn;rw[bw hy,Ck,List.length_take,Nat.min_eq_left (by omega),Nat.zero_add]
theorem PD{c:Int}(h1:-1000000≤c)(h2:c≤1000000):iR (eF c):=by unfold eF;split<;>constructor<;>omega
theorem qO{p:aC}{m:Nat}{e:aq}(hy:p.conds[m]?=some e)(h:(fG (aI p.bools e)||lX (aI p.bools e))=true):bn p (m+1)={ bn p m with ev:=eB (eB (bn p m).ev ((m:Int)+1) (fG (aI p.bools e))) (0-((m:Int)+1)) (!fG (aI p.bools e)),nv:=eB (eB (bn p m).nv ((m:Int)+1) (!fG (aI p.bools e))) (0-((m:Int)+1)) (fG (aI p.bools e)) }:=by rw[jg hy,ct,if_pos h]
theorem uV{p:aC}{m:Nat}{e:aq}(hy:p.conds[m]?=some e)(h:(fG (aI p.bools e)||lX (aI p.bools e))=false)(hu:(fI p ((m:Int)+1)).getD false=false):bn p (m+1)=bn p m:=by rw[jg hy,ct,if_neg (by rw[h];decide),if_pos hu]
theorem Cj{p:aC}{m:Nat}{e:aq}(hy:p.conds[m]?=some e)(h:(fG (aI p.bools e)||lX (aI p.bools e))=false)(hu:(fI p ((m:Int)+1)).getD false=true)(hk:fF (bN (aK p.bools.length) p.bools.length e) (notM (aK p.bools.length) (bN (aK p.bools.length) p.bools.length e)) 0 (bn p m).seen=0):bn p (m+1)=cW m (((bn p m).seen.length:Int)+1) { bn p m with seen:=(bn p m).seen++[bN (aK p.bools.length) p.bools.length e],kids:=(bn p m).kids++[e] }:=by
 rw[jg hy,ct,if_neg (by rw[h];decide),if_neg (by rw[hu];decide)];dsimp only;rw[if_pos hk]
theorem Ci{p:aC}{m:Nat}{e:aq}(hy:p.conds[m]?=some e)(h:(fG (aI p.bools e)||lX (aI p.bools e))=false)(hu:(fI p ((m:Int)+1)).getD false=true)(hk:fF (bN (aK p.bools.length) p.bools.length e) (notM (aK p.bools.length) (bN (aK p.bools.length) p.bools.length e)) 0 (bn p m).seen≠0):bn p (m+1)=cW m (fF (bN (aK p.bools.length) p.bools.length e) (notM (aK p.bools.length) (bN (aK p.bools.length) p.bools.length e)) 0 (bn p m).seen) (bn p m):=by
 rw[jg hy,ct,if_neg (by rw[h];decide),if_neg (by rw[hu];decide)];dsimp only;rw[if_neg hk]
theorem Po(p:aC):∀ (l:List aq) (i:Nat) (s:ox),(jC p i l s).seen.length≤s.seen.length+l.length∧(s.kids.length=s.seen.length→(jC p i l s).kids.length=(jC p i l s).seen.length)
 | [],i,s=>⟨Nat.le_refl _,fun h=>h⟩
 | e::l,i,s=>by
  have h1:(ct p i e s).seen.length≤s.seen.length+1∧(s.kids.length=s.seen.length→(ct p i e s).kids.length=(ct p i e s).seen.length):=by
   unfold ct;split
   ·exact⟨Nat.le_succ _,fun h=>h⟩
   ·split
    ·exact⟨Nat.le_succ _,fun h=>h⟩
    ·dsimp only;split
     ·exact⟨by simp[cW],fun h=>by simp[cW,h]⟩
     ·exact⟨Nat.le_succ _,fun h=>h⟩
  have h2:=Po p l (i+1) (ct p i e s);rw[jC,List.length_cons];exact⟨by omega,fun h=>h2.2 (h1.2 h)⟩
theorem Wb(p:aC)(m:Nat):(bn p m).seen.length≤m∧(bn p m).kids.length=(bn p m).seen.length:=by
 have h:=Po p (p.conds.take m) 0 cs0;have h2:(p.conds.take m).length≤m:=List.length_take_le _ _;have h3:=h.1;exact⟨avl h3 (by show 0+_≤m;omega),h.2 rfl⟩
theorem wY(x n:Int):∀ (l:List Int) (i:Nat),-((i:Int)+l.length)≤fF x n i l∧fF x n i l≤(i:Int)+l.length
 | [],i=>by rw[fF];constructor<;>simp<;>omega
 | y::l,i=>by
  have h:=wY x n l (i+1);rw[fF,List.length_cons];split
  ·constructor<;>omega
  ·split
   ·constructor<;>omega
   ·constructor<;>omega
theorem ML{T T9:List Rw}{es:List (List Value)}{ks:List aq}{x:List Value}{y:aq}(hl:es.length=ks.length)(h:∀ (i:Nat) x y,es[i]?=some x→ks[i]?=some y→bV T x y)(hx:bV T9 x y):
 ∀ (i:Nat) x' y',(es++[x])[i]?=some x'→(ks++[y])[i]?=some y'→bV (T++T9) x' y':=fun i x' y' h1 h2=>by
 by_cases hi:i<es.length
 ·rw[List.getElem?_append_left hi]at h1;rw[List.getElem?_append_left (by omega)]at h2;exact(h i x' y' h1 h2).mono fun r hr=>avm.2 (.inl hr)
 ·have hlt:=(avs.1 h1).1;rw[avo,List.length_singleton]at hlt;obtain rfl:i=es.length:=by omega
  rw[List.getElem?_append_right (Nat.le_refl _),Nat.sub_self]at h1;rw[hl,List.getElem?_append_right (Nat.le_refl _),Nat.sub_self]at h2;obtain rfl:x=x':=by simpa using h1
  obtain rfl:y=y':=by simpa using h2
  exact hx.mono fun r hr=>avm.2 (.inr hr)
theorem Ln{α:Type}(N:List ((α×Int)×Nat)):∀ u∈N.flatMap r_,u.oneCell'=true:=fun u hu=>by
 obtain⟨z,-,hz⟩:=List.mem_flatMap.1 hu;simp only[r_,avn]at hz;rw[hz];rfl
def acM(p:aC)(w0:World)(v:Value)(w':World):Prop:=∃ (mA mB mC:Nat) (LA LB LC:List (Int×Value)) (a:Option Addr) (c:Nat) (es:List (List Value)) (T:List Rw),v=.agg #[.map (some mA),.map (some mB),.map (some mC),.slice a (bn p p.conds.length).kids.length c]∧Mm w0 w' [(mC,9003,eE LC),(mB,9003,eE LB),(mA,9003,eE LA)] (⟨.slice a (bn p p.conds.length).kids.length c,89,10,(bn p p.conds.length).kids.length,es.flatten⟩::T)∧z8 (Value.int .i64) LA (bn p p.conds.length).pE∧z8 Value.bool LB (bn p p.conds.length).ev∧z8 Value.bool LC (bn p p.conds.length).nv∧es.length=(bn p p.conds.length).kids.length∧(∀ x∈es,x.length=10)∧(∀ (i:Nat) x y,es[i]?=some x→(bn p p.conds.length).kids[i]?=some y→bV T x y)
theorem Qp{w:World}{B g:Nat}{x:Value}(h:w.ownsRow B 52 1 (.slice (some ⟨g,0,none⟩) 1 1) 1 [x]):Whole w g 52 #[x]:=by
 obtain⟨-,⟨h,-⟩|⟨g',cap,cur,hv,-,hg,-,-,hs,ht⟩⟩:=h
 ·cases h
 ·cases hv;rw[List.take_of_length_le (by simp[hs])]at ht;obtain rfl:cur=#[x]:=by rw[← ht]
  exact hg
def aaj(z:(Unit×Int)×Nat):Rw:=⟨.slice (some ⟨z.2,0,none⟩) 1 1,52,1,1,[.int .u64 z.1.2]⟩
theorem XU{B:Nat}{w0 w:World}{bs:List Bx}{rs T:List Rw}{N:List ((Unit×Int)×Nat)}(M:aY B w0 w bs rs)(h:∀ z∈N,aaj z∈T)(hs:∀ r∈T,r∈rs):cH w 0 N:=fun z hz=>⟨Qp (M.row _ (hs _ (h z hz))),ave _⟩
theorem LI(w0:World)(c0 c1 c2 c3 c4 c5 c6 c7 c8 c9 aV aP aO aU aT aS aR:Value)(p:aC)(hp:aM w0 c0 c1 c2 c3 c4 c5 c6 c7 c8 c9 aV aP aO aU aT aS aR p)(hok:p.Ok)(iT:pF p)(hn:p.bools.length≤5)(hcl:p.conds.length≤900)(Yk:∀ y∈p.rules,-1000000≤y.cond∧y.cond≤1000000)(Yj:∀ y∈p.trans,-1000000≤y.cond∧y.cond≤1000000)(abQ:∀ e∈p.conds,∃ d,d≤12∧eX d (aI p.bools e)∧(dh (aI p.bools e)).length≤5):Calls Tryz.prog 87 #[.agg #[c0,c1,c2,c3,c4,c5,c6,c7,c8,c9,aV,aP,aO,aU,aT,aS,aR]] w0 (fun(r:Ending) (w':World)=>∃ v,r=.returned v∧acM p w0 v w'):=by
 obtain⟨_,_,_,_,_,_,_,_,_,_,_,_,_,_,_,_,_,_,_,_,_,_,_,_,_,_,_,_,_,_,_,_,_,_,rfl,rfl,rfl,rfl,rfl,rfl,rfl,rfl,rfl,rfl,rfl,rfl,rfl,rfl,rfl,rfl,rfl⟩:=hp.open;obtain⟨_,_,-,-,hmR,-⟩:=SliceAt.form hp.rules (by decide);obtain⟨_,_,-,-,hmT,-⟩:=SliceAt.form hp.trans (by decide);refine cL [] (fn:=Tryz.f87) Tryz.func87 rfl Tryz.ntmps87 rfl<|fun g1 w1 M1=>ei<|an SC fun g2 w2 M2=>mmk M2 fun mu w3 M3=>lb 2<|an rfl<|lp (ι:=Nat×List (Int×Value)) (fun(m,L)=>[(22,.int .i64 (m:Int))]) (fun(m,L)=>(mu,9003,eE L)::_) (fun _=>[]) (fun(m,L) _=>m≤p.rules.length∧z8 Value.bool L (mJ (p.rules.take m) fun _=>none)) (fun(m,L)=>p.rules.length-m) (0,[]) (an ⟨⟨rfl,trivial⟩,fun M=>⟨M,ave _,z8.nil _⟩⟩ ?_)
 rintro⟨m,L⟩ w M ⟨hm,hU⟩;refine an (fun h=>?_) fun h=>?_
 ·have hlt:m<p.rules.length:=by simp at h;omega
  obtain⟨y,hy⟩:∃ y,p.rules[m]?=some y:=⟨_,avf hlt⟩;obtain⟨b,o,e,hc⟩:=SliceAt.elt hp.rules (fun _=>rfl) (by decide) hy hlt;have hcb:=Yk y (avh hy);exact ia<|an ⟨e,rfl,hlt⟩<|lc<|an (cF M.below hc)<|ei<|an oy fun g3 w4 M4=>lb 0<|an ⟨rfl,rfl⟩ fun w5 M5=>lb 0<|an rfl<|lb 0<|an rfl<|an (by omega)<|fbp M5 (v:=.int .i64 (eF y.cond)) (fun a o ho hv=>B6 ho (kB hv) (qX hv))<|Ut M5 1 rfl Ap (PD hcb.1 hcb.2) fun w6 M6=>an (by omega)<|bk (m+1,(eF y.cond,.bool true)::gX L (eF y.cond)) ⟨rfl,trivial⟩ (fun M=>⟨M.only (.cons _ (.refl _)) (.refl _),by omega,by rw[Lr hy];exact hU.put _ true⟩) (by dsimp only;omega)
 obtain rfl:m=p.rules.length:=by simp at h;omega
 rw[avv]at hU;clear M M1 M2 M3 hm h;refine lb 2<|an rfl<|lp (ι:=Nat×List (Int×Value)) (fun(m,L)=>[(37,.int .i64 (m:Int))]) (fun(m,L)=>(mu,9003,eE L)::_) (fun _=>[]) (fun(m,L) _=>m≤p.trans.length∧z8 Value.bool L (nF (p.trans.take m) (mJ p.rules fun _=>none))) (fun(m,L)=>p.trans.length-m) (0,L) (an ⟨⟨rfl,trivial⟩,fun M=>⟨M,ave _,hU⟩⟩ ?_);clear hU L;rintro⟨m,L⟩ w M ⟨hm,hU⟩;refine an (fun h=>?_) fun h=>?_
 ·have hlt:m<p.trans.length:=by simp at h;omega
  obtain⟨y,hy⟩:∃ y,p.trans[m]?=some y:=⟨_,avf hlt⟩;obtain⟨b,o,e,hc⟩:=SliceAt.elt hp.trans (fun _=>rfl) (by decide) hy hlt;have hcb:=Yj y (avh hy);exact ia<|an ⟨e,rfl,hlt⟩<|lc<|an (cF M.below hc)<|ei<|an KN fun g3 w4 M4=>lb 0<|an ⟨rfl,rfl⟩ fun w5 M5=>lb 0<|an rfl<|lb 0<|an rfl<|an (by omega)<|fbp M5 (v:=.int .i64 (eF y.cond)) (fun a o ho hv=>B6 ho (kB hv) (qX hv))<|Ut M5 1 rfl Ap (PD hcb.1 hcb.2) fun w6 M6=>an (by omega)<|bk (m+1,(eF y.cond,.bool true)::gX L (eF y.cond)) ⟨rfl,trivial⟩ (fun M=>⟨M.only (.cons _ (.refl _)) (.refl _),by omega,by rw[Lq hy];exact hU.put _ true⟩) (by dsimp only;omega)
 obtain rfl:m=p.trans.length:=by simp at h;omega
 rw[avv]at hU;replace hU:z8 Value.bool L (fI p):=hU;refine mmk M fun mA wA MA=>mmk MA fun mB wB MB=>mmk MB fun mC wC MC=>ei (x:=.agg #[.map (some mA),.map (some mB),.map (some mC),.slice none 0 0])<|an (bd (by kernel_rfl))<|ei<|an SC fun g5 w7 M7=>lb 0<|an ⟨rfl,rfl⟩ fun w8 M8=>lb 6<|an rfl<|cg<|an (m_ _ _ _ _ _ _ _ _ _ _ _ _ _ _ _ _ _ _ p.bools.length _ hn) fun v w9 ⟨⟨tp,mb,hv,hT,_,h1,_⟩,Zv⟩=>⟨_,_,M8.newAt Zv hT h1,?_⟩
 subst hv;clear M MA MB MC M7 M8 hT hm h Zv
 refine lb 7<|an rfl<|lp (ι:=Nat×List (Int×Value)×List (Int×Value)×List (Int×Value)×List ((Unit×Int)×Nat)×Value×Value×List (List Value)×List Rw) (fun(m,LA,LB,LC,N,vs,vk,es,T)=>[(10,vs),(58,.int .i64 (m:Int))]) (fun(m,LA,LB,LC,N,vs,vk,es,T)=>_::(g5,159,#[.map (some mA),.map (some mB),.map (some mC),vk])::(mC,9003,eE LC)::(mB,9003,eE LB)::(mA,9003,eE LA)::_) (fun(m,LA,LB,LC,N,vs,vk,es,T)=>⟨vs,139,1,N.length,N.flatMap r_⟩::⟨vk,89,10,N.length,es.flatten⟩::T)
  (fun(m,LA,LB,LC,N,vs,vk,es,T) _=>m≤p.conds.length∧z8 (Value.int .i64) LA (bn p m).pE∧z8 Value.bool LB (bn p m).ev∧z8 Value.bool LC (bn p m).nv∧jE N=(bn p m).seen∧(∀ z∈N,aaj z∈T)∧es.length=N.length∧(∀ x∈es,x.length=10)∧∀ (i:Nat) x y,es[i]?=some x→(bn p m).kids[i]?=some y→bV T x y) (fun(m,_)=>p.conds.length-m) (0,[],[],[],[],.slice none 0 0,.slice none 0 0,[],[])
  (an ⟨⟨rfl,rfl,trivial⟩,fun M=>⟨(M.bC 89 10).bC 139 1,ave _,z8.nil _,z8.nil _,z8.nil _,rfl,(fun _ h=>by cases h),rfl,(fun _ h=>by cases h),fun i x y h=>by simp at h⟩⟩ ?_)
 rintro⟨m,LA,LB,LC,N,vs,vk,es,T⟩ w M ⟨hm,hA,hB,hC,ZA,hNr,hes,wW,hR⟩;have hcs:=Wb p m;have hsl:N.length=(bn p m).seen.length:=by rw[← ZA,vR]
 refine an (fun h=>?_) fun h=>?_
 ·have hlt:m<p.conds.length:=by simp at h;omega
  obtain⟨e,hy⟩:∃ e,p.conds[m]?=some e:=⟨_,avf hlt⟩;have hye:=avh hy;obtain⟨b,o,_,e1,hE,hc⟩:=au.elt hp.conds (by decide) hy;obtain⟨_,_,rfl,hn',hk'⟩:=hE.open;obtain⟨_,_,rfl,-⟩:=aF.get hn';obtain⟨_,_,rfl,-⟩:=au.form hk' (by decide);have hsE:=iT.Pp e hye;obtain⟨d,hd,hBE,hnN⟩:=abQ e hye;refine ia<|an ⟨e1,rfl,hlt⟩<|lc<|an (cF M.below hc)<|ei<|an rM fun g6 tS nr=>lb 0<|an ⟨rfl,rfl⟩ fun Dw M11=>an (by omega)<|lb 0<|an rfl<|lb 8<|an rfl<|cg<|an (Fc p hok e _ _ (hE.keep M11.below) hsE _ _ _ _ _ _ _ _ _ _ _ _ _ _ _ _ _ (hp.keep M11.below)) fun v He ⟨⟨na,nc,ka,kc,T9,hv,D9,Fx⟩,JA⟩=>⟨_,_,M11.keep JA,?_⟩
  subst hv;have Dr:=M11.keep JA;refine cl<|an (F2 _ _ (aI p.bools e) d (D9.at_ Fx) hBE hd hnN) fun KE vI=>an (fun hc0=>?_) fun hc0=>?_
  ·refine sp [0,1,2,3,4,5,6,7,8] (.step 9 (.last 10)) [6] (by kernel_rfl)<|lb 0<|an rfl<|lb 0<|an rfl<|fun Te aoM Hl=>Ut Hl 4 rfl Ap (by constructor<;>omega) fun Ob Eu=>an rfl<|Ut Eu 3 rfl Ap (by constructor<;>omega) fun W_ KL=>sp [0,1,2,3,4,5,6,7,8,9,10] (.step 11 (.last 12)) [6] (by kernel_rfl)<|lb 0<|an rfl<|an (by omega)<|lb 0<|an rfl<|an (by omega)<|fun W9 aoK WE=>Ut WE 4 rfl Ap (by constructor<;>omega) fun w18 WD=>an rfl<|Ut WD 3 rfl Ap (by constructor<;>omega) fun w19 YS=>an (by omega)<|bk (m+1,LA,_,_,N,vs,vk,es,T) ⟨rfl,rfl,trivial⟩ (fun M=>⟨M.only (.cons _ (.refl _)) (.refl _),by omega,by rw[qO hy hc0];exact hA,by rw[qO hy hc0];exact(hB.put _ _).put _ _,by rw[qO hy hc0];exact(hC.put _ _).put _ _,by rw[qO hy hc0];exact ZA,hNr,hes,wW,by rw[qO hy hc0];exact hR⟩) (by dsimp only;omega)
  refine ml1 vI 6 rfl Ap (fun _=>rfl) (by constructor<;>omega) fun Hl=>?_
  rw[hU.get];refine an (fun hu=>?_) fun hu=>?_
  ·have hu0:(fI p ((m:Int)+1)).getD false=false:=by simpa using hu
   exact an (by omega)<|bk (m+1,LA,LB,LC,N,vs,vk,es,T) ⟨rfl,rfl,trivial⟩ (fun M=>⟨M.only (.cons _ (.refl _)) (.refl _),by omega,by rw[uV hy hc0 hu0];exact hA,by rw[uV hy hc0 hu0];exact hB,by rw[uV hy hc0 hu0];exact hC,by rw[uV hy hc0 hu0];exact ZA,hNr,hes,wW,by rw[uV hy hc0 hu0];exact hR⟩) (by dsimp only;omega)
  have hu0:(fI p ((m:Int)+1)).getD false=true:=by simpa using hu
  refine lb 0<|an rfl<|cst Hl (vS e _ _ tp mb _ _ _ _ _ _ _ _ _ _ _ _ _ _ _ _ _ p.bools.length _ _ hn (Hl.b 1 rfl) (hE.keep Hl.below)) fun gw Ob Eu=>cst Eu (zL _ tp mb _ _ _ _ _ _ _ _ _ _ _ _ _ _ _ _ _ p.bools.length _ _ (Eu.b 2 rfl) gw _ (Eu.b 0 rfl)) fun gq W_ KL=>?_
  have hnr:=XU KL hNr fun r hr=>avj _ (avj _ hr)
  refine cl<|an (Rk _ _ N (SliceAt.bF (KL.r 0 rfl) (Ln N)) hnr (by omega) gw gq _ _ (KL.b 1 rfl) (KL.b 0 rfl)) fun W9 WE=>?_
  have hfb:=wY (bN (aK p.bools.length) p.bools.length e) (notM (aK p.bools.length) (bN (aK p.bools.length) p.bools.length e)) (jE N) 0;rw[vR]at hfb;refine an (fun hk=>?_) fun hk=>?_
  ·have hk0:fF (bN (aK p.bools.length) p.bools.length e) (notM (aK p.bools.length) (bN (aK p.bools.length) p.bools.length e)) 0 (bn p m).seen=0:=by rw[← ZA];exact of_decide_eq_true hk
   refine sp [1,4,5,6] (.alt (.step 0 (.step 2 (.step 3 (.step 7 (.step 8 (.step 9 (.step 10 (.step 11 (.last 12))))))))) (.step 2 (.step 0 (.step 3 (.step 7 (.step 8 (.step 9 (.step 10 (.step 11 (.last 12)))))))))) [6,8] (by kernel_rfl)<|lb 0<|an rfl<|lb 1<|an rfl<|fun w18 aeV WD=>an (an rfl<|fun g7 w19 YS=>an rfl<|?_) (fun g7 w19 YS=>an rfl<|an rfl<|?_)
   all_goals
    refine KJ 0 id rfl (YS.slice 0 rfl (k:=1) (n:=1) rfl rfl (by simp[maxLen])) ⟨by unfold maxLen;omega,by omega⟩ fun va vc w20 M20=>an rfl<|cg<|an (Mj e _ _ (hE.keep M20.below) hsE) fun v w21 ⟨⟨xn,xc,xk,xd,T7,hv,hT7,hR7⟩,aii⟩=>⟨_,_,M20.dS aii hR7,?_⟩
    subst hv;refine an rfl<|fun g9 w22 Z4=>an rfl<|KJ 1 id rfl (Z4.slice 0 rfl (k:=10) (n:=1) rfl rfl (by simp[maxLen])) ⟨by unfold maxLen;omega,by omega⟩ fun vb vd w23 M23=>an rfl<|an rfl<|an rfl<|lb 6<|an ⟨rfl,rfl⟩ fun w24 M24=>?_
    refine sp [0,1,2,3,4,5,6,7,8,9] (.step 10 (.last 11)) [6] (by kernel_rfl)<|lb 0<|an rfl<|lb 0<|an rfl<|an (by omega)<|an (by omega)<|fun w25 aoJ M25=>Ut M25 9 rfl P4 (by constructor<;>omega) fun w26 M26=>an rfl<|Ut M26 9 rfl P4 (by constructor<;>omega) fun w27 M27=>an (by omega)<|bk (m+1,_,LB,LC,N++[(((),bN (aK p.bools.length) p.bools.length e),gw)],.slice va (N.length+1) vc,.slice vb (N.length+1) vd,es++[[.int .i64 e.op,.int .i64 e.a,.int .i64 e.rel,.int .i64 e.b,.slice xn e.names.length xc,.int .u64 e.set.a,.int .u64 e.set.b,.int .u64 e.set.c,.int .u64 e.set.d,.slice xk e.kids.length xd]],aaj (((),bN (aK p.bools.length) p.bools.length e),gw)::(T++T7)) ⟨rfl,rfl,trivial⟩ (fun M=>⟨(((M.only (.cons _ (.cons _ (.cons _ (.cons_cons _ (.cons _ (.refl _)))))) (.refl _)).Ct 1 1 (by simp[maxLen]) rfl).perm (List.perm_middle (l₁:=[_,_])).symm).cast rfl (by dsimp only;rw[avw,avo,← fP];rfl),by omega,?_,by rw[Cj hy hc0 hu0 hk0];exact hB,by rw[Cj hy hc0 hu0 hk0];exact hC,?_,?_,by rw[avo,avo,hes];rfl,i_ wW rfl,?_⟩) (by dsimp only;omega)
    ·rw[Cj hy hc0 hu0 hk0];show z8 _ _ (eB (eB (bn p m).pE _ (((bn p m).seen.length:Int)+1)) _ (0-(((bn p m).seen.length:Int)+1)));rw[← hsl];exact(hA.put _ _).put _ _
    ·rw[Cj hy hc0 hu0 hk0];show jE (N++[_])=(bn p m).seen++[_];rw[← ZA];unfold jE;rw[List.map_append];rfl
    ·intro z hz;rcases avm.1 hz with hz|hz
     ·exact avj _ (avm.2 (.inl (hNr z hz)))
     ·rw[avn.1 hz];exact avi ..
    ·rw[Cj hy hc0 hu0 hk0];exact fun i x y h1 h2=>(ML (hes.trans (hsl.trans hcs.2.symm)) hR hT7 i x y h1 h2).mono fun r hr=>avj _ hr
  ·have hk0:fF (bN (aK p.bools.length) p.bools.length e) (notM (aK p.bools.length) (bN (aK p.bools.length) p.bools.length e)) 0 (bn p m).seen≠0:=by rw[← ZA];exact of_decide_eq_false hk
   exact sp [0,1,2,3,4,5,6,7,8,9] (.step 10 (.last 11)) [6] (by kernel_rfl)<|lb 0<|an rfl<|lb 0<|an rfl<|an (by omega)<|an (by omega)<|fun w18 aeV WD=>Ut WD 7 rfl P4 (by constructor<;>omega) fun w19 YS=>an rfl<|Ut YS 7 rfl P4 (by constructor<;>omega) fun w20 M20=>an (by omega)<|bk (m+1,_,LB,LC,N,vs,vk,es,T) ⟨rfl,rfl,trivial⟩ (fun M=>⟨M.only (.cons _ (.cons _ (.cons _ (.refl _)))) (.refl _),by omega,by rw[Ci hy hc0 hu0 hk0,← ZA];exact(hA.put _ _).put _ _,by rw[Ci hy hc0 hu0 hk0];exact hB,by rw[Ci hy hc0 hu0 hk0];exact hC,by rw[Ci hy hc0 hu0 hk0];exact ZA,hNr,hes,wW,by rw[Ci hy hc0 hu0 hk0];exact hR⟩) (by dsimp only;omega)
 obtain rfl:m=p.conds.length:=by simp at h;omega
 have hkl:=hsl.trans hcs.2.symm;obtain⟨va,vc,rfl⟩:=M.form 1 rfl;exact lb 1<|an rfl<|lb 6<|an ⟨rfl,rfl⟩ fun w21 M21=>ei (x:=6)<|an rfl fun M=>⟨_,rfl,mA,mB,mC,LA,LB,LC,va,vc,es,T,by rw[← hkl],by rw[← hkl];exact M.only (.cons _ (.cons _ (.cons_cons _ (.cons_cons _ (.cons_cons _ (.cons _ (.cons _ (.cons _ .slnil)))))))) (.cons _ (.refl _)),hA,hB,hC,hes.trans hkl,wW,hR⟩
def bH(sc:ox)(k:Int):Int×Bool:=if (sc.ev k).getD false=true then (0,true) else ((sc.pE k).getD 0,!((sc.nv k).getD false))
theorem yK(w0:World)(mA mB mC:Nat)(LA LB LC:List (Int×Value))(kv:Value)(sc:ox)(hMA:aX w0 Tryz.prog 3 mA (LA.map ival))(hMB:aX w0 Tryz.prog 3 mB (LB.map ival))(hMC:aX w0 Tryz.prog 3 mC (LC.map ival))(hA:z8 (Value.int .i64) LA sc.pE)(hB:z8 Value.bool LB sc.ev)(hC:z8 Value.bool LC sc.nv)(k:Int)(hk:iR k):Calls Tryz.prog 88 #[.agg #[.map (some mA),.map (some mB),.map (some mC),kv],.int .i64 k] w0 (fun(r:Ending) (w':World)=>r=.returned (.tuple #[.int .i64 (bH sc k).1,.bool (bH sc k).2])∧avd w0.heap.size w0 w'):=by
 have bL:=MZ Tryz.prog Tryz.f88 (fun(r:Ending) (w':World)=>r=.returned (.tuple #[.int .i64 (bH sc k).1,.bool (bH sc k).2])∧avd w0.heap.size w0 w') 19 4 5 rfl;refine en Tryz.func88 rfl Tryz.ntmps88 rfl (vs:=[.agg #[(.map (some mA)),(.map (some mB)),(.map (some mC)),kv],.int .i64 k]) rfl fun _ F=>?_
 have M:=Mm.start w0;refine avq fun K1 gV=>ah<|Hf (on rfl) rfl (F.u rf) rfl F rfl M fun g1 _ _ F M=>xA (v:=.int .i64 0) F rf rf rf fun _ F=>xA (v:=.bool false) F rf rf rf fun _ F=>avr<|gV _ _ ?_
 refine avq fun K2 h_=>avq fun K3 nh=>ah<|xF 1 F rf rf rf aat rf Y4 rf fun _ F=>xL F (M.b 0 rfl) rf rf rf Ap rf rf fun _ F=>xM F rf rf rf fun _ F=>
  ke (on rfl) (qM (z:=.bool false) Ap (by kernel_rfl) (hMB.kept (M.below.block _ hMB.lt)) rfl (F.u rf) (F.u rf) (by exact hk)) rfl F rfl (show _=(.bool ((sc.ev k).getD false):Value) from hB.get k false) fun _ F=>
  avr<|
  nh _ _ ?_
 refine avt (F.e 9 rfl) (fun hc2=>?_) (fun hc2=>?_)
 ·have he:((sc.ev k).getD false)=true:=hc2;refine avq fun K4 n_=>ah<|xA (v:=.int .i64 0) F rf rf rf fun _ F=>xA (v:=.bool true) F rf rf rf fun _ F=>avr<|n_ _ _ ?_
  refine wp_ret<|bL _ _ _ _ _ F rfl rfl ?_;exact⟨by unfold bH;rw[if_pos he],M.below⟩
 ·have he:((sc.ev k).getD false)=false:=hc2;refine wp_skip<|h_ _ _ ?_;refine avq fun K5 nZ=>?_
  refine rd 11 [10,11,12,13,14,15,16,17,18,4,5] [bZ (.pointer (some ⟨g1,0,none⟩)),bZ ((.map (some mA))),bZ (.int .i64 k),bZ (.int .i64 ((sc.pE k).getD 0)),bZ (.pointer (some ⟨g1,2,none⟩)),bZ ((.map (some mC))),bZ (.int .i64 k),bZ (.bool ((sc.nv k).getD false)),bZ (.bool (!((sc.nv k).getD false))),bZ (.int .i64 ((sc.pE k).getD 0)),bZ (.bool (!((sc.nv k).getD false)))] (by kernel_rfl) (by kernel_rfl) (by kernel_rfl) rfl (by decide) rfl rfl F ⟨ak _,ak _,ak _,ak _,ak _,ak _,ak _,ak _,ak _,ak _,ak _,trivial⟩ ⟨?_,?_,?_,?_,?_,?_,?_,?_,?_,?_,?_,trivial⟩ ?_
  ·exact fun a w Q' hf hi H G hK=>dv (on rfl) (kN rfl (G 2 _ rfl (F.g 2 rfl)).ev aat rfl adx) rfl hf rfl hK rfl
  ·exact fun a w Q' hf hi H G hK=>dv (on rfl) (bW rfl (iA (H 0 ⟨.data,by simp,rfl⟩ _ _ rfl rfl)).ev P4 rfl (((M.keep hi).b 0 rfl).c1 0)) rfl hf rfl hK rfl
  ·exact fun a w Q' hf hi H G hK=>dv (on rfl) (cQ rfl (G 1 _ rfl (F.g 1 rfl)).ev) rfl hf rfl hK rfl
  ·exact fun a w Q' hf hi H G hK=>dv (on rfl) (qM (z:=.int .i64 0) P4 (by kernel_rfl) (hMA.kept ((M.keep hi).below.block _ hMA.lt)) rfl (iA (H 1 ⟨.data,by simp,rfl⟩ _ _ rfl rfl)).ev (iA (H 2 ⟨.data,by simp,rfl⟩ _ _ rfl rfl)).ev (by exact hk)) rfl hf rfl hK (Eq.symm (show _=(.int .i64 ((sc.pE k).getD 0):Value) from hA.get k 0))
  ·exact fun a w Q' hf hi H G hK=>dv (on rfl) (kN rfl (G 2 _ rfl (F.g 2 rfl)).ev aat rfl Y4) rfl hf rfl hK rfl
  ·exact fun a w Q' hf hi H G hK=>dv (on rfl) (bW rfl (iA (H 4 ⟨.data,by simp,rfl⟩ _ _ rfl rfl)).ev Ap rfl (((M.keep hi).b 0 rfl).c1 2)) rfl hf rfl hK rfl
  ·exact fun a w Q' hf hi H G hK=>dv (on rfl) (cQ rfl (G 1 _ rfl (F.g 1 rfl)).ev) rfl hf rfl hK rfl
  ·exact fun a w Q' hf hi H G hK=>dv (on rfl) (qM (z:=.bool false) Ap (by kernel_rfl) (hMC.kept ((M.keep hi).below.block _ hMC.lt)) rfl (iA (H 5 ⟨.data,by simp,rfl⟩ _ _ rfl rfl)).ev (iA (H 6 ⟨.data,by simp,rfl⟩ _ _ rfl rfl)).ev (by exact hk)) rfl hf rfl hK (Eq.symm (show _=(.bool ((sc.nv k).getD false):Value) from hC.get k false))
  ·exact fun a w Q' hf hi H G hK=>dv (on rfl) (pq rfl (iA (H 7 ⟨.data,by simp,rfl⟩ _ _ rfl rfl)).ev) rfl hf rfl hK rfl
  ·exact fun a w Q' hf hi H G hK=>dv (on rfl) (oh rfl (iA (H 3 ⟨.data,by simp,rfl⟩ _ _ rfl rfl)).ev) rfl hf rfl hK rfl
  ·exact fun a w Q' hf hi H G hK=>dv (on rfl) (oh rfl (iA (H 8 ⟨.data,by simp,rfl⟩ _ _ rfl rfl)).ev) rfl hf rfl hK rfl
  (repeat clear F);intro _ _ CQ F D
  obtain⟨_,h,rfl⟩:=D 9 _ _ rfl rfl;have F:=F.add h;obtain⟨_,h,rfl⟩:=D 10 _ _ rfl rfl;have F:=F.add h;have M:=M.keep CQ;clear D CQ;refine nZ _ _ ?_;refine wp_ret<|bL _ _ _ _ _ F rfl rfl ?_;exact⟨by unfold bH;rw[if_neg (by rw[he];decide)],M.below⟩
def cR(sc:ox)(y:aj):Option aj:=if (bH sc y.cond).2=true then some { y with cond:=(bH sc y.cond).1 } else none
def cT(sc:ox)(y:bM):Option bM:=if (bH sc y.cond).2=true then some { y with cond:=(bH sc y.cond).1 } else none
def J9(p:aC)(sc:ox):aC:={ p with conds:=sc.kids,rules:=p.rules.filterMap (cR sc),trans:=p.trans.filterMap (cT sc) }
def aQ(p:aC):aC:=J9 p (bn p p.conds.length)
theorem O8{α β:Type}{f:α→Option β}{l:List α}{m:Nat}{y:α}(hy:l[m]?=some y)(h:f y=none):(l.take (m+1)).filterMap f=(l.take m).filterMap f:=by
 rw[bw hy,List.filterMap_append,List.filterMap_cons,h];simp
theorem Fz{α β:Type}{f:α→Option β}{l:List α}{m:Nat}{y:α}{z:β}(hy:l[m]?=some y)(h:f y=some z):(l.take (m+1)).filterMap f=(l.take m).filterMap f++[z]:=by
 rw[bw hy,List.filterMap_append,List.filterMap_cons,h];simp
theorem FA{α β:Type}{f:α→Option β}(l:List α)(m:Nat):((l.take m).filterMap f).length≤m:=avl (List.length_filterMap_le _ _) (List.length_take_le _ _)
theorem RowsIn.sub{B:Nat}{w:World}{T T':List Rw}(h:RowsIn B w T)(hs:T'.Sublist T):RowsIn B w T':=⟨fun r hr=>h.1 r (hs.subset hr),h.2.sublist hs⟩
theorem jh(w0:World)(c0 c1 c2 c3 c4 c5 c6 c7 c8 c9 aV aP aO aU aT aS aR:Value)(p:aC)(hp:aM w0 c0 c1 c2 c3 c4 c5 c6 c7 c8 c9 aV aP aO aU aT aS aR p)(hok:p.Ok)(iT:pF p)(hn:p.bools.length≤5)(hcl:p.conds.length≤900)(Yk:∀ y∈p.rules,-1000000≤y.cond∧y.cond≤1000000)(Yj:∀ y∈p.trans,-1000000≤y.cond∧y.cond≤1000000)(abQ:∀ e∈p.conds,∃ d,d≤12∧eX d (aI p.bools e)∧(dh (aI p.bools e)).length≤5)(hrl:p.rules.length≤100000)(X_:p.trans.length≤100000):Calls Tryz.prog 34 #[.agg #[c0,c1,c2,c3,c4,c5,c6,c7,c8,c9,aV,aP,aO,aU,aT,aS,aR]] w0 (fun(r:Ending) (w':World)=>∃ v,r=.returned v∧(Dq w0 (aQ p) v w'∧avd w0.heap.size w0 w')):=by
 obtain⟨_,_,_,_,_,_,_,_,_,_,_,_,_,_,_,_,_,_,_,_,_,_,_,_,_,_,_,_,_,_,_,_,_,_,rfl,rfl,rfl,rfl,rfl,rfl,rfl,rfl,rfl,rfl,rfl,rfl,rfl,rfl,rfl,rfl,rfl⟩:=hp.open;refine cL [] (fn:=Tryz.f34) Tryz.func34 rfl Tryz.ntmps34 rfl<|fun g1 w1 M1=>ei<|an nu fun g2 w2 M2=>lb 1<|an rfl<|cg<|an (LI _ _ _ _ _ _ _ _ _ _ _ _ _ _ _ _ _ _ p (hp.keep M2.below) hok iT hn hcl Yk Yj abQ) fun v w3 hC=>?_
 obtain⟨mA,mB,mC,LA,LB,LC,ca,cc,es,T,hv,hM,hmA,hmB,hmC,Jy,wW,hT⟩:=hC;refine⟨_,_,M2.Vy hM,?_⟩;subst hv;have M3:=M2.Vy hM;unfold aQ;generalize bn p p.conds.length=sc at *;refine ei<|an SC fun g3 w4 M4=>lb 0<|an ⟨rfl,rfl⟩ fun w5 M5=>lb 5<|an rfl<|cg<|an (xw _ _ _ _ _ _ _ _ _ _ _ _ _ _ _ _ _ _ p (hp.keep M5.below) iT) fun v w6 ⟨⟨x0,n0,x1,n1,x2,n2,x3,n3,x4,n4,x5,n5,x6,n6,x7,n7,x8,n8,x9,n9,x10,n10,pK,n11,pJ,n12,Ll,n13,Lk,n14,Lj,n15,Li,n16,TC,hv,hRC,hPC⟩,Nb⟩=>⟨_,_,M5.dS Nb hRC,?_⟩
 subst hv;refine ei<|an nu fun g4 w7 M7=>lb 0<|an ⟨rfl,rfl⟩ fun w8 M8=>lb 1<|an rfl<|lb 0<|an ⟨rfl,rfl⟩ fun w9 M9=>lb 0<|an ⟨rfl,rfl⟩ fun tS nr=>lb 0<|an ⟨rfl,rfl⟩ fun Dw M11=>?_
 clear M1 M2 M3 M4 M5 M7 M8 M9 nr M11 hM hRC;refine lb 6<|an rfl<|lp (ι:=Nat×Value×List aj) (fun(m,v,L)=>[(25,.int .i64 (m:Int))]) (fun(m,v,L)=>(g4,39,#[.slice x0 p.classes.length n0,.slice x1 p.types.length n1,.slice x2 p.attrs.length n2,.slice x3 p.roles.length n3,.slice x4 p.users.length n4,.slice x5 p.bools.length n5,.slice x6 p.aZ.length n6,.slice x7 p.cats.length n7,.slice ca sc.kids.length cc,v,.slice none 0 0,.slice pK p.aN.length n11,.slice pJ p.ranges.length n12,.slice Ll p.cons.length n13,.slice Lk p.bO.length n14,.slice Lj p.files.length n15,.slice Li p.asserts.length n16])::_) (fun(m,v,L)=>⟨v,56,13,L.length,L.flatMap aj.cells⟩::_) (fun(m,v,L) _=>m≤p.rules.length∧L=(p.rules.take m).filterMap (cR sc)) (fun(m,v,L)=>p.rules.length-m) (0,.slice none 0 0,[]) (an ⟨⟨rfl,trivial⟩,fun M=>⟨M.bC 56 13,ave _,rfl⟩⟩ ?_);rintro⟨m,v,L⟩ w M ⟨hm,hL⟩;refine an (fun h=>?_) fun h=>?_
 ·have hlt:m<p.rules.length:=by simp at h;omega
  obtain⟨y,hy⟩:∃ y,p.rules[m]?=some y:=⟨_,avf hlt⟩;obtain⟨b,o,e,hc⟩:=SliceAt.elt hp.rules (fun _=>rfl) (by decide) hy hlt;have hcb:=Yk y (avh hy);have hfl:=FA (f:=cR sc) p.rules m;rw[← hL]at hfl;exact ia<|an ⟨e,rfl,hlt⟩<|lc<|an (cF M.below hc)<|ei<|an oy fun g5 He Dr=>lb 0<|an ⟨rfl,rfl⟩ fun KE vI=>lb 2<|an rfl<|lb 0<|an rfl<|cl<|an (yK _ mA mB mC LA LB LC _ sc (vI.map 5 rfl) (vI.map 4 rfl) (vI.map 3 rfl) hmA hmB hmC y.cond ⟨by omega,by omega⟩) fun Te Hl=>an (fun hb2=>lb 0<|an ⟨rfl,rfl⟩ fun Ob Eu=>lb 1<|an rfl<|lb 0<|an rfl<|fun g6 W_ KL=>KJ 0 id rfl (KL.slice 0 rfl (k:=13) (n:=1) rfl rfl (by simp[maxLen])) ⟨by unfold maxLen;omega,by omega⟩ fun va vc W9 WE=>lb 2<|an ⟨rfl,rfl⟩ fun w18 WD=>an (by omega)<|bk (m+1,.slice va (L.length+1) vc,L++[{ y with cond:=(bH sc y.cond).1 }]) ⟨rfl,trivial⟩ (fun M=>⟨(M.only (.cons _ (.cons _ (.refl _))) (.refl _)).cast rfl (by dsimp only;rw[avo,avw];rfl),by omega,by rw[Fz hy (show cR sc y=some { y with cond:=(bH sc y.cond).1 } by unfold cR;rw[if_pos hb2]),hL]⟩) (by dsimp only;omega)) fun hb2=>an (by omega)<|bk (m+1,v,L) ⟨rfl,trivial⟩ (fun M=>⟨M.only (.cons _ (.refl _)) (.refl _),by omega,by rw[O8 hy (show cR sc y=none by unfold cR;rw[if_neg (by rw[hb2];decide)]),hL]⟩) (by dsimp only;omega)
 obtain rfl:m=p.rules.length:=by simp at h;omega
 rw[avv]at hL;subst hL;obtain⟨xa9,xc9,rfl⟩:=M.form 0 rfl;clear M h hm;refine lb 6<|an rfl<|lp (ι:=Nat×Value×List bM) (fun(m,v,L)=>[(49,.int .i64 (m:Int))]) (fun(m,v,L)=>(g4,39,#[.slice x0 p.classes.length n0,.slice x1 p.types.length n1,.slice x2 p.attrs.length n2,.slice x3 p.roles.length n3,.slice x4 p.users.length n4,.slice x5 p.bools.length n5,.slice x6 p.aZ.length n6,.slice x7 p.cats.length n7,.slice ca sc.kids.length cc,.slice xa9 (p.rules.filterMap (cR sc)).length xc9,v,.slice pK p.aN.length n11,.slice pJ p.ranges.length n12,.slice Ll p.cons.length n13,.slice Lk p.bO.length n14,.slice Lj p.files.length n15,.slice Li p.asserts.length n16])::_) (fun(m,v,L)=>⟨v,84,13,L.length,L.flatMap bM.cells⟩::_) (fun(m,v,L) _=>m≤p.trans.length∧L=(p.trans.take m).filterMap (cT sc)) (fun(m,v,L)=>p.trans.length-m) (0,.slice none 0 0,[]) (an ⟨⟨rfl,trivial⟩,fun M=>⟨M.bC 84 13,ave _,rfl⟩⟩ ?_);rintro⟨m,v,L⟩ w M ⟨hm,hL⟩;refine an (fun h=>?_) fun h=>?_
 ·have hlt:m<p.trans.length:=by simp at h;omega
  obtain⟨y,hy⟩:∃ y,p.trans[m]?=some y:=⟨_,avf hlt⟩;obtain⟨b,o,e,hc⟩:=SliceAt.elt hp.trans (fun _=>rfl) (by decide) hy hlt;have hcb:=Yj y (avh hy);have hfl:=FA (f:=cT sc) p.trans m;rw[← hL]at hfl;exact ia<|an ⟨e,rfl,hlt⟩<|lc<|an (cF M.below hc)<|ei<|an KN fun g5 He Dr=>lb 0<|an ⟨rfl,rfl⟩ fun KE vI=>lb 2<|an rfl<|lb 0<|an rfl<|cl<|an (yK _ mA mB mC LA LB LC _ sc (vI.map 5 rfl) (vI.map 4 rfl) (vI.map 3 rfl) hmA hmB hmC y.cond ⟨by omega,by omega⟩) fun Te Hl=>an (fun hb2=>lb 0<|an ⟨rfl,rfl⟩ fun Ob Eu=>lb 1<|an rfl<|lb 0<|an rfl<|fun g6 W_ KL=>KJ 0 id rfl (KL.slice 0 rfl (k:=13) (n:=1) rfl rfl (by simp[maxLen])) ⟨by unfold maxLen;omega,by omega⟩ fun va vc W9 WE=>lb 2<|an ⟨rfl,rfl⟩ fun w18 WD=>an (by omega)<|bk (m+1,.slice va (L.length+1) vc,L++[{ y with cond:=(bH sc y.cond).1 }]) ⟨rfl,trivial⟩ (fun M=>⟨(M.only (.cons _ (.cons _ (.refl _))) (.refl _)).cast rfl (by dsimp only;rw[avo,avw];rfl),by omega,by rw[Fz hy (show cT sc y=some { y with cond:=(bH sc y.cond).1 } by unfold cT;rw[if_pos hb2]),hL]⟩) (by dsimp only;omega)) fun hb2=>an (by omega)<|bk (m+1,v,L) ⟨rfl,trivial⟩ (fun M=>⟨M.only (.cons _ (.refl _)) (.refl _),by omega,by rw[O8 hy (show cT sc y=none by unfold cT;rw[if_neg (by rw[hb2];decide)]),hL]⟩) (by dsimp only;omega)
 obtain rfl:m=p.trans.length:=by simp at h;omega
 rw[avv]at hL;subst hL;obtain⟨agE,agD,rfl⟩:=M.form 0 rfl;clear M h hm;refine lb 0<|an rfl<|lb 5<|an ⟨rfl,rfl⟩ fun w M=>ei (x:=5)<|an rfl fun M=>?_
 exact⟨_,rfl,⟨_,_,_,_,_,_,_,_,_,_,_,_,_,_,_,_,_,_,_,_,_,_,_,_,_,_,_,_,_,_,_,_,_,_,_,rfl,M.dV,fun B u qD=>{ hPC B u (qD.sub (.cons _ (.cons _ (List.sublist_append_right _ _)))) with conds:=nN (q8 (R:=bV _) (qD.1 _ (avh (i:=2) rfl)) rfl Jy wW (fun i x y h1 h2=>bV.mono (fun r hr=>show r∈[_,_]++(([]++(_::T))++TC) from avm.2 (.inr (avm.2 (.inl (avj _ hr))))) (hT i x y h1 h2)) fun _ _ h=>bV.one h) fun _ _ h=>bV.at_ qD h,rules:=SliceAt.bF (qD.1 _ (avh (i:=1) rfl)) (dX fun _=>rfl),trans:=SliceAt.bF (qD.1 _ (avh (i:=0) rfl)) (dX fun _=>rfl) }⟩,M.below⟩
structure YV (p:aC):Prop where
 ok:p.Ok
 sm:pF p
 bools:p.bools.length≤5
 conds:p.conds.length≤900
 om:∀ y∈p.rules,-1000000≤y.cond∧y.cond≤1000000
 pz:∀ y∈p.trans,-1000000≤y.cond∧y.cond≤1000000
 be:∀ e∈p.conds,∃ d,d≤12∧eX d (aI p.bools e)∧(dh (aI p.bools e)).length≤5
 rules:p.rules.length≤100000
 trans:p.trans.length≤100000
structure RdH (p:aC):Prop where
 ok:p.Ok
 sm:pF p
 bools:p.bools.length≤5
 conds:p.conds.length≤1000
 rules:p.rules.length≤900
structure RuH (p:aC):Prop where
 ok:p.Ok
 sm:pF p
 rules:p.rules.length≤1000
theorem RowsIn.right{B:Nat}{w:World}{A C:List Rw}(h:RowsIn B w (A++C)):RowsIn B w C:=⟨fun r hr=>h.1 r (avm.2 (.inr hr)),(List.pairwise_append.1 h.2).2.1⟩
theorem RowsIn.left{B:Nat}{w:World}{A C:List Rw}(h:RowsIn B w (A++C)):RowsIn B w A:=⟨fun r hr=>h.1 r (avm.2 (.inl hr)),(List.pairwise_append.1 h.2).1⟩
def wz(p:aC):List Int:=(ze p).map fun(k:Nat)=>(k:Int)
theorem Qu{w:World}{B:Nat}{v:Value}{p:aC}(h:w.ownsRow B 3 1 v (ze p).length (ints (ze p))):SliceAt w v 1 (wz p).length ((wz p).flatMap anyI):=by
 have h2:=SliceAt.bF h (Jk _);have e1:(wz p).length=(ze p).length:=avk ..
 have e2:(wz p).flatMap anyI=ints (ze p):=by
  unfold wz
  induction ze p with
  | nil=>rfl
  | cons a l ih=>rw[List.map_cons,List.flatMap_cons,ih];rfl
 rw[e1,e2];exact h2
theorem Dq.low{wb w:World}{p:aC}{v:Value}{u:World}(h:Dq w p v u)(hi:wb.heap.size≤w.heap.size):Dq wb p v u:=by
 obtain⟨x0,n0,x1,n1,x2,n2,x3,n3,x4,n4,x5,n5,x6,n6,x7,n7,x8,n8,x9,n9,x10,n10,pK,n11,pJ,n12,Ll,n13,Lk,n14,Lj,n15,Li,n16,T,e,h1,h2⟩:=h;exact⟨x0,n0,x1,n1,x2,n2,x3,n3,x4,n4,x5,n5,x6,n6,x7,n7,x8,n8,x9,n9,x10,n10,pK,n11,pJ,n12,Ll,n13,Lk,n14,Lj,n15,Li,n16,T,e,h1.low hi,h2⟩
def aaM(p:aC):aC:=aQ (wk (Sn (aQ p) (wz (aQ p))))
theorem E7(w0:World)(c0 c1 c2 c3 c4 c5 c6 c7 c8 c9 aV aP aO aU aT aS aR:Value)(p:aC)(hp:aM w0 c0 c1 c2 c3 c4 c5 c6 c7 c8 c9 aV aP aO aU aT aS aR p)(h1:YV p)(h2:RdH (aQ p))(h3:RuH (Sn (aQ p) (wz (aQ p))))(h4:YV (wk (Sn (aQ p) (wz (aQ p))))):Calls Tryz.prog 22 #[.agg #[c0,c1,c2,c3,c4,c5,c6,c7,c8,c9,aV,aP,aO,aU,aT,aS,aR]] w0 (fun(r:Ending) (w':World)=>∃ v,r=.returned v∧(Dq w0 (aaM p) v w'∧avd w0.heap.size w0 w')):=by
 obtain⟨_,_,_,_,_,_,_,_,_,_,_,_,_,_,_,_,_,_,_,_,_,_,_,_,_,_,_,_,_,_,_,_,_,_,rfl,rfl,rfl,rfl,rfl,rfl,rfl,rfl,rfl,rfl,rfl,rfl,rfl,rfl,rfl,rfl,rfl⟩:=hp.open;unfold aaM;refine cL [] (fn:=Tryz.f22) Tryz.func22 rfl Tryz.ntmps22 rfl<|fun g1 w1 M1=>ei<|an nu fun g2 w2 M2=>lb 1<|an rfl<|cg<|an (jh _ _ _ _ _ _ _ _ _ _ _ _ _ _ _ _ _ _ p (hp.keep M2.below) h1.ok h1.sm h1.bools h1.conds h1.om h1.pz h1.be h1.rules h1.trans) fun v w3 ⟨⟨x0a,n0a,x1a,n1a,x2a,n2a,x3a,n3a,x4a,n4a,x5a,n5a,x6a,n6a,x7a,n7a,x8a,n8a,x9a,n9a,alI,amY,alE,amU,alA,amQ,alw,amM,alq,amI,alm,amE,alh,amA,Ta,hv,hTa,hPa⟩,vG⟩=>⟨_,_,M2.dS vG hTa,?_⟩
 subst hv;generalize aQ p=q at *;refine ei<|an nu fun g3 w4 M4=>lb 0<|an ⟨rfl,rfl⟩ fun w5 M5=>sp [0,1] (.step 2 (.step 3 (.last 4))) [2] (by kernel_rfl)<|lb 0<|an rfl<|lb 0<|an rfl<|fun w6 Nb M6=>Hg M6 (sy _ _ _ _ _ _ _ _ _ _ _ _ _ _ _ _ _ _ q (hPa _ _ M6.dV) h2.ok h2.bools h2.conds h2.rules) fun la lc w7 M7=>an rfl<|cg<|an (H7 _ _ _ _ _ _ _ _ _ _ _ _ _ _ _ _ _ _ q (hPa _ _ ⟨fun r hr=>M7.dV.1 r (avj _ hr),(List.pairwise_cons.1 M7.dV.2).2⟩) h2.ok h2.sm _ (wz q) (Qu (oH (M7.r 0 rfl) (ave _)))) fun v w8 ⟨⟨x0b,n0b,x1b,n1b,x2b,n2b,x3b,n3b,x4b,n4b,x5b,n5b,x6b,n6b,x7b,n7b,x8b,n8b,x9b,n9b,alH,amX,alD,amT,alz,amP,alv,amL,alp,amH,alk,amD,alg,amz,Tb,hv,CS,hPb⟩,hb8⟩=>⟨_,_,M7.dS hb8 CS,?_⟩
 subst hv;generalize Sn q (wz q)=q2 at *;refine an rfl<|lb 0<|an ⟨rfl,rfl⟩ fun w9 M9=>lb 0<|an rfl<|cg<|an (Mh _ _ _ _ _ _ _ _ _ _ _ _ _ _ _ _ _ _ q2 (hPb _ _ M9.dV.right) h3.ok h3.sm h3.rules) fun v tS ⟨⟨x0c,n0c,x1c,n1c,x2c,n2c,x3c,n3c,x4c,n4c,x5c,n5c,x6c,n6c,x7c,n7c,x8c,n8c,x9c,n9c,alG,amW,alC,amS,aly,amO,alu,amK,alo,amG,alj,amC,alf,amy,Tc,hv,hTc,hPc⟩,zh⟩=>⟨_,_,M9.dS zh hTc,?_⟩
 subst hv;have nr:=M9.dS zh hTc;generalize wk q2=q3 at *;refine cg<|an (jh _ _ _ _ _ _ _ _ _ _ _ _ _ _ _ _ _ _ q3 (hPc _ _ nr.dV.right) h4.ok h4.sm h4.bools h4.conds h4.om h4.pz h4.be h4.rules h4.trans) fun v Dw ⟨⟨x0d,n0d,x1d,n1d,x2d,n2d,x3d,n3d,x4d,n4d,x5d,n5d,x6d,n6d,x7d,n7d,x8d,n8d,x9d,n9d,alF,amV,alB,amR,alx,amN,alr,amJ,aln,amF,ali,amB,ale,amx,Td,hv,hTd,hPd⟩,C_⟩=>⟨_,_,nr.dS C_ hTd,?_⟩
 subst hv;exact lb 1<|an ⟨rfl,rfl⟩ fun w M=>ei (x:=1)<|an rfl fun M=>⟨_,rfl,⟨_,_,_,_,_,_,_,_,_,_,_,_,_,_,_,_,_,_,_,_,_,_,_,_,_,_,_,_,_,_,_,_,_,_,_,rfl,M.dV,fun B u h=>hPd B u h.right⟩,M.below⟩
def LM(l:List Int):Int:=l.foldl (fun a x=>bits .or .u64 a (IntKind.u64.wrap (1*2^(x:Int).toNat))) 0
theorem Qh{l:List Int}{m:Nat}{y:Int}(hy:l[m]?=some y):LM (l.take (m+1))=bits .or .u64 (LM (l.take m)) (IntKind.u64.wrap (1*2^(y:Int).toNat)):=by
 unfold LM;rw[bw hy,List.foldl_append];rfl
theorem Y7{x:Int}(h0:0≤x)(h1:x<64):IntKind.i64.wrap (Int.tdiv x 64)=0:=by rw[Int.tdiv_eq_zero_of_lt h0 h1];rfl
theorem adD{x:Int}(h0:0≤x)(h1:x<64):Int.tmod x 64=x:=by
 exact Int.tmod_eq_of_lt h0 h1
theorem afj{P:Program}{o:Oper}{a:Act}{w:World}{ty yt:TypeId}{x y:Operand}{k:IntKind}{m n:Int}(ho:o.op=.binOp .rem ty x y yt)(hx:a.eval x=.int k m)(hy:a.eval y=.int k n)(h0:n≠0):(execOp a.eval o).run P w=.ok (.value (.int k (m.tmod n))) w:=by
 unfold execOp;simp[ho,hx,hy,eqGuard,binOp,Op.intDiv,h0]
theorem Xt(w0:World)(v:Value)(l:List Int)(h:SliceAt w0 v 1 l.length (l.flatMap anyI))(hl:∀ y∈l,0≤y∧y<64):Calls Tryz.prog 127 #[v] w0 (fun(r:Ending) (w':World)=>r=.returned (.agg #[.int .u64 (LM l),.int .u64 0,.int .u64 0,.int .u64 0])∧avd w0.heap.size w0 w'):=by
 obtain⟨la,lc,rfl,hk,hm,hcell⟩:=SliceAt.form h (by decide);have bL:=hrC Tryz.prog Tryz.f127 (fun(r:Ending) (w':World)=>r=.returned (.agg #[.int .u64 (LM l),.int .u64 0,.int .u64 0,.int .u64 0])∧avd w0.heap.size w0 w') 32 2 54 rfl u54 rfl aax;refine en Tryz.func127 rfl Tryz.ntmps127 rfl (vs:=[.slice la l.length lc]) rfl fun _ F=>?_
 have M:=Mm.start w0;refine avq fun K1 gV=>ah<|Jh (on rfl) rfl KO rfl F rfl M fun go _ _ F M=>avr<|gV _ _ ?_
 refine avq fun K2 h_=>ah<|Jh (on rfl) rfl KO rfl F rfl M fun gx _ _ F M=>avr<|h_ _ _ ?_
 refine avq fun K3 nh=>avq fun K4 n_=>ah<|xA (v:=.int .i64 0) F rf rf rf fun _ F=>avr<|n_ _ _ ?_
 refine wp_block<|?_;refine eH (ι:=Nat×Int) (fun|(m,x),a,w=>Fs a 32 [(0,.slice la l.length lc),(2,.pointer (some ⟨go,0,none⟩)),(3,.pointer (some ⟨gx,0,none⟩)),(4,.int .i64 (m:Int))]∧Mm w0 w [(gx,54,#[.int .u64 x,.int .u64 0,.int .u64 0,.int .u64 0]),(go,54,#[.int .u64 0,.int .u64 0,.int .u64 0,.int .u64 0])] []∧m≤l.length∧x=LM (l.take m)) (fun|(m,x)=>l.length-m) (0,0) ⟨F.sub ⟨rfl,rfl,rfl,rfl,trivial⟩,M,ave _,rfl⟩ ?_
 (repeat clear F);(repeat clear M)
 rintro⟨m,x⟩ _ _ ⟨F,M,hm,hx⟩;refine avq fun K5 nZ=>avq fun K6 pN=>ah<|xM F rf rf rf fun _ F=>xM F rf rf rf fun _ F=>kz F rf (fQ rfl (F.u rf) u64) fun _ F=>kz F rf (jf rfl (F.u rf) (F.u rf)) fun _ F=>avr<|pN _ _ ?_
 refine avt (F.e 8 rfl) (fun hc1=>?_) (fun hc1=>?_)
 ·have hd2:=of_decide_eq_true hc1;refine wp_skip<|nZ _ _ ?_;refine avq fun K7 rR=>wp_block<|?_
  have hlt:m<l.length:=by omega
  obtain⟨y,hy⟩:∃ y,l[m]?=some y:=⟨_,avf hlt⟩;obtain⟨b9,o9,rfl,hc9⟩:=hcell m hlt;obtain⟨hy0,hy1⟩:=hl y (avh hy)
  have hr9:∀ j uu,[Value.int .i64 y][j]?=some uu→w0.cell? ⟨b9,o9+m*1+j,none⟩=some uu:=fun j u hu=>hc9 j u (by
   rw[kM (f:=anyI) (fun _=>rfl) hy j (avs.1 hu).1];exact hu)
  refine rd 20 [11,12,13,14,15,16,17,18,19,20,21,22,23,24,25,26,27,28,29,30] [bZ (.slice (some ⟨b9,o9,none⟩) l.length lc),bZ (.int .i64 (m:Int)),bZ (.pointer (some ⟨b9,o9+m*1,none⟩)),bZ (.int .i64 y),bZ (.int .i64 0),bZ (.slice (some ⟨b9,o9,none⟩) l.length lc),bZ (.int .i64 (m:Int)),bZ (.pointer (some ⟨b9,o9+m*1,none⟩)),bZ (.int .i64 y),bZ (.int .i64 0),bZ (.pointer (some ⟨gx,0,none⟩)),bZ (.int .u64 x),bZ (.slice (some ⟨b9,o9,none⟩) l.length lc),bZ (.int .i64 (m:Int)),bZ (.pointer (some ⟨b9,o9+m*1,none⟩)),bZ (.int .i64 y),bZ (.int .i64 y),bZ (.int .u64 (IntKind.u64.wrap (1*2^(y:Int).toNat))),bZ (.int .u64 (bits .or .u64 x (IntKind.u64.wrap (1*2^(y:Int).toNat)))),bZ (.pointer (some ⟨gx,0,none⟩))] (by kernel_rfl) (by kernel_rfl) (by kernel_rfl) rfl (by decide) rfl rfl F ⟨ak _,ak _,ak _,ak _,ak _,ak _,ak _,ak _,ak _,ak _,ak _,ak _,ak _,ak _,ak _,ak _,ak _,ak _,ak _,ak _,trivial⟩ ⟨?_,?_,?_,?_,?_,?_,?_,?_,?_,?_,?_,?_,?_,?_,?_,?_,?_,?_,?_,?_,trivial⟩ ?_
  ·exact fun a w Q' hf hi H G hK=>dv (on rfl) (cQ rfl (G 0 _ rfl (F.g 0 rfl)).ev) rfl hf rfl hK rfl
  ·exact fun a w Q' hf hi H G hK=>dv (on rfl) (cQ rfl (G 4 _ rfl (F.g 4 rfl)).ev) rfl hf rfl hK rfl
  ·exact fun a w Q' hf hi H G hK=>dv (on rfl) (bE (i:=m) rfl (iA (H 0 ⟨.data,by simp,rfl⟩ _ _ rfl rfl)).ev (iA (H 1 ⟨.data,by simp,rfl⟩ _ _ rfl rfl)).ev (by omega) u64 Tz) rfl hf rfl hK rfl
  ·exact fun a w Q' hf hi H G hK=>dv (on rfl) (bW rfl (iA (H 2 ⟨.data,by simp,rfl⟩ _ _ rfl rfl)).ev u3 rfl ((cF (M.keep hi).below hr9) 0 _ rfl)) rfl hf rfl hK rfl
  ·exact fun a w Q' hf hi H G hK=>dv (on rfl) (Ph rfl (iA (H 3 ⟨.data,by simp,rfl⟩ _ _ rfl rfl)).ev rfl (by decide)) rfl hf rfl hK (Eq.symm (congrArg (Value.int .i64) (Y7 hy0 hy1)))
  ·exact fun a w Q' hf hi H G hK=>dv (on rfl) (cQ rfl (G 0 _ rfl (F.g 0 rfl)).ev) rfl hf rfl hK rfl
  ·exact fun a w Q' hf hi H G hK=>dv (on rfl) (cQ rfl (G 4 _ rfl (F.g 4 rfl)).ev) rfl hf rfl hK rfl
  ·exact fun a w Q' hf hi H G hK=>dv (on rfl) (bE (i:=m) rfl (iA (H 5 ⟨.data,by simp,rfl⟩ _ _ rfl rfl)).ev (iA (H 6 ⟨.data,by simp,rfl⟩ _ _ rfl rfl)).ev (by omega) u64 Tz) rfl hf rfl hK rfl
  ·exact fun a w Q' hf hi H G hK=>dv (on rfl) (bW rfl (iA (H 7 ⟨.data,by simp,rfl⟩ _ _ rfl rfl)).ev u3 rfl ((cF (M.keep hi).below hr9) 0 _ rfl)) rfl hf rfl hK rfl
  ·exact fun a w Q' hf hi H G hK=>dv (on rfl) (Ph rfl (iA (H 8 ⟨.data,by simp,rfl⟩ _ _ rfl rfl)).ev rfl (by decide)) rfl hf rfl hK (Eq.symm (congrArg (Value.int .i64) (Y7 hy0 hy1)))
  ·exact fun a w Q' hf hi H G hK=>dv (on rfl) (tK (i:=0) rfl (G 3 _ rfl (F.g 3 rfl)).ev (iA (H 9 ⟨.data,by simp,rfl⟩ _ _ rfl rfl)).ev (by decide) u54 kf) rfl hf rfl hK rfl
  ·exact fun a w Q' hf hi H G hK=>dv (on rfl) (bW rfl (iA (H 10 ⟨.data,by simp,rfl⟩ _ _ rfl rfl)).ev Oi rfl (((M.keep hi).b 0 rfl).c1 0)) rfl hf rfl hK rfl
  ·exact fun a w Q' hf hi H G hK=>dv (on rfl) (cQ rfl (G 0 _ rfl (F.g 0 rfl)).ev) rfl hf rfl hK rfl
  ·exact fun a w Q' hf hi H G hK=>dv (on rfl) (cQ rfl (G 4 _ rfl (F.g 4 rfl)).ev) rfl hf rfl hK rfl
  ·exact fun a w Q' hf hi H G hK=>dv (on rfl) (bE (i:=m) rfl (iA (H 12 ⟨.data,by simp,rfl⟩ _ _ rfl rfl)).ev (iA (H 13 ⟨.data,by simp,rfl⟩ _ _ rfl rfl)).ev (by omega) u64 Tz) rfl hf rfl hK rfl
  ·exact fun a w Q' hf hi H G hK=>dv (on rfl) (bW rfl (iA (H 14 ⟨.data,by simp,rfl⟩ _ _ rfl rfl)).ev u3 rfl ((cF (M.keep hi).below hr9) 0 _ rfl)) rfl hf rfl hK rfl
  ·exact fun a w Q' hf hi H G hK=>dv (on rfl) (afj rfl (iA (H 15 ⟨.data,by simp,rfl⟩ _ _ rfl rfl)).ev rfl (by decide)) rfl hf rfl hK (Eq.symm (congrArg (Value.int .i64) (adD hy0 hy1)))
  ·exact fun a w Q' hf hi H G hK=>dv (on rfl) (j5 rfl rfl (iA (H 16 ⟨.data,by simp,rfl⟩ _ _ rfl rfl)).ev (by omega) (show _≤((64:Nat):Int) by omega)) rfl hf rfl hK rfl
  ·exact fun a w Q' hf hi H G hK=>dv (on rfl) (V3 rfl (iA (H 11 ⟨.data,by simp,rfl⟩ _ _ rfl rfl)).ev (iA (H 17 ⟨.data,by simp,rfl⟩ _ _ rfl rfl)).ev) rfl hf rfl hK rfl
  ·exact fun a w Q' hf hi H G hK=>dv (on rfl) (tK (i:=0) rfl (G 3 _ rfl (F.g 3 rfl)).ev (iA (H 4 ⟨.data,by simp,rfl⟩ _ _ rfl rfl)).ev (by decide) u54 kf) rfl hf rfl hK rfl
  (repeat clear F);intro _ _ CQ F D
  obtain⟨_,h,rfl⟩:=D 18 _ _ rfl rfl;have F:=F.add h;obtain⟨_,h,rfl⟩:=D 19 _ _ rfl rfl;have F:=F.add h;have M:=M.keep CQ;clear D CQ;intro Qt Vm;refine ks (on rfl) rfl (F.u rf) (F.u rf) F M 0 (cs':=#[.int .u64 (bits .or .u64 x (IntKind.u64.wrap (1*2^(y:Int).toNat))),.int .u64 0,.int .u64 0,.int .u64 0]) rfl rfl rfl kf rfl rfl rfl rfl fun _ M=>avr (Vm _ _ ?_)
  refine rR _ _ ?_
  refine ah<|xM F rf rf rf fun _ F=>
   ke (on rfl) (eV rfl (F.u rf) rfl) rfl F rfl (congrArg (Value.int .i64) (wrap_i64 (by omega))) fun _ F=>
   xA F rf rf rf fun _ F=>
   avr<|?_
  exact⟨(m+1,bits .or .u64 x (IntKind.u64.wrap (1*2^(y:Int).toNat))),⟨F.sub ⟨rfl,rfl,rfl,rfl,trivial⟩,M,by omega,(by rw[Qh hy,← hx])⟩,by show l.length-(m+1)<l.length-m;omega⟩
 ·have hd3:=of_decide_eq_false hc1;refine wp_exit<|nh _ _ ?_;refine avq fun K8 wX=>ah<|xW F (M.b 0 rfl) rf rf rf u54 rf aax rf fun _ F=>KG (on rfl) rfl (F.u rf) (F.u rf) F M 1 rfl aax rfl rfl rfl fun _ M=>avr<|wX _ _ ?_
  refine wp_ret<|bL _ _ _ _ _ _ F rfl (M.b 1 rfl) rfl ?_;obtain rfl:m=l.length:=by omega
  rw[avv]at hx;exact⟨by rw[hx],M.below⟩
def iZ:iD:=⟨⟨#[111,98,106,101,99,116,95,114]⟩,ay.zero,ay.zero⟩
theorem Ns(r:iD)(w:World):(Op.equalIn 10000 188 (.agg #[.string r.name,.int .u64 r.types.a,.int .u64 r.types.b,.int .u64 r.types.c,.int .u64 r.types.d,.int .u64 r.next.a,.int .u64 r.next.b,.int .u64 r.next.c,.int .u64 r.next.d]) (.agg #[.string ⟨#[111,98,106,101,99,116,95,114]⟩,.int .u64 0,.int .u64 0,.int .u64 0,.int .u64 0,.int .u64 0,.int .u64 0,.int .u64 0,.int .u64 0])).run Tryz.prog w=.ok (decide (r=iZ)) w:=by
 rw[show(10000:Nat)=9997+3 from rfl,VK];congr 1;rw[Bool.eq_iff_iff];obtain⟨n,⟨a,b,c,d⟩,⟨a',b',c',d'⟩⟩:=r;simp only[decide_eq_true_eq,iZ,ay.zero,ay.mk.injEq,iD.mk.injEq,and_assoc];refine and_congr_right fun _=>?_
 omega
def OA(nT nR:Nat)(before:List ByteArray)(y:iD):Int:=
 if bP [y.name] before=0 then
  (if y.types.within (ay.all nT)=false then 3 else if wm nR y.next=false then 3 else 0)
 else bP [y.name] before
def AQ(p:aC)(i:Nat):Int:=match p.roles[i]? with
 | some y=>OA p.types.length p.roles.length ((p.roles.take i).map (·.name)) y
 | none=>0
def ql(p:aC):Int:=if 32<p.roles.length then 4 else if p.roles[0]?≠some iZ then 2 else aJ (AQ p) (p.roles.length-1) 1
theorem Q9{p:aC}(h:p.roles.length=0):p.roles[0]?≠some iZ:=by
 rw[List.getElem?_eq_none (by omega)];simp
theorem Yh{p:aC}{r:iD}(h:p.roles[0]?=some r)(hn:¬ r=iZ):p.roles[0]?≠some iZ:=by
 rw[h];simpa using hn
theorem head_eq{p:aC}{r:iD}(h:p.roles[0]?=some r)(hn:r=iZ):¬ p.roles[0]?≠some iZ:=by
 rw[h];simpa using hn
theorem L0{p:aC}{r:iD}(h:p.roles[0]?=some r)(hn:r=iZ):[(⟨#[111,98,106,101,99,116,95,114]⟩:ByteArray)]=(p.roles.take 1).map (·.name):=by
 cases hp:p.roles with
 | nil=>rw[hp]at h;simp at h
 | cons x l=>rw[hp]at h;simp at h;subst h hn;rfl
theorem Qq(w0:World)(c0 c1 c2 c3 c4 c5 c6 c7 c8 c9 aV aP aO aU aT aS aR:Value)(p:aC)(hp:aM w0 c0 c1 c2 c3 c4 c5 c6 c7 c8 c9 aV aP aO aU aT aS aR p)(hok:p.Ok):Calls Tryz.prog 43 #[.agg #[c0,c1,c2,c3,c4,c5,c6,c7,c8,c9,aV,aP,aO,aU,aT,aS,aR]] w0 (RI w0 (ql p)):=by
 obtain⟨_,_,_,a3,_,_,_,_,_,_,_,_,_,_,_,_,_,_,_,_,k3,_,_,_,_,_,_,_,_,_,_,_,_,_,rfl,rfl,rfl,rfl,rfl,rfl,rfl,rfl,rfl,rfl,rfl,rfl,rfl,rfl,rfl,rfl,rfl⟩:=hp.open
 obtain⟨r,b,o,H⟩:∃ (r:iD) (b o:Nat),p.roles.length≠0→p.roles[0]?=some r∧a3=some ⟨b,o,none⟩∧∀ j u,r.cells[j]?=some u→w0.cell? ⟨b,o+0*9+j,none⟩=some u:=by
  by_cases h0:p.roles.length=0
  ·exact⟨iZ,0,0,fun h=>absurd h0 h⟩
  ·have hy:=avf (Nat.pos_of_ne_zero h0);obtain⟨b,o,e,hc⟩:=SliceAt.elt hp.roles (fun _=>rfl) (by decide) hy (Nat.pos_of_ne_zero h0);exact⟨_,b,o,fun _=>⟨hy,e,hc⟩⟩
 refine cL [] (fn:=Tryz.f43) Tryz.func43 rfl Tryz.ntmps43 rfl<|fun g1 w1 M1=>lb 0<|an rfl<|an (fun h M=>⟨ri (by unfold ql;rw[if_pos (by simp at h;omega)]),M.below⟩) fun h=>?_
 have hr:¬ 32<p.roles.length:=by simp at h;omega
 refine lb 0<|an rfl<|cl<|an (AR _ _ hok.vW) fun w2 M2=>ei<|an KO fun g2 w3 M3=>lb 0<|an ⟨rfl,rfl⟩ fun w4 M4=>lb 1<|an rfl<|lb 1<|an (fun _=>rfl)<|ia (b:=b) (off:=o) (i:=0)<|an (fun h=>⟨(H fun e=>by simp[e]at h).2.1,rfl,Nat.pos_of_ne_zero fun e=>by simp[e]at h⟩)<|lc (x:=[.string r.name,.int .u64 r.types.a,.int .u64 r.types.b,.int .u64 r.types.c,.int .u64 r.types.d,.int .u64 r.next.a,.int .u64 r.next.b,.int .u64 r.next.c,.int .u64 r.next.d])<|an (fun h=>cF M4.below (H fun e=>by simp[e]at h).2.2)<|ei (x:=.agg #[.string ⟨#[111,98,106,101,99,116,95,114]⟩,.int .u64 0,.int .u64 0,.int .u64 0,.int .u64 0,.int .u64 0,.int .u64 0,.int .u64 0,.int .u64 0])<|an (fun _=>bd (by kernel_rfl))<|ei<|an (fun h=>⟨V1,Ns r⟩)<|an (fun h2 M=>⟨ri ?_,M.below⟩) fun h2=>?_
 ·unfold ql;rw[if_neg hr,if_pos];by_cases h0:p.roles.length=0
  ·exact Q9 h0
  ·exact Yh (H h0).1 (by simpa[h0] using h2)
 have h0:p.roles.length≠0:=fun e=>by simp[e]at h2
 obtain⟨hr0,-,-⟩:=H h0;have hro:r=iZ:=by simpa[h0] using h2
 rw[show ql p=aJ (AQ p) (p.roles.length-1) 1 by unfold ql;rw[if_neg hr,if_neg (head_eq hr0 hro)]];refine fun g3 w5 M5=>lp (ι:=Nat×Value) (fun(m,u)=>[(4,u),(5,.int .i64 (m:Int))]) (fun _=>[_,_]) (fun(m,u)=>[⟨u,9,1,m,((p.roles.take m).map (·.name)).flatMap aW⟩]) (fun(m,u) _=>(1≤m∧m≤p.roles.length)∧aJ (AQ p) (p.roles.length-1) 1=aJ (AQ p) (p.roles.length-m) m) (fun(m,u)=>p.roles.length-m) (1,.slice (some ⟨g3,0,none⟩) 1 1) (an ⟨⟨rfl,rfl,trivial⟩,fun M=>⟨(M.Ct 1 1 (by simp[maxLen]) rfl).cast rfl (by dsimp only;rw[← L0 hr0 hro];rfl),⟨Nat.le_refl _,Nat.pos_of_ne_zero h0⟩,rfl⟩⟩ ?_)
 rintro⟨m,u⟩ w M ⟨⟨h1m,hm⟩,hinv⟩;refine lb 1<|an rfl<|an (fun h2=>?_) fun h2 M=>⟨ri (by rw[hinv,show m=p.roles.length by simp at h2;omega,cM]),M.below⟩
 have hlt:m<p.roles.length:=by simp at h2;omega
 obtain⟨y,hy⟩:∃ y,p.roles[m]?=some y:=⟨_,avf hlt⟩;have qu:=hok.roles y (avh hy);obtain⟨b,o,e,hc⟩:=SliceAt.elt hp.roles (fun _=>rfl) (by decide) hy hlt;have hcf:AQ p m=OA p.types.length p.roles.length ((p.roles.take m).map (·.name)) y:=by unfold AQ;rw[hy]
 have out:∀ v:Int,OA p.types.length p.roles.length ((p.roles.take m).map (·.name)) y=v→v≠0→aJ (AQ p) (p.roles.length-1) 1=v:=fun v h1 h2=>by rw[hinv,cN hlt (by rw[hcf,h1];exact h2),hcf,h1]
 unfold OA at hcf out;refine lb 1<|an rfl<|ia<|an ⟨e,rfl,hlt⟩<|lc<|an (cF M.below hc)<|ei<|an adf fun g2 w2 M2=>lb 0<|an ⟨rfl,rfl⟩ fun w3 M3=>lb 0<|an rfl<|fun g3 w4 M4=>cl<|an (fE _ _ _ [y.name] ((p.roles.take m).map (·.name)) (M4.slice 0 rfl rfl rfl (by simp[maxLen])) (gA (M4.r 0 rfl) (by simp;omega) rfl) (by simpa using qu.name)) fun w5 M5=>an (fun h3 M=>⟨ri (out _ (if_neg (by simpa using h3)) (by simpa using h3)),M.below⟩) fun h3=>?_
 replace h3:bP [y.name] ((p.roles.take m).map (·.name))=0:=by simpa using h3
 rw[if_pos h3]at hcf out;refine lb 1<|an rfl<|fun g4 w6 M6=>ap 0 id rfl (M6.slice 0 rfl rfl rfl (by simp[maxLen])) ⟨by unfold maxLen;omega,by omega⟩ fun v5 w7 M7=>lb 2<|an rfl<|lb 3<|an rfl<|cl<|an (qh _ y.types (ay.all p.types.length) qu.types (CA _)) fun w8 M8=>lb 4<|an (fun _=>rfl)<|lb 2<|an (fun _=>rfl)<|cl<|an (fun _=>jq _ _ _ _ _ _ _ _ _ _ _ _ _ _ _ _ _ _ p (hp.keep M8.below) hok y.next qu.next) fun w9 M9=>an (fun h5 M=>⟨ri (out 3 ?_ (by decide)),M.below⟩) fun h5=>an (by omega)<|bk (m+1,v5) ⟨rfl,rfl,trivial⟩ (fun M=>⟨(M.only (.cons _ (.cons _ (.cons _ (.refl _)))) (.refl _)).cast rfl (by dsimp only;rw[rD hy]),by omega,hinv.trans (bR hlt ?_)⟩) (by dsimp only;omega)
 all_goals first|(rw[hcf];clear hcf out)|clear hcf out
 all_goals cases h6:y.types.within (ay.all p.types.length)<;>cases h7:wm p.roles.length y.next<;>simp_all
structure aC.Few (p:aC):Prop where
 types:p.types.length≤12
 oT:∀ t∈p.types,t.oT.length≤4
def eO(l:List mH):List ByteArray:=l.flatMap fun t=>t.name::t.oT
theorem P8{l:List mH}(h:∀ t∈l,t.oT.length≤4):(eO l).length≤l.length*5:=by
 induction l with
 | nil=>simp[eO]
 | cons t l ih=>
  have h1:=h t (by simp);have h2:=ih fun x hx=>h x (by simp[hx])
  unfold eO at *;rw[List.flatMap_cons,avo,List.length_cons,List.length_cons];omega
theorem Au{p:aC}(h:p.Few)(m:Nat):(eO (p.types.take m)).length≤m*5:=by
 have h1:=P8 (l:=p.types.take m) fun t ht=>h.oT t (List.mem_of_mem_take ht)
 have h2:(p.types.take m).length≤m:=List.length_take_le _ _;omega
theorem CZ{y:mH}(h:y.Ok):∀ s∈y.name::y.oT,dF s:=fun s hs=>by
 rcases List.mem_cons.1 hs with rfl|hs
 ·exact h.name
 ·exact h.oT.all s hs
def adw(before:List ByteArray)(y:mH):Int:=bP (y.name::y.oT) before
def xX(p:aC)(i:Nat):Int:=match p.types[i]? with
 | some y=>adw (eO (p.types.take i)) y
 | none=>0
def Pw(nT:Nat)(before:List ByteArray)(y:kV):Int:=
 if bP [y.name] before=0 then (if y.types.within (ay.all nT)=false then 3 else 0) else bP [y.name] before
def Cx(p:aC)(i:Nat):Int:=match p.attrs[i]? with
 | some y=>Pw p.types.length (eO p.types++(p.attrs.take i).map (·.name)) y
 | none=>0
def pV(p:aC):Int:=if 256<p.types.length then 4 else if aJ (xX p) p.types.length 0=0 then (if 64<p.attrs.length then 4 else aJ (Cx p) p.attrs.length 0) else aJ (xX p) p.types.length 0
theorem sj(w0:World)(c0 c1 c2 c3 c4 c5 c6 c7 c8 c9 aV aP aO aU aT aS aR:Value)(p:aC)(hp:aM w0 c0 c1 c2 c3 c4 c5 c6 c7 c8 c9 aV aP aO aU aT aS aR p)(_:p.Ok)(iT:p.Few)(k:Nat)(hk:k≤p.types.length):Calls Tryz.prog 102 #[.agg #[c0,c1,c2,c3,c4,c5,c6,c7,c8,c9,aV,aP,aO,aU,aT,aS,aR],.int .i64 (k:Int)] w0 (fun(e:Ending) (w':World)=>∃ v,e=.returned v∧(aja w' w0.heap.size v (eO (p.types.take k))∧avd w0.heap.size w0 w')):=by
 obtain⟨_,_,_,_,_,_,_,_,_,_,_,_,_,_,_,_,_,_,_,_,_,_,_,_,_,_,_,_,_,_,_,_,_,_,rfl,rfl,rfl,rfl,rfl,rfl,rfl,rfl,rfl,rfl,rfl,rfl,rfl,rfl,rfl,rfl,rfl⟩:=hp.open;have CS:=iT.types;refine cL [] (fn:=Tryz.f102) Tryz.func102 rfl Tryz.ntmps102 rfl<|fun g1 w1 M1=>lq (ι:=Nat×Value) (fun(m,u)=>[(5,u),(6,.int .i64 (m:Int))]) (fun(m,u)=>[⟨u,9,1,(eO (p.types.take m)).length,(eO (p.types.take m)).flatMap aW⟩]) (fun(m,u) _=>m≤k) (fun(m,u)=>k-m) (0,.slice none 0 0) (an ⟨⟨rfl,rfl,trivial⟩,fun M=>⟨M.bC 9 1,ave _⟩⟩ ?_)
 rintro⟨m,u⟩ w M hm;refine an (fun h2=>?_) fun h2 M=>⟨_,rfl,?_,M.below⟩
 ·have hlt:m<k:=by simp at h2;omega
  obtain⟨y,hy⟩:∃ y,p.types[m]?=some y:=⟨_,avf (Nat.lt_of_lt_of_le hlt hk)⟩;obtain⟨b,o,_,e,⟨v,rfl,hv⟩,hc⟩:=au.elt hp.types (by decide) hy;have hl:=Au iT m;have hal:=iT.oT y (avh hy);exact lb 0<|an rfl<|ia<|an ⟨e,rfl,by omega⟩<|lc<|an (cF M.below hc 0 _ rfl)<|fun g2 w2 M2=>ap 0 id rfl (M2.slice 0 rfl rfl rfl (by simp[maxLen])) ⟨by unfold maxLen;omega,by omega⟩ fun v3 w3 M3=>lb 1<|an rfl<|ia<|an ⟨e,rfl,by omega⟩<|lc<|an (cF M3.below hc 1 _ rfl)<|ap 0 id rfl (hv.keep M3.below) ⟨by unfold maxLen;omega,by omega⟩ fun v4 w4 M4=>an (by omega)<|bk (m+1,v4) ⟨rfl,rfl,trivial⟩ (fun M=>⟨(M.only (.cons _ (.refl _)) (.refl _)).cast rfl (by dsimp only;rw[List.take_add_one,hy];simp[eO,aW];omega),by omega⟩) (by dsimp only;omega)
 ·obtain rfl:m=k:=by simp at h2;omega
  exact M.r 0 rfl
theorem P5(w0:World)(c0 c1 c2 c3 c4 c5 c6 c7 c8 c9 aV aP aO aU aT aS aR:Value)(p:aC)(hp:aM w0 c0 c1 c2 c3 c4 c5 c6 c7 c8 c9 aV aP aO aU aT aS aR p)(hok:p.Ok)(iT:p.Few):Calls Tryz.prog 42 #[.agg #[c0,c1,c2,c3,c4,c5,c6,c7,c8,c9,aV,aP,aO,aU,aT,aS,aR]] w0 (RI w0 (pV p)):=by
 obtain⟨_,_,_,_,_,_,_,_,_,_,_,_,_,_,_,_,_,_,_,_,_,_,_,_,_,_,_,_,_,_,_,_,_,_,rfl,rfl,rfl,rfl,rfl,rfl,rfl,rfl,rfl,rfl,rfl,rfl,rfl,rfl,rfl,rfl,rfl⟩:=hp.open;have CS:=iT.types;refine cL [] (fn:=Tryz.f42) Tryz.func42 rfl Tryz.ntmps42 rfl<|fun g1 w1 M1=>lb 0<|an rfl<|an (fun h=>by simp at h;omega) fun h=>?_
 have hr:¬ 256<p.types.length:=by omega
 refine lr (ι:=Nat) (fun m=>[(3,.int .i64 (m:Int))]) (fun m _=>m≤p.types.length∧aJ (xX p) p.types.length 0=aJ (xX p) (p.types.length-m) m) (fun m=>p.types.length-m) 0 (an ⟨⟨rfl,trivial⟩,fun M=>⟨M,ave _,by rw[Nat.sub_zero]⟩⟩ ?_);rintro m w M ⟨hm,hinv⟩;refine lb 0<|an rfl<|an (fun h2=>?_) fun h2=>?_
 ·have hlt:m<p.types.length:=by simp at h2;omega
  obtain⟨y,hy⟩:∃ y,p.types[m]?=some y:=⟨_,avf hlt⟩;have qu:=hok.types y (avh hy);have hal:=iT.oT y (avh hy);obtain⟨b,o,_,e,⟨v,rfl,hv⟩,hc⟩:=au.elt hp.types (by decide) hy;have hcf:xX p m=bP (y.name::y.oT) (eO (p.types.take m)):=by unfold xX;rw[hy];rfl
  exact dr (by kernel_rfl)<|lb 0<|an rfl<|ia<|an ⟨e,rfl,hlt⟩<|lc<|an (cF M.below hc 0 _ rfl)<|bl<|lb 0<|an rfl<|ia<|an ⟨e,rfl,hlt⟩<|lc<|an (cF M.below hc 1 _ rfl)<|fun g2 w2 hb2 M2=>ap 0 (fun M=>M.Ct 1 1 (by simp[maxLen]) rfl) rfl (hv.keep M2.below) ⟨by unfold maxLen;omega,by omega⟩ fun v3 w3 M3=>lb 0<|an rfl<|cw M3 (sj _ _ _ _ _ _ _ _ _ _ _ _ _ _ _ _ _ _ p (hp.keep M3.below) hok iT m hm) fun u w4 M4=>cl<|an (fE _ _ _ (y.name::y.oT) (eO (p.types.take m)) (gA (M4.r 1 rfl) (by simp;omega) rfl) (gA (M4.r 0 rfl) rfl rfl) (CZ qu)) fun w5 M5=>an (fun h3 M=>⟨ri (by
   have h3:bP (y.name::y.oT) (eO (p.types.take m))≠0:=by simpa using h3
   have e:aJ (xX p) p.types.length 0=bP (y.name::y.oT) (eO (p.types.take m)):=by rw[hinv,cN hlt (by rw[hcf];exact h3),hcf]
   unfold pV;rw[if_neg hr,e,if_neg h3]),M.below⟩) fun h3=>an (by omega)<|bk (m+1) ⟨rfl,trivial⟩ (fun M=>⟨M.only (.refl _) (.cons _ (.cons _ (.refl _))),by omega,hinv.trans (bR hlt (by rw[hcf];simpa using h3))⟩) (by dsimp only;omega)
 have hz:aJ (xX p) p.types.length 0=0:=by rw[hinv,show m=p.types.length by simp at h2;omega,cM]
 clear hinv h2;refine lb 0<|an rfl<|an (fun h M=>⟨ri (by unfold pV;rw[if_neg hr,if_pos hz,if_pos (by simp at h;omega)]),M.below⟩) fun h=>?_
 have ha:¬ 64<p.attrs.length:=by simp at h;omega
 rw[show pV p=aJ (Cx p) p.attrs.length 0 by unfold pV;rw[if_neg hr,if_pos hz,if_neg ha]];refine lb 0<|an rfl<|lb 0<|an rfl<|cw M (sj _ _ _ _ _ _ _ _ _ _ _ _ _ _ _ _ _ _ p (hp.keep M.below) hok iT p.types.length (Nat.le_refl _)) fun u0 w5 M5=>lq (ι:=Nat×Value) (fun(m,u)=>[(6,u),(7,.int .i64 (m:Int))]) (fun(m,u)=>[⟨u,9,1,(eO p.types++(p.attrs.take m).map (·.name)).length,(eO p.types++(p.attrs.take m).map (·.name)).flatMap aW⟩]) (fun(m,u) _=>m≤p.attrs.length∧aJ (Cx p) p.attrs.length 0=aJ (Cx p) (p.attrs.length-m) m) (fun(m,u)=>p.attrs.length-m) (0,u0) (an ⟨⟨rfl,rfl,trivial⟩,fun M=>⟨M.cast rfl (by rw[avv];simp),ave _,by rw[Nat.sub_zero]⟩⟩ ?_)
 clear M;rintro⟨m,u⟩ w M ⟨hm,hinv⟩;refine lb 0<|an rfl<|an (fun h2=>?_) fun h2 M=>⟨ri (by rw[hinv,show m=p.attrs.length by simp at h2;omega,cM]),M.below⟩
 have hlt:m<p.attrs.length:=by simp at h2;omega
 obtain⟨y,hy⟩:∃ y,p.attrs[m]?=some y:=⟨_,avf hlt⟩;have qu:=hok.attrs y (avh hy);obtain⟨b,o,e,hc⟩:=SliceAt.elt hp.attrs (fun _=>rfl) (by decide) hy hlt;have hcf:Cx p m=Pw p.types.length (eO p.types++(p.attrs.take m).map (·.name)) y:=by unfold Cx;rw[hy]
 have out:∀ v:Int,Pw p.types.length (eO p.types++(p.attrs.take m).map (·.name)) y=v→v≠0→aJ (Cx p) p.attrs.length 0=v:=fun v h1 h2=>by rw[hinv,cN hlt (by rw[hcf,h1];exact h2),hcf,h1]
 unfold Pw at hcf out;have hl:=Au iT p.types.length;rw[avv]at hl;refine lb 0<|an rfl<|ia<|an ⟨e,rfl,hlt⟩<|lc<|an (cF M.below hc 0 _ rfl)<|fun g4 w6 M6=>cl<|an (fE _ _ _ [y.name] (eO p.types++(p.attrs.take m).map (·.name)) (M6.slice 0 rfl rfl rfl (by simp[maxLen])) (gA (M6.r 0 rfl) rfl rfl) (by simpa using qu.name)) fun w7 M7=>an (fun h3 M=>⟨ri (out _ (if_neg (by simpa using h3)) (by simpa using h3)),M.below⟩) fun h3=>?_
 replace h3:bP [y.name] (eO p.types++(p.attrs.take m).map (·.name))=0:=by simpa using h3
 rw[if_pos h3]at hcf out;have hll:(eO p.types++(p.attrs.take m).map (·.name)).length≤200:=by simp;omega
 exact lb 1<|an rfl<|ia<|an ⟨e,rfl,hlt⟩<|lc<|an (cF M7.below hc 0 _ rfl)<|fun g5 w8 M8=>ap 0 id rfl (M8.slice 0 rfl rfl rfl (by simp[maxLen])) ⟨by unfold maxLen;omega,by omega⟩ fun v6 w9 M9=>dr (by kernel_rfl)<|lb 2<|an rfl<|ia<|an ⟨e,rfl,hlt⟩<|lc (x:=[.int .u64 y.types.a,.int .u64 y.types.b,.int .u64 y.types.c,.int .u64 y.types.d])<|an (AL (cF M9.below hc) rfl)<|lb 2<|an rfl<|cl<|an (fun w' hb' M'=>gD _ y.types qu.types _ (by omega)) fun tS zh nr=>an (fun h4 M=>⟨ri (out 3 (if_pos (by simpa using h4)) (by decide)),M.below⟩) fun h4=>an (by omega)<|bk (m+1,v6) ⟨rfl,rfl,trivial⟩ (fun M=>⟨(M.only (.cons _ (.cons _ (.refl _))) (.refl _)).cast rfl (by dsimp only;rw[List.take_add_one,hy];simp[aW];omega),by omega,hinv.trans (bR hlt (by rw[hcf,if_neg (by simpa using h4)]))⟩) (by dsimp only;omega)
theorem gJ(w:World)(i n:Int):Calls Tryz.prog 113 #[.int .i64 i,.int .i64 n] w fun e w'=>e=.returned (.bool (bq i n))∧avd w.heap.size w w':=(cE w i n).mono fun _ _ ⟨h1,h2⟩=>⟨h1,h2▸Below.refl _ _⟩
structure aC.acE (p:aC):Prop where
 types:p.types.length≤12
 attrs:p.attrs.length≤6
 classes:p.classes.length≤6
 rules:p.rules.length≤40
 conds:p.conds.length≤6
 bools:p.bools.length≤6
 cons:p.cons.length≤12
 users:p.users.length≤8
 roles:p.roles.length≤8
 trans:p.trans.length≤36
 aN:p.aN.length≤12
 ranges:p.ranges.length≤12
 aZ:p.aZ.length≤6
 cats:p.cats.length≤10
 bO:p.bO.length≤8
 files:p.files.length≤12
 asserts:p.asserts.length≤8
structure aC.CG (p:aC):Prop where
 sizes:p.acE
 oT:∀ x∈p.types,x.oT.length≤4
 conds:∀ x∈p.conds,bA 13 x≤6
 cons:∀ x∈p.cons,bA 13 x.expr≤6
theorem aC.CG.few{p:aC}(h:p.CG):p.Few:=⟨h.sizes.types,h.oT⟩
theorem Qg(w0:World)(c0 c1 c2 c3 c4 c5 c6 c7 c8 c9 aV aP aO aU aT aS aR:Value)(p:aC)(hp:aM w0 c0 c1 c2 c3 c4 c5 c6 c7 c8 c9 aV aP aO aU aT aS aR p)(_:p.Ok):Calls Tryz.prog 11 #[.agg #[c0,c1,c2,c3,c4,c5,c6,c7,c8,c9,aV,aP,aO,aU,aT,aS,aR]] w0 (fun(e:Ending) (w':World)=>∃ v,e=.returned v∧∃ b:Bool,v=.bool b∧(b=true→p.CG)∧avd w0.heap.size w0 w'):=by
 obtain⟨_,_,_,_,_,_,_,_,_,_,_,_,_,_,_,_,_,_,_,_,_,_,_,_,_,_,_,_,_,_,_,_,_,_,rfl,rfl,rfl,rfl,rfl,rfl,rfl,rfl,rfl,rfl,rfl,rfl,rfl,rfl,rfl,rfl,rfl⟩:=hp.open;have tr:=fun m h=>SliceAt.elt (i:=m) hp.trans (fun _=>rfl) (by decide) (avf h) h
 obtain⟨_,_,e1,-,-,ty⟩:=au.form hp.types (by decide);obtain⟨_,_,e8,-,-,cd⟩:=au.form hp.conds (by decide);obtain⟨_,_,e13,-,-,cn⟩:=au.form hp.cons (by decide);injection e1 with e1;injection e8 with e8;injection e13 with e13;subst e1 e8 e13;have no:∀ w,avd w0.heap.size w0 w→∃ v,Ending.returned (mE [Value.bool false])=.returned v∧∃ b:Bool,v=.bool b∧(b=true→p.CG)∧avd w0.heap.size w0 w:=fun w h=>⟨_,rfl,false,rfl,(fun e=>by cases e),h⟩
 refine cL [] (fn:=Tryz.f11) Tryz.func11 rfl Tryz.ntmps11 rfl fun g1 w1 M1=>lb 0<|an rfl<|lb 0<|an (fun _=>rfl)<|lb 0<|an (fun _=>rfl)<|lb 0<|an (fun _=>rfl)<|lb 0<|an (fun _=>rfl)<|lb 0<|an (fun _=>rfl)<|lb 0<|an (fun _=>rfl)<|lb 0<|an (fun _=>rfl)<|lb 0<|an (fun _=>rfl)<|an (fun h M=>no _ M.below) fun h=>?_
 simp only[Bool.or_eq_false_iff,decide_eq_false_iff_not]at h;refine lb 0<|an rfl<|lb 0<|an (fun _=>rfl)<|lb 0<|an (fun _=>rfl)<|lb 0<|an (fun _=>rfl)<|lb 0<|an (fun _=>rfl)<|lb 0<|an (fun _=>rfl)<|lb 0<|an (fun _=>rfl)<|lb 0<|an (fun _=>rfl)<|an (fun h M=>no _ M.below) fun h'=>?_
 simp only[Bool.or_eq_false_iff,decide_eq_false_iff_not]at h';refine ei<|an ac_ fun g2 w2 M2=>lp (ι:=Nat×Int×Int×Int×Int) (fun(m,_)=>[(4,.int .i64 (m:Int))]) (fun(m,n0,n1,n2,n3)=>(g2,82,#[.int .i64 n0,.int .i64 n1,.int .i64 n2,.int .i64 n3])::_) (fun _=>[]) (fun(m,n0,n1,n2,n3) _=>m≤p.trans.length∧0≤n1∧n1≤m∧0≤n2∧n2≤m∧0≤n3∧n3≤m) (fun(m,_)=>p.trans.length-m) (0,0,0,0,0) (an ⟨⟨rfl,trivial⟩,fun M=>⟨M,by omega⟩⟩ ?_)
 rintro⟨m,n0,n1,n2,n3⟩ w M hm;refine lb 1<|an rfl<|an (fun h2=>?_) fun h2=>?_
 ·simp only[decide_eq_true_eq]at h2;have hlt:m<p.trans.length:=by omega
  obtain⟨b,o,e,hc⟩:=tr m hlt;refine lb 1<|an rfl<|ia<|an ⟨e,rfl,hlt⟩<|lc<|an (cell_later M.below (hc 0 _ rfl))<|an (fun h3=>?_) fun h3=>an (by omega)<|bk (m+1,n0,n1,n2,n3) ⟨rfl,trivial⟩ (fun M=>⟨M,by omega⟩) (by dsimp only;omega)
  simp only[avc,decide_eq_true_eq]at h3;have hk:p.trans[m].kind=1∨p.trans[m].kind=2∨p.trans[m].kind=3:=by omega
  rcases hk with hk|hk|hk
  ·exact ei (x:=1)<|an ⟨hk,by decide⟩<|lb 0<|an rfl<|an (by omega)<|ei (x:=1)<|an ⟨hk,by decide⟩<|lb 0<|an ⟨rfl,rfl⟩ fun w M=>an (by omega)<|bk (m+1,n0,n1+1,n2,n3) ⟨rfl,trivial⟩ (fun M=>⟨M,by omega⟩) (by dsimp only;omega)
  ·exact ei (x:=2)<|an ⟨hk,by decide⟩<|lb 0<|an rfl<|an (by omega)<|ei (x:=2)<|an ⟨hk,by decide⟩<|lb 0<|an ⟨rfl,rfl⟩ fun w M=>an (by omega)<|bk (m+1,n0,n1,n2+1,n3) ⟨rfl,trivial⟩ (fun M=>⟨M,by omega⟩) (by dsimp only;omega)
  ·exact ei (x:=3)<|an ⟨hk,by decide⟩<|lb 0<|an rfl<|an (by omega)<|ei (x:=3)<|an ⟨hk,by decide⟩<|lb 0<|an ⟨rfl,rfl⟩ fun w M=>an (by omega)<|bk (m+1,n0,n1,n2,n3+1) ⟨rfl,trivial⟩ (fun M=>⟨M,by omega⟩) (by dsimp only;omega)
 refine lr (ι:=Nat) (fun m=>[(6,.int .i64 (m:Int))]) (fun m _=>m≤p.types.length∧∀ x∈p.types.take m,x.oT.length≤4) (fun m=>p.types.length-m) 0 (an ⟨⟨rfl,trivial⟩,fun M=>⟨M,ave _,by simp⟩⟩ ?_);rintro i1 w M ⟨hi1,ha⟩;refine lb 1<|an rfl<|an (fun h2=>?_) fun h2=>?_
 ·simp only[decide_eq_true_eq]at h2;obtain⟨x,hx⟩:∃ x,p.types[i1]?=some x:=⟨_,avf (by omega)⟩;obtain⟨b,o,z,rfl,⟨u,rfl,hu⟩,-,hc⟩:=ty i1 x hx;obtain⟨_,_,rfl,-⟩:=hu.get;refine lb 1<|an rfl<|ia<|an ⟨rfl,rfl,by omega⟩<|lc<|an (cell_later M.below (hc 1 _ rfl))<|an (fun h3 M=>no _ M.below) fun h3=>an (by omega)<|bk (i1+1) ⟨rfl,trivial⟩ (fun M=>⟨M,by omega,fun y hy=>?_⟩) (by dsimp only;omega)
  rw[List.take_add_one,hx]at hy;rcases avm.1 hy with hy|hy
  ·exact ha y hy
  ·obtain rfl:y=x:=by simpa using hy
   simp only[decide_eq_false_iff_not]at h3;omega
 simp only[decide_eq_false_iff_not]at h2;obtain rfl:i1=p.types.length:=by omega
 refine lr (ι:=Nat) (fun m=>[(7,.int .i64 (m:Int))]) (fun m _=>m≤p.conds.length∧∀ x∈p.conds.take m,bA 13 x≤6) (fun m=>p.conds.length-m) 0 (an ⟨⟨rfl,trivial⟩,fun M=>⟨M,ave _,by simp⟩⟩ ?_);rintro i2 w M ⟨hi2,hb⟩;refine lb 1<|an rfl<|an (fun h2=>?_) fun h2=>?_
 ·simp only[decide_eq_true_eq]at h2;obtain⟨x,hx⟩:∃ x,p.conds[i2]?=some x:=⟨_,avf (by omega)⟩;obtain⟨b,o,z,rfl,hz,-,hc⟩:=cd i2 x hx;obtain⟨nv,kv,rfl,-⟩:=hz.open;refine lb 1<|an rfl<|ia<|an ⟨rfl,rfl,by omega⟩<|lc<|an (cF M.below hc)<|cl<|an (oV _ _ x (bf.keep M.below hz)) fun w3 M3=>an (fun h3 M=>no _ M.below) fun h3=>an (by omega)<|bk (i2+1) ⟨rfl,trivial⟩ (fun M=>⟨M,by omega,fun y hy=>?_⟩) (by dsimp only;omega)
  rw[List.take_add_one,hx]at hy;rcases avm.1 hy with hy|hy
  ·exact hb y hy
  ·obtain rfl:y=x:=by simpa using hy
   simp only[decide_eq_false_iff_not]at h3;omega
 simp only[decide_eq_false_iff_not]at h2;obtain rfl:i2=p.conds.length:=by omega
 refine lr (ι:=Nat) (fun m=>[(8,.int .i64 (m:Int))]) (fun m _=>m≤p.cons.length∧∀ x∈p.cons.take m,bA 13 x.expr≤6) (fun m=>p.cons.length-m) 0 (an ⟨⟨rfl,trivial⟩,fun M=>⟨M,ave _,by simp⟩⟩ ?_);rintro i3 w M ⟨hi3,WO⟩;refine lb 1<|an rfl<|an (fun h2=>?_) fun h2=>?_
 ·simp only[decide_eq_true_eq]at h2;obtain⟨x,hx⟩:∃ x,p.cons[i3]?=some x:=⟨_,avf (by omega)⟩;obtain⟨b,o,z,rfl,⟨es,rfl,hz⟩,-,hc⟩:=cn i3 x hx
  have hc3:∀ j u,es[j]?=some u→w0.cell? ⟨b,o+i3*13+3+j,none⟩=some u:=fun j u hj=>by
   have h4:=hc (j+3) u (by simpa using hj)
   rwa [show o+i3*13+(j+3)=o+i3*13+3+j by omega]at h4
  obtain⟨nv,kv,rfl,-⟩:=hz.open;refine lb 1<|an rfl<|ia<|an ⟨rfl,rfl,by omega⟩<|lc<|an (cF M.below hc3)<|cl<|an (oV _ _ x.expr (bf.keep M.below hz)) fun w3 M3=>an (fun h3 M=>no _ M.below) fun h3=>an (by omega)<|bk (i3+1) ⟨rfl,trivial⟩ (fun M=>⟨M,by omega,fun y hy=>?_⟩) (by dsimp only;omega)
  rw[List.take_add_one,hx]at hy;rcases avm.1 hy with hy|hy
  ·exact WO y hy
  ·obtain rfl:y=x:=by simpa using hy
   simp only[decide_eq_false_iff_not]at h3;omega
 simp only[decide_eq_false_iff_not]at h2;obtain rfl:i3=p.cons.length:=by omega
 rw[avv]at ha hb WO;exact ei (x:=1)<|an ⟨rfl,by decide⟩<|lb 0<|an rfl<|ei (x:=2)<|an (fun _=>⟨rfl,by decide⟩)<|lb 0<|an (fun _=>rfl)<|ei (x:=3)<|an (fun _=>⟨rfl,by decide⟩)<|lb 0<|an (fun _=>rfl) fun M=>⟨_,rfl,_,rfl,fun _=>⟨by constructor<;>omega,ha,hb,WO⟩,M.below⟩
def bQ(l:List bM)(k:Int):Nat:=(l.filter fun t=>decide (t.kind=k)).length
theorem fO(l:List bM)(t:bM)(k:Int):bQ (l++[t]) k=bQ l k+(if t.kind=k then 1 else 0):=by
 unfold bQ;rw[List.filter_append,avo];by_cases h:t.kind=k<;>simp[h]
theorem Fm(l:List bM)(m:Nat)(k:Int):bQ (l.take m) k≤bQ l k:=by
 have h:=bQ (l.drop m) k;unfold bQ
 conv=>rhs;rw[← List.take_append_drop m l,List.filter_append,avo]
 omega
def DE(nT nC nK:Nat)(y:bM):Int:=
 if y.kind<1 then 13 else if 3<y.kind then 13
 else if y.src.within (ay.all nT)=false then 3 else if y.tgt.within (ay.all nT)=false then 3
 else if bq y.cls (nC:Int)=false then 3 else if bq y.res (nT:Int)=false then 3 else if uW nK y.cond=false then 3
 else if eT y.src=false then 2 else if eT y.tgt=false then 2
 else if y.kind≠1∧gI y.name=false then 2
 else if gI y.name=false∧mN y.name=false then 10 else 0
def xY(p:aC)(i:Nat):Int:=match p.trans[i]? with
 | some y=>DE p.types.length p.classes.length p.conds.length y
 | none=>0
def p7(p:aC):Int:=if bQ p.trans 1≤1024∧bQ p.trans 2≤1024∧bQ p.trans 3≤1024 then aJ (xY p) p.trans.length 0 else 4
theorem Lu{p:aC}(h:∀ q:Int,1≤q→q≤3→bQ p.trans q≤1024):p7 p=aJ (xY p) p.trans.length 0:=
 if_pos ⟨h 1 (by omega) (by omega),h 2 (by omega) (by omega),h 3 (by omega) (by omega)⟩
theorem pZ{p:aC}{q:Int}{m:Nat}(h1:1≤q)(h2:q≤3)(h:1024<bQ (p.trans.take m) q):p7 p=4:=by
 have h3:=Fm p.trans m q;refine if_neg fun⟨a,b,c⟩=>?_
 rcases(show q=1∨q=2∨q=3 by omega) with rfl|rfl|rfl<;>omega
theorem P6(w0:World)(c0 c1 c2 c3 c4 c5 c6 c7 c8 c9 aV aP aO aU aT aS aR:Value)(p:aC)(hp:aM w0 c0 c1 c2 c3 c4 c5 c6 c7 c8 c9 aV aP aO aU aT aS aR p)(hok:p.Ok):Calls Tryz.prog 47 #[.agg #[c0,c1,c2,c3,c4,c5,c6,c7,c8,c9,aV,aP,aO,aU,aT,aS,aR]] w0 (RI w0 (p7 p)):=by
 obtain⟨_,_,_,_,_,_,_,_,_,_,_,_,_,_,_,_,_,_,_,_,_,_,_,_,_,_,_,_,_,_,_,_,_,_,rfl,rfl,rfl,rfl,rfl,rfl,rfl,rfl,rfl,rfl,rfl,rfl,rfl,rfl,rfl,rfl,rfl⟩:=hp.open;obtain⟨_,_,e10,-,aeA,-⟩:=SliceAt.form hp.trans (by decide);obtain⟨_,_,e1,-,hm1,-⟩:=au.form hp.types (by decide);have tr:=fun m h=>SliceAt.elt (i:=m) hp.trans (fun _=>rfl) (by decide) (avf h) h
 refine cL [] (fn:=Tryz.f47) Tryz.func47 rfl Tryz.ntmps47 rfl fun g1 w1 M1=>ei<|an ac_ fun g2 w2 M2=>lp (ι:=Nat) (fun m=>[(4,.int .i64 (m:Int))]) (fun m=>(g2,82,#[.int .i64 0,.int .i64 ((bQ (p.trans.take m) 1:Nat):Int),.int .i64 ((bQ (p.trans.take m) 2:Nat):Int),.int .i64 ((bQ (p.trans.take m) 3:Nat):Int)])::_) (fun _=>[]) (fun m _=>m≤p.trans.length∧∀ q:Int,1≤q→q≤3→bQ (p.trans.take m) q≤1024) (fun m=>p.trans.length-m) 0 (an ⟨⟨rfl,trivial⟩,fun M=>⟨M,ave _,fun _ _ _=>ave _⟩⟩ ?_)
 rintro m w M ⟨hm,hle⟩;refine lb 1<|an rfl<|an (fun h2=>?_) fun h2=>?_
 ·simp only[decide_eq_true_eq]at h2;have hlt:m<p.trans.length:=by omega
  obtain⟨b,o,e,hc⟩:=tr m hlt;have hy:p.trans[m]?=some p.trans[m]:=avf hlt;refine lb 1<|an rfl<|ia<|an ⟨e,rfl,hlt⟩<|lc<|an (cell_later M.below (hc 0 _ rfl))<|an (fun h3=>?_) fun h3=>?_
  rotate_left
  ·have hno:∀ q:Int,1≤q→q≤3→bQ (p.trans.take (m+1)) q=bQ (p.trans.take m) q:=fun q h1 h2=>by
    rw[bw hy,fO,if_neg (fun e=>by simp only[Bool.and_eq_false_iff,decide_eq_false_iff_not]at h3;omega)];rfl
   exact an (by omega)<|bk (m+1) ⟨rfl,trivial⟩ (fun M=>⟨by rw[hno 1 (by omega) (by omega),hno 2 (by omega) (by omega),hno 3 (by omega) (by omega)];exact M,by omega,fun q h1 h2=>by rw[hno q h1 h2];exact hle q h1 h2⟩) (by dsimp only;omega)
  simp only[avc,decide_eq_true_eq]at h3;rcases(show p.trans[m].kind=1∨p.trans[m].kind=2∨p.trans[m].kind=3 by omega) with hk|hk|hk
  ·have hk1:bQ (p.trans.take (m+1)) 1=bQ (p.trans.take m) 1+1:=by rw[bw hy,fO,if_pos hk]
   have hno:∀ q:Int,q≠1→bQ (p.trans.take (m+1)) q=bQ (p.trans.take m) q:=fun q h1=>by rw[bw hy,fO,if_neg (by omega)];rfl
   have hq:=hle 1 (by omega) (by omega);refine ei (x:=1)<|an ⟨hk,by decide⟩<|lb 0<|an rfl<|an (by omega)<|ei (x:=1)<|an ⟨hk,by decide⟩<|lb 0<|an ⟨rfl,rfl⟩ fun w M=>ei (x:=1)<|an ⟨hk,by decide⟩<|lb 0<|an rfl<|an (fun h4 M=>⟨?_,M.below⟩) fun h4=>an (by omega)<|bk (m+1) ⟨rfl,trivial⟩ (fun M=>⟨by rw[hk1,hno 2 (by omega),hno 3 (by omega)];exact M,by omega,fun q h1 h2=>?_⟩) (by dsimp only;omega)
   ·simp only[decide_eq_true_eq]at h4;rw[pZ (q:=1) (m:=m+1) (by omega) (by omega) (by rw[hk1];omega)];rfl
   ·simp only[decide_eq_false_iff_not]at h4;by_cases e:q=1
    ·subst e;rw[hk1];omega
    ·rw[hno q e];exact hle q h1 h2
  ·have hk1:bQ (p.trans.take (m+1)) 2=bQ (p.trans.take m) 2+1:=by rw[bw hy,fO,if_pos hk]
   have hno:∀ q:Int,q≠2→bQ (p.trans.take (m+1)) q=bQ (p.trans.take m) q:=fun q h1=>by rw[bw hy,fO,if_neg (by omega)];rfl
   have hq:=hle 2 (by omega) (by omega);refine ei (x:=2)<|an ⟨hk,by decide⟩<|lb 0<|an rfl<|an (by omega)<|ei (x:=2)<|an ⟨hk,by decide⟩<|lb 0<|an ⟨rfl,rfl⟩ fun w M=>ei (x:=2)<|an ⟨hk,by decide⟩<|lb 0<|an rfl<|an (fun h4 M=>⟨?_,M.below⟩) fun h4=>an (by omega)<|bk (m+1) ⟨rfl,trivial⟩ (fun M=>⟨by rw[hk1,hno 1 (by omega),hno 3 (by omega)];exact M,by omega,fun q h1 h2=>?_⟩) (by dsimp only;omega)
   ·simp only[decide_eq_true_eq]at h4;rw[pZ (q:=2) (m:=m+1) (by omega) (by omega) (by rw[hk1];omega)];rfl
   ·simp only[decide_eq_false_iff_not]at h4;by_cases e:q=2
    ·subst e;rw[hk1];omega
    ·rw[hno q e];exact hle q h1 h2
  ·have hk1:bQ (p.trans.take (m+1)) 3=bQ (p.trans.take m) 3+1:=by rw[bw hy,fO,if_pos hk]
   have hno:∀ q:Int,q≠3→bQ (p.trans.take (m+1)) q=bQ (p.trans.take m) q:=fun q h1=>by rw[bw hy,fO,if_neg (by omega)];rfl
   have hq:=hle 3 (by omega) (by omega);refine ei (x:=3)<|an ⟨hk,by decide⟩<|lb 0<|an rfl<|an (by omega)<|ei (x:=3)<|an ⟨hk,by decide⟩<|lb 0<|an ⟨rfl,rfl⟩ fun w M=>ei (x:=3)<|an ⟨hk,by decide⟩<|lb 0<|an rfl<|an (fun h4 M=>⟨?_,M.below⟩) fun h4=>an (by omega)<|bk (m+1) ⟨rfl,trivial⟩ (fun M=>⟨by rw[hk1,hno 1 (by omega),hno 2 (by omega)];exact M,by omega,fun q h1 h2=>?_⟩) (by dsimp only;omega)
   ·simp only[decide_eq_true_eq]at h4;rw[pZ (q:=3) (m:=m+1) (by omega) (by omega) (by rw[hk1];omega)];rfl
   ·simp only[decide_eq_false_iff_not]at h4;by_cases e:q=3
    ·subst e;rw[hk1];omega
    ·rw[hno q e];exact hle q h1 h2
 simp only[decide_eq_false_iff_not]at h2;obtain rfl:m=p.trans.length:=by omega
 rw[avv]at hle;rw[Lu hle];have CS:=hok.vW;refine lr (ι:=Nat) (fun m=>[(6,.int .i64 (m:Int))]) (fun i _=>i≤p.trans.length∧aJ (xY p) p.trans.length 0=aJ (xY p) (p.trans.length-i) i) (fun i=>p.trans.length-i) 0 (an ⟨⟨rfl,trivial⟩,fun M=>⟨M,ave _,by rw[Nat.sub_zero]⟩⟩ ?_);rintro i w M ⟨hi,hinv⟩;refine lb 1<|an rfl<|an (fun h2=>?_) fun h2 M=>⟨?_,M.below⟩
 ·simp only[decide_eq_true_eq]at h2;have hlz:i<p.trans.length:=by omega
  obtain⟨b,o,e,hc⟩:=tr i hlz;have QA:=hok.trans p.trans[i] (List.getElem_mem hlz);have hcf:xY p i=DE p.types.length p.classes.length p.conds.length p.trans[i]:=by unfold xY;rw[avf hlz]
  generalize p.trans[i]=z at hc QA hcf;have out:∀ v:Int,DE p.types.length p.classes.length p.conds.length z=v→v≠0→Ending.returned (mE [.int .i64 v])=.returned (.int .i64 (aJ (xY p) p.trans.length 0)):=fun v h1 h2=>by rw[hinv,cN hlz (by rw[hcf,h1];exact h2),hcf,h1];rfl
  unfold DE at out hcf;refine lb 1<|an rfl<|ia<|an ⟨e,rfl,hlz⟩<|lc<|an (cF M.below hc)<|ei<|an KN fun g3 w3 M3=>lb 0<|an ⟨rfl,rfl⟩ fun w4 M4=>lb 0<|an rfl<|lb 0<|an (fun _=>rfl)<|an (fun h M=>⟨out 13 ?_ (by decide),M.below⟩) fun h=>?_
  ·simp only[Bool.or_eq_true,decide_eq_true_eq]at h;by_cases h1:z.kind<1
   ·rw[if_pos h1]
   ·rw[if_neg h1,if_pos (by omega)]
  simp only[Bool.or_eq_false_iff,decide_eq_false_iff_not]at h;rw[if_neg h.1,if_neg h.2]at out hcf;refine lb 0<|an rfl<|lb 2<|an rfl<|cl<|an (gD _ z.src QA.src _ CS) fun w5 M5=>lb 0<|an rfl<|lb 2<|an rfl<|cl<|an (gD _ z.tgt QA.tgt _ CS) fun w6 M6=>?_
  refine lb 0<|an (fun _=>rfl)<|lb 2<|an (fun _=>rfl)<|cl<|an (fun _=>gJ _ _ _) fun w7 M7=>lb 0<|an (fun _=>rfl)<|lb 2<|an (fun _=>rfl)<|cl<|an (fun _=>gJ _ _ _) fun w8 M8=>lb 2<|an (fun _=>rfl)<|lb 0<|an (fun _=>rfl)<|cl<|an (fun _=>J8 _ _ _ _ _ _ _ _ _ _ _ _ _ _ _ _ _ _ p (hp.keep M8.below) _) fun w9 M9=>an (fun h3 M=>⟨out 3 ?_ (by decide),M.below⟩) fun h3=>?_
  ·simp only[Bool.or_eq_true,Bool.not_eq_true']at h3;rcases h3 with(((h3|h3)|h3)|h3)|h3<;>simp[h3]
  simp only[Bool.or_eq_false_iff,Bool.not_eq_false']at h3;obtain⟨⟨⟨⟨a1,a2⟩,a3⟩,a4⟩,a5⟩:=h3;simp only[a1,a2,a3,a4,a5,Bool.true_eq_false,if_false]at out hcf;refine lb 0<|an (fun _=>rfl)<|lb 0<|an (fun _=>rfl)<|an (fun h4 M=>⟨out 2 ?_ (by decide),M.below⟩) fun h4=>?_
  ·change (!eT z.src||!eT z.tgt||(!decide (z.kind=1)&&!gI z.name))=true at h4
   clear out hcf;cases ha:eT z.src<;>cases hb:eT z.tgt<;>cases hc:gI z.name<;>cases hd:mN z.name<;>by_cases hk:z.kind=1<;>simp_all
  refine lb 0<|an rfl<|lb 0<|an (fun _=>rfl)<|cl<|an (fun _=>(Mk _ z.name QA.name).mono fun _ _ ⟨h1,h2⟩=>⟨h1,h2▸Below.refl _ _⟩) fun tS nr=>an (fun h5 M=>⟨out 10 ?_ (by decide),M.below⟩) fun h5=>an (by omega)<|bk (i+1) ⟨rfl,trivial⟩ (fun M=>⟨M.only (.cons _ (.refl _)) (.refl _),by omega,hinv.trans (bR hlz ?_)⟩) (by dsimp only;omega)
  ·change (!eT z.src||!eT z.tgt||(!decide (z.kind=1)&&!gI z.name))=false at h4
   change (!gI z.name&&!mN z.name)=true at h5
   clear out hcf;cases ha:eT z.src<;>cases hb:eT z.tgt<;>cases hc:gI z.name<;>cases hd:mN z.name<;>by_cases hk:z.kind=1<;>simp_all
  ·change (!eT z.src||!eT z.tgt||(!decide (z.kind=1)&&!gI z.name))=false at h4
   change (!gI z.name&&!mN z.name)=false at h5
   rw[hcf];clear out hcf;cases ha:eT z.src<;>cases hb:eT z.tgt<;>cases hc:gI z.name<;>cases hd:mN z.name<;>by_cases hk:z.kind=1<;>simp_all
 simp only[decide_eq_false_iff_not]at h2;obtain rfl:i=p.trans.length:=by omega
 rw[hinv,Nat.sub_self];rfl
theorem tM{i n:Int}:bq i n=true↔0≤i∧i<n:=by
 unfold bq;simp
def zG(p:aC)(c:xR):Int:=match p.users[c.user.toNat]?,p.roles[c.role.toNat]? with
 | some u,some r=>if xq c.rng.low u.rng.low=false then 19 else if xq u.rng.high c.rng.high=false then 19
  else if u.roles.mem c.role=false then 19 else if r.types.mem c.typ=false then 19 else 0
 | _,_=>0
def wE(p:aC)(c:xR):Int:=
 if bq c.user (p.users.length:Int)=false then 3 else if bq c.role (p.roles.length:Int)=false then 3 else if bq c.typ (p.types.length:Int)=false then 3
 else if sR p.aZ.length p.cats.length c.rng=false then 18 else if c.role=0 then 0 else zG p c
theorem Mc{p:aC}{c:xR}{u:kC}{r:iD}(hu:p.users[c.user.toNat]?=some u)(hr:p.roles[c.role.toNat]?=some r):zG p c=if xq c.rng.low u.rng.low=false then 19 else if xq u.rng.high c.rng.high=false then 19
 else if u.roles.mem c.role=false then 19 else if r.types.mem c.typ=false then 19 else 0:=by
 unfold zG;rw[hu,hr]
theorem DN(w0:World)(c0 c1 c2 c3 c4 c5 c6 c7 c8 c9 aV aP aO aU aT aS aR:Value)(p:aC)(hp:aM w0 c0 c1 c2 c3 c4 c5 c6 c7 c8 c9 aV aP aO aU aT aS aR p)(hok:p.Ok)(c:xR)(hc:c.Ok):Calls Tryz.prog 116 #[.agg #[c0,c1,c2,c3,c4,c5,c6,c7,c8,c9,aV,aP,aO,aU,aT,aS,aR],.agg #[.int .i64 c.user,.int .i64 c.role,.int .i64 c.typ,.int .i64 c.rng.low.aZ,.int .u64 c.rng.low.cats,.int .i64 c.rng.high.aZ,.int .u64 c.rng.high.cats]] w0 (fun(e:Ending) (w':World)=>e=.returned (.int .i64 (wE p c))∧avd w0.heap.size w0 w'):=by
 obtain⟨_,_,_,_,_,_,_,_,_,_,_,_,_,_,_,_,_,_,_,_,_,_,_,_,_,_,_,_,_,_,_,_,_,_,rfl,rfl,rfl,rfl,rfl,rfl,rfl,rfl,rfl,rfl,rfl,rfl,rfl,rfl,rfl,rfl,rfl⟩:=hp.open;refine cL [] (fn:=Tryz.f116) Tryz.func116 rfl Tryz.ntmps116 rfl<|fun g1 w1 M1=>fun g2 w2 M2=>lb 0<|an rfl<|lb 1<|an rfl<|cl<|an (gJ _ _ _) fun w3 M3=>lb 0<|an (fun _=>rfl)<|lb 1<|an (fun _=>rfl)<|cl<|an (fun _=>gJ _ _ _) fun w4 M4=>lb 0<|an (fun _=>rfl)<|lb 1<|an (fun _=>rfl)<|cl<|an (fun _=>gJ _ _ _) fun w5 M5=>an (fun h M=>⟨ri ?_,M.below⟩) fun h=>?_
 ·unfold wE;cases h5:bq c.user p.users.length<;>cases h6:bq c.role p.roles.length<;>cases h7:bq c.typ p.types.length<;>simp_all
 have hb:bq c.user p.users.length=true∧bq c.role p.roles.length=true∧bq c.typ p.types.length=true:=by cases h5:bq c.user p.users.length<;>cases h6:bq c.role p.roles.length<;>cases h7:bq c.typ p.types.length<;>simp_all
 clear h;have hpm:wE p c=if sR p.aZ.length p.cats.length c.rng=false then 18 else if c.role=0 then 0 else zG p c:=by unfold wE;rw[hb.1,hb.2.1,hb.2.2];rfl
 rw[tM,tM,tM]at hb;obtain⟨⟨hu0,hu1⟩,⟨hr0,hr1⟩,ht0,ht1⟩:=hb;refine lb 1<|an rfl<|lb 0<|an rfl<|cl<|an (wD _ _ _ _ _ _ _ _ _ _ _ _ _ _ _ _ _ _ p (hp.keep M5.below) c.rng hc.rng) fun w6 M6=>an (fun h M=>⟨ri (by rw[hpm,if_pos (by simpa using h)]),M.below⟩) fun h=>?_
 rw[if_neg (by simpa using h)]at hpm;refine lb 0<|an rfl<|an (fun h M=>⟨ri (by rw[hpm,if_pos (by simpa using h)]),M.below⟩) fun h=>?_
 rw[if_neg (by simpa using h)]at hpm;have hlu:c.user.toNat<p.users.length:=by omega
 have hlr:c.role.toNat<p.roles.length:=by omega
 obtain⟨u,hu⟩:∃ u,p.users[c.user.toNat]?=some u:=⟨_,avf hlu⟩;obtain⟨r,hr⟩:∃ r,p.roles[c.role.toNat]?=some r:=⟨_,avf hlr⟩;have oku:=hok.users u (avh hu);have okr:=hok.roles r (avh hr);obtain⟨b,o,e,hcu⟩:=SliceAt.elt hp.users (fun _=>rfl) (by decide) hu hlu;obtain⟨b',o',e',hcr⟩:=SliceAt.elt hp.roles (fun _=>rfl) (by decide) hr hlr;rw[Mc hu hr]at hpm;refine lb 1<|an rfl<|lb 0<|an rfl<|ia<|an ⟨e,(avu hu0).symm,hlu⟩<|lc<|an (cF M6.below hcu)<|ei<|an YZ fun g3 w7 M7=>lb 0<|an ⟨rfl,rfl⟩ fun w8 M8=>lb 1<|an rfl<|lb 0<|an rfl<|cl<|an (uU _ c.rng.low u.rng.low hc.rng.low oku.rng.low) fun w9 M9=>lb 0<|an (fun _=>rfl)<|lb 1<|an (fun _=>rfl)<|cl<|an (fun _=>uU _ u.rng.high c.rng.high oku.rng.high hc.rng.high) fun tS nr=>?_
 refine dr (by kernel_rfl)<|lb 0<|an (fun _=>rfl)<|lb 1<|an (fun _=>rfl)<|cl<|an (fun _ w' hb' M'=>uw _ u.roles oku.roles _)<|lb 2<|an (fun _=>rfl)<|lb 1<|an (fun _=>rfl)<|ia<|an (fun _=>⟨e',(avu hr0).symm,hlr⟩)<|lc (x:=[.int .u64 r.types.a,.int .u64 r.types.b,.int .u64 r.types.c,.int .u64 r.types.d])<|an (fun _=>AL (cF nr.below hcr) rfl)<|lb 1<|an (fun _=>rfl)<|cl<|an (fun _ w' hb' M'=>uw _ r.types okr.types _) fun Dw C_ M11=>an (fun h3 M=>⟨ri ?_,M.below⟩) fun h3 M=>⟨ri ?_,M.below⟩
 all_goals rw[hpm];clear hpm;cases h4:xq c.rng.low u.rng.low<;>cases h5:xq u.rng.high c.rng.high<;>cases h6:u.roles.mem c.role<;>cases h7:r.types.mem c.typ<;>simp_all
theorem Kg(w0:World)(x:ByteArray)(hx:dF x):Calls Tryz.prog 117 #[.agg #[.int .i64 3,.string x,.int .i64 0,.int .i64 0]] w0 (fun(e:Ending) (w':World)=>e=.returned (.bool (oF x))∧avd w0.heap.size w0 w'):=by
 exact cL [] (fn:=Tryz.f117) Tryz.func117 rfl Tryz.ntmps117 rfl<|fun g1 w1 M1=>lb 0<|an rfl<|an (fun h=>absurd h (by decide)) fun _=>an (fun h=>absurd h (by decide)) fun _=>an (fun h=>absurd h (by decide)) fun _=>an (fun _=>lb 0<|an rfl<|cl<|an ((Ma _ x hx).mono fun _ _ ⟨h1,h2⟩=>⟨h1,h2▸Below.refl _ _⟩) fun w4 M4 M=>⟨rfl,M.below⟩) fun h=>absurd h (by decide)
def Xp(p:aC)(before:List ByteArray)(y:kR):Int:=if bP [y.name] before=0 then wE p y.ctx else bP [y.name] before
def Iy(p:aC)(i:Nat):Int:=match p.bO[i]? with
 | some y=>Xp p ((p.bO.take i).map (·.name)) y
 | none=>0
def O9(p:aC)(y:kU):Int:=if gI y.pat=true then 10 else if oF y.pat=false then 10 else if y.kind<0 then 13 else if 4<y.kind then 13 else wE p y.ctx
def BO(p:aC)(i:Nat):Int:=match p.files[i]? with
 | some y=>O9 p y
 | none=>0
def jL(p:aC):Int:=if 1024<p.bO.length then 4 else if aJ (Iy p) p.bO.length 0=0 then (if 256<p.files.length then 4 else aJ (BO p) p.files.length 0) else aJ (Iy p) p.bO.length 0
theorem MJ(w0:World)(c0 c1 c2 c3 c4 c5 c6 c7 c8 c9 aV aP aO aU aT aS aR:Value)(p:aC)(hp:aM w0 c0 c1 c2 c3 c4 c5 c6 c7 c8 c9 aV aP aO aU aT aS aR p)(hok:p.Ok):Calls Tryz.prog 50 #[.agg #[c0,c1,c2,c3,c4,c5,c6,c7,c8,c9,aV,aP,aO,aU,aT,aS,aR]] w0 (RI w0 (jL p)):=by
 obtain⟨_,_,_,_,_,_,_,_,_,_,_,_,_,_,_,_,_,_,_,_,_,_,_,_,_,_,_,_,_,_,_,_,_,_,rfl,rfl,rfl,rfl,rfl,rfl,rfl,rfl,rfl,rfl,rfl,rfl,rfl,rfl,rfl,rfl,rfl⟩:=hp.open;refine cL [] (fn:=Tryz.f50) Tryz.func50 rfl Tryz.ntmps50 rfl<|fun g1 w1 M1=>lb 0<|an rfl<|an (fun h M=>⟨ri (by unfold jL;rw[if_pos (by simp at h;omega)]),M.below⟩) fun h=>?_
 have hr:¬ 1024<p.bO.length:=by simp at h;omega
 refine lq (ι:=Nat×Value) (fun(m,u)=>[(3,u),(4,.int .i64 (m:Int))]) (fun(m,u)=>[⟨u,9,1,m,((p.bO.take m).map (·.name)).flatMap aW⟩]) (fun(m,u) _=>m≤p.bO.length∧aJ (Iy p) p.bO.length 0=aJ (Iy p) (p.bO.length-m) m) (fun(m,u)=>p.bO.length-m) (0,.slice none 0 0) (an ⟨⟨rfl,rfl,trivial⟩,fun M=>⟨M.bC 9 1,ave _,by rw[Nat.sub_zero]⟩⟩ ?_);rintro⟨m,u⟩ w M ⟨hm,hinv⟩;refine lb 0<|an rfl<|an (fun h2=>?_) fun h2=>?_
 have hlt:m<p.bO.length:=by simp at h2;omega
 obtain⟨y,hy⟩:∃ y,p.bO[m]?=some y:=⟨_,avf hlt⟩;have qu:=hok.bO y (avh hy)
 ·obtain⟨b,o,e,hc⟩:=SliceAt.elt hp.bO (fun _=>rfl) (by decide) hy hlt;have hcf:Iy p m=Xp p ((p.bO.take m).map (·.name)) y:=by unfold Iy;rw[hy]
  have out:∀ v:Int,Xp p ((p.bO.take m).map (·.name)) y=v→v≠0→jL p=v:=fun v h1 h2=>by
   have e:aJ (Iy p) p.bO.length 0=v:=by rw[hinv,cN hlt (by rw[hcf,h1];exact h2),hcf,h1]
   unfold jL;rw[if_neg hr,e,if_neg h2]
  unfold Xp at hcf out;refine lb 0<|an rfl<|ia<|an ⟨e,rfl,hlt⟩<|lc<|an (cF M.below hc 0 _ rfl)<|fun g2 w2 M2=>cl<|an (fE _ _ _ [y.name] ((p.bO.take m).map (·.name)) (M2.slice 0 rfl rfl rfl (by simp[maxLen])) (gA (M2.r 0 rfl) (by simp;omega) rfl) (by simpa using qu.name)) fun w3 M3=>an (fun h3 M=>⟨ri (out _ (if_neg (by simpa using h3)) (by simpa using h3)),M.below⟩) fun h3=>?_
  replace h3:bP [y.name] ((p.bO.take m).map (·.name))=0:=by simpa using h3
  rw[if_pos h3]at hcf out;exact lb 1<|an rfl<|ia<|an ⟨e,rfl,hlt⟩<|lc<|an (cF M3.below hc 0 _ rfl)<|fun g3 w4 M4=>ap 0 id rfl (M4.slice 0 rfl rfl rfl (by simp[maxLen])) ⟨by unfold maxLen;omega,by omega⟩ fun v4 w5 M5=>dr (by kernel_rfl)<|lb 2<|an rfl<|lb 2<|an rfl<|ia<|an ⟨e,rfl,hlt⟩<|lc (x:=[.int .i64 y.ctx.user,.int .i64 y.ctx.role,.int .i64 y.ctx.typ,.int .i64 y.ctx.rng.low.aZ,.int .u64 y.ctx.rng.low.cats,.int .i64 y.ctx.rng.high.aZ,.int .u64 y.ctx.rng.high.cats])<|an (AL (cF M5.below hc) rfl)<|cl<|an (fun w' hb' M'=>DN _ _ _ _ _ _ _ _ _ _ _ _ _ _ _ _ _ _ p (hp.keep M'.below) hok y.ctx qu.ctx) fun w6 Nb M6=>an (fun h4 M=>⟨ri (out _ rfl (by simpa using h4)),M.below⟩) fun h4=>an (by omega)<|bk (m+1,v4) ⟨rfl,rfl,trivial⟩ (fun M=>⟨(M.only (.cons _ (.cons _ (.refl _))) (.refl _)).cast rfl (by dsimp only;rw[rD hy]),by omega,hinv.trans (bR hlt (by rw[hcf];simpa using h4))⟩) (by dsimp only;omega)
 have hz:aJ (Iy p) p.bO.length 0=0:=by rw[hinv,show m=p.bO.length by simp at h2;omega,cM]
 clear hinv h2 hm;refine lb 0<|an rfl<|an (fun h M=>⟨ri (by unfold jL;rw[if_neg hr,if_pos hz,if_pos (by simp at h;omega)]),M.below⟩) fun h=>?_
 rw[show jL p=aJ (BO p) p.files.length 0 by unfold jL;rw[if_neg hr,if_pos hz,if_neg (by simp at h;omega)]];have hfl:¬ 256<p.files.length:=by simp at h;omega
 refine lp (ι:=Nat) (fun m=>[(7,.int .i64 (m:Int))]) (fun _=>_) (fun _=>[]) (fun m _=>m≤p.files.length∧aJ (BO p) p.files.length 0=aJ (BO p) (p.files.length-m) m) (fun m=>p.files.length-m) 0 (an ⟨⟨rfl,trivial⟩,fun M=>⟨M.only (.refl _) (.cons _ (.refl _)),ave _,by rw[Nat.sub_zero]⟩⟩ ?_);clear M;rintro m w M ⟨hm,hinv⟩;refine lb 0<|an rfl<|an (fun h2=>?_) fun h2 M=>⟨ri (by rw[hinv,show m=p.files.length by simp at h2;omega,cM]),M.below⟩
 have hlt:m<p.files.length:=by simp at h2;omega
 obtain⟨y,hy⟩:∃ y,p.files[m]?=some y:=⟨_,avf hlt⟩;have qu:=hok.files y (avh hy);obtain⟨b,o,e,hc⟩:=SliceAt.elt hp.files (fun _=>rfl) (by decide) hy hlt;have hcf:BO p m=O9 p y:=by unfold BO;rw[hy]
 have out:∀ v:Int,O9 p y=v→v≠0→aJ (BO p) p.files.length 0=v:=fun v h1 h2=>by rw[hinv,cN hlt (by rw[hcf,h1];exact h2),hcf,h1]
 unfold O9 at hcf out;refine lb 0<|an rfl<|ia<|an ⟨e,rfl,hlt⟩<|lc<|an (cF M.below hc)<|ei<|an adi fun g5 w7 M7=>lb 0<|an ⟨rfl,rfl⟩ fun w8 M8=>lb 0<|an rfl<|lb 0<|an (fun _=>rfl)<|ei (x:=.agg #[.int .i64 3,.string y.pat,.int .i64 0,.int .i64 0])<|an (fun _=>bd (by kernel_rfl))<|cl<|an (fun _=>Kg _ y.pat qu.pat) fun w9 M9=>an (fun h3 M=>⟨ri (out 10 ?_ (by decide)),M.below⟩) fun h3=>?_
 ·change (gI y.pat||!oF y.pat)=true at h3
  clear out hcf;cases h4:gI y.pat<;>cases h5:oF y.pat<;>simp_all
 change (gI y.pat||!oF y.pat)=false at h3
 rw[if_neg (by intro e;simp[e]at h3),if_neg (by intro e;simp[e]at h3)]at hcf out;refine lb 0<|an rfl<|lb 0<|an (fun _=>rfl)<|an (fun h4 M=>⟨ri (out 13 ?_ (by decide)),M.below⟩) fun h4=>?_
 ·by_cases h5:y.kind<0
  ·rw[if_pos h5]
  ·rw[if_neg h5,if_pos (by simp at h4;omega)]
 rw[if_neg (by simp at h4;omega),if_neg (by simp at h4;omega)]at hcf out;exact lb 1<|an rfl<|lb 0<|an rfl<|cl<|an (DN _ _ _ _ _ _ _ _ _ _ _ _ _ _ _ _ _ _ p (hp.keep M9.below) hok y.ctx qu.ctx) fun tS nr=>an (fun h5 M=>⟨ri (out _ rfl (by simpa using h5)),M.below⟩) fun h5=>an (by omega)<|bk (m+1) ⟨rfl,trivial⟩ (fun M=>⟨M.only (.cons _ (.refl _)) (.refl _),by omega,hinv.trans (bR hlt (by rw[hcf];simpa using h5))⟩) (by dsimp only;omega)
def rtM(nT nC nR:Nat)(y:kS):Int:=
 if wm nR y.roles=false then 3 else if y.types.within (ay.all nT)=false then 3 else if bq y.cls (nC:Int)=false then 3 else if bq y.res (nR:Int)=false then 3
 else if y.res=0 then 3 else if y.roles=ay.zero then 2 else if eT y.types=false then 2 else 0
def Xz(p:aC)(i:Nat):Int:=match p.aN[i]? with
 | some y=>rtM p.types.length p.classes.length p.roles.length y
 | none=>0
def rgM(nT nC nS nK:Nat)(y:kT):Int:=
 if y.src.within (ay.all nT)=false then 3 else if y.tgt.within (ay.all nT)=false then 3 else if bq y.cls (nC:Int)=false then 3
 else if eT y.src=false then 2 else if eT y.tgt=false then 2 else if sR nS nK y.rng=false then 18 else 0
def Y5(p:aC)(i:Nat):Int:=match p.ranges[i]? with
 | some y=>rgM p.types.length p.classes.length p.aZ.length p.cats.length y
 | none=>0
def fH(p:aC):Int:=if 1024<p.aN.length then 4 else if aJ (Xz p) p.aN.length 0=0 then (if 1024<p.ranges.length then 4 else aJ (Y5 p) p.ranges.length 0) else aJ (Xz p) p.aN.length 0
theorem Kh(w0:World)(c0 c1 c2 c3 c4 c5 c6 c7 c8 c9 aV aP aO aU aT aS aR:Value)(p:aC)(hp:aM w0 c0 c1 c2 c3 c4 c5 c6 c7 c8 c9 aV aP aO aU aT aS aR p)(hok:p.Ok):Calls Tryz.prog 48 #[.agg #[c0,c1,c2,c3,c4,c5,c6,c7,c8,c9,aV,aP,aO,aU,aT,aS,aR]] w0 (RI w0 (fH p)):=by
 obtain⟨_,_,_,_,_,_,_,_,_,_,_,_,_,_,_,_,_,_,_,_,_,_,_,_,_,_,_,_,_,_,_,_,_,_,rfl,rfl,rfl,rfl,rfl,rfl,rfl,rfl,rfl,rfl,rfl,rfl,rfl,rfl,rfl,rfl,rfl⟩:=hp.open;have CS:=hok.vW;refine cL [] (fn:=Tryz.f48) Tryz.func48 rfl Tryz.ntmps48 rfl fun g1 w1 M1=>lb 0<|an rfl<|an (fun h M=>⟨?_,M.below⟩) fun h=>?_
 ·simp only[decide_eq_true_eq]at h;unfold fH;rw[if_pos (by omega)];rfl
 simp only[decide_eq_false_iff_not]at h;have hr:¬ 1024<p.aN.length:=by omega
 have aiU:∀ v:Int,aJ (Xz p) p.aN.length 0=v→v≠0→fH p=v:=fun v h1 h2=>by unfold fH;rw[if_neg hr,if_neg (by rw[h1];exact h2),h1]
 refine lr (ι:=Nat) (fun m=>[(3,.int .i64 (m:Int))]) (fun i _=>i≤p.aN.length∧aJ (Xz p) p.aN.length 0=aJ (Xz p) (p.aN.length-i) i) (fun i=>p.aN.length-i) 0 (an ⟨⟨rfl,trivial⟩,fun M=>⟨M,ave _,by rw[Nat.sub_zero]⟩⟩ ?_);rintro i w M ⟨hi,hinv⟩;refine lb 0<|an rfl<|an (fun h2=>?_) fun h2=>?_
 ·simp only[decide_eq_true_eq]at h2;have hlz:i<p.aN.length:=by omega
  obtain⟨b,o,e,hc⟩:=SliceAt.elt (i:=i) hp.aN (fun _=>rfl) (by decide) (avf hlz) hlz;have QA:=hok.aN p.aN[i] (List.getElem_mem hlz);have hcf:Xz p i=rtM p.types.length p.classes.length p.roles.length p.aN[i]:=by unfold Xz;rw[avf hlz]
  generalize p.aN[i]=z at hc QA hcf
  have out:∀ v:Int,rtM p.types.length p.classes.length p.roles.length z=v→v≠0→Ending.returned (mE [.int .i64 v])=.returned (.int .i64 (fH p)):=fun v h1 h2=>by
   have e:aJ (Xz p) p.aN.length 0=v:=by rw[hinv,cN hlz (by rw[hcf,h1];exact h2),hcf,h1]
   rw[aiU _ e h2];rfl
  unfold rtM at out hcf;refine lb 0<|an rfl<|ia<|an ⟨e,rfl,hlz⟩<|lc<|an (cF M.below hc)<|ei<|an ade fun g3 w3 M3=>lb 0<|an ⟨rfl,rfl⟩ fun w4 M4=>?_
  refine dr (by kernel_rfl)<|lb 0<|an rfl<|ei (x:=.agg #[.int .u64 0,.int .u64 0,.int .u64 0,.int .u64 0])<|an (bd (by kernel_rfl))<|ei<|an ⟨xg,fun w=>nw z.roles w⟩<|lb 1<|an rfl<|lb 0<|an rfl<|cl<|an (fun w' hb' M'=>jq w' _ _ _ _ _ _ _ _ _ _ _ _ _ _ _ _ _ p (hp.keep M'.below) hok z.roles QA.roles) fun w5 CR M5=>?_
  refine lb 0<|an rfl<|lb 1<|an rfl<|cl<|an (gD _ z.types QA.types _ CS) fun w6 Mw6=>lb 0<|an (fun _=>rfl)<|lb 1<|an (fun _=>rfl)<|cl<|an (fun _=>gJ _ _ _) fun w7 Mw7=>lb 0<|an (fun _=>rfl)<|lb 1<|an (fun _=>rfl)<|cl<|an (fun _=>gJ _ _ _) fun w8 Mw8=>lb 0<|an (fun _=>rfl)<|an (fun h3 M=>⟨out 3 ?_ (by decide),M.below⟩) fun h3=>an (fun h4 M=>⟨out 2 ?_ (by decide),M.below⟩) fun h4=>an (by omega)<|bk (i+1) ⟨rfl,trivial⟩ (fun M=>⟨M.only (.cons _ (.refl _)) (.refl _),by omega,hinv.trans (bR hlz ?_)⟩) (by dsimp only;omega)
  all_goals first|(rw[hcf];clear out hcf)|clear out hcf
  all_goals cases h5:wm p.roles.length z.roles<;>cases h6:z.types.within (ay.all p.types.length)<;>cases h7:bq z.cls (p.classes.length:Int)<;>cases h8:bq z.res (p.roles.length:Int)<;>by_cases h9:z.res=0<;>by_cases Ni:z.roles=ay.zero<;>cases ow:eT z.types<;>simp_all
 simp only[decide_eq_false_iff_not]at h2;obtain rfl:i=p.aN.length:=by omega
 rw[Nat.sub_self]at hinv;replace hinv:aJ (Xz p) p.aN.length 0=0:=hinv;have hz:=hinv;refine lb 0<|an rfl<|an (fun h M=>⟨?_,M.below⟩) fun h=>?_
 ·simp only[decide_eq_true_eq]at h;unfold fH;rw[if_neg hr,if_pos hz,if_pos (by omega)];rfl
 simp only[decide_eq_false_iff_not]at h;have hg:¬ 1024<p.ranges.length:=by omega
 have afv:fH p=aJ (Y5 p) p.ranges.length 0:=by unfold fH;rw[if_neg hr,if_pos hz,if_neg hg]
 have aiT:∀ v:Int,aJ (Y5 p) p.ranges.length 0=v→v≠0→fH p=v:=fun v h1 _=>afv.trans h1
 clear hinv h2;refine lr (ι:=Nat) (fun m=>[(9,.int .i64 (m:Int))]) (fun i _=>i≤p.ranges.length∧aJ (Y5 p) p.ranges.length 0=aJ (Y5 p) (p.ranges.length-i) i) (fun i=>p.ranges.length-i) 0 (an ⟨⟨rfl,trivial⟩,fun M=>⟨M,ave _,by rw[Nat.sub_zero]⟩⟩ ?_);rintro i w M ⟨hi,hinv⟩;refine lb 0<|an rfl<|an (fun h2=>?_) fun h2=>?_
 ·simp only[decide_eq_true_eq]at h2;have hlz:i<p.ranges.length:=by omega
  obtain⟨b,o,e,hc⟩:=SliceAt.elt (i:=i) hp.ranges (fun _=>rfl) (by decide) (avf hlz) hlz;have QA:=hok.ranges p.ranges[i] (List.getElem_mem hlz);have hcf:Y5 p i=rgM p.types.length p.classes.length p.aZ.length p.cats.length p.ranges[i]:=by unfold Y5;rw[avf hlz]
  generalize p.ranges[i]=z at hc QA hcf
  have out:∀ v:Int,rgM p.types.length p.classes.length p.aZ.length p.cats.length z=v→v≠0→Ending.returned (mE [.int .i64 v])=.returned (.int .i64 (fH p)):=fun v h1 h2=>by
   have e:aJ (Y5 p) p.ranges.length 0=v:=by rw[hinv,cN hlz (by rw[hcf,h1];exact h2),hcf,h1]
   rw[aiT _ e h2];rfl
  unfold rgM at out hcf;refine lb 0<|an rfl<|ia<|an ⟨e,rfl,hlz⟩<|lc<|an (cF M.below hc)<|ei<|an adb fun g3 w3 M3=>lb 0<|an ⟨rfl,rfl⟩ fun w4 M4=>?_
  refine lb 0<|an rfl<|lb 1<|an rfl<|cl<|an (gD _ z.src QA.src _ CS) fun w5 Mw5=>lb 0<|an rfl<|lb 1<|an rfl<|cl<|an (gD _ z.tgt QA.tgt _ CS) fun w6 Mw6=>lb 0<|an (fun _=>rfl)<|lb 1<|an (fun _=>rfl)<|cl<|an (fun _=>gJ _ _ _) fun w7 Mw7=>an (fun h3 M=>⟨out 3 ?_ (by decide),M.below⟩) fun h3=>an (fun h4 M=>⟨out 2 ?_ (by decide),M.below⟩) fun h4=>lb 1<|an rfl<|lb 0<|an rfl<|cl<|an (wD _ _ _ _ _ _ _ _ _ _ _ _ _ _ _ _ _ _ p (hp.keep Mw7.below) z.rng QA.rng) fun w8 M8=>an (fun h5 M=>⟨out 18 ?_ (by decide),M.below⟩) fun h5=>an (by omega)<|bk (i+1) ⟨rfl,trivial⟩ (fun M=>⟨M.only (.cons _ (.refl _)) (.refl _),by omega,hinv.trans (bR hlz ?_)⟩) (by dsimp only;omega)
  all_goals first|(rw[hcf];clear out hcf)|clear out hcf
  all_goals cases h6:z.src.within (ay.all p.types.length)<;>cases h7:z.tgt.within (ay.all p.types.length)<;>cases h8:bq z.cls (p.classes.length:Int)<;>cases h9:eT z.src<;>cases Ni:eT z.tgt<;>cases ow:sR p.aZ.length p.cats.length z.rng<;>simp_all
 simp only[decide_eq_false_iff_not]at h2;obtain rfl:i=p.ranges.length:=by omega
 rw[Nat.sub_self]at hinv;exact fun M=>⟨by rw[afv,hinv];rfl,M.below⟩
def xB(before:List ByteArray)(y:mD):Int:=
 if bP [y.name] before=0 then (if 32<y.perms.length then 4 else if y.perms.length=0 then 2 else bP y.perms []) else bP [y.name] before
def qQ(p:aC)(i:Nat):Int:=match p.classes[i]? with
 | some y=>xB ((p.classes.take i).map (·.name)) y
 | none=>0
def j6(p:aC):Int:=if 32<p.classes.length then 4 else aJ (qQ p) p.classes.length 0
theorem Ke(w0:World)(c0 c1 c2 c3 c4 c5 c6 c7 c8 c9 aV aP aO aU aT aS aR:Value)(p:aC)(hp:aM w0 c0 c1 c2 c3 c4 c5 c6 c7 c8 c9 aV aP aO aU aT aS aR p)(hok:p.Ok):Calls Tryz.prog 41 #[.agg #[c0,c1,c2,c3,c4,c5,c6,c7,c8,c9,aV,aP,aO,aU,aT,aS,aR]] w0 (RI w0 (j6 p)):=by
 obtain⟨_,_,_,_,_,_,_,_,_,_,_,_,_,_,_,_,_,_,_,_,_,_,_,_,_,_,_,_,_,_,_,_,_,_,rfl,rfl,rfl,rfl,rfl,rfl,rfl,rfl,rfl,rfl,rfl,rfl,rfl,rfl,rfl,rfl,rfl⟩:=hp.open;refine cL [] (fn:=Tryz.f41) Tryz.func41 rfl Tryz.ntmps41 rfl<|fun g1 w1 M1=>lb 0<|an rfl<|an (fun h M=>⟨ri (by unfold j6;rw[if_pos (by simp at h;omega)]),M.below⟩) fun h=>?_
 have hr:¬ 32<p.classes.length:=by simp at h;omega
 rw[show j6 p=aJ (qQ p) p.classes.length 0 from if_neg hr];refine lq (ι:=Nat×Value) (fun(m,u)=>[(3,u),(4,.int .i64 (m:Int))]) (fun(m,u)=>[⟨u,9,1,m,((p.classes.take m).map (·.name)).flatMap aW⟩]) (fun(m,u) _=>m≤p.classes.length∧aJ (qQ p) p.classes.length 0=aJ (qQ p) (p.classes.length-m) m) (fun(m,u)=>p.classes.length-m) (0,.slice none 0 0) (an ⟨⟨rfl,rfl,trivial⟩,fun M=>⟨M.bC 9 1,ave _,by rw[Nat.sub_zero]⟩⟩ ?_);rintro⟨m,u⟩ w M ⟨hm,hinv⟩;refine lb 0<|an rfl<|an (fun h2=>?_) fun h2 M=>⟨ri (by rw[hinv,show m=p.classes.length by simp at h2;omega,cM]),M.below⟩
 have hlt:m<p.classes.length:=by simp at h2;omega
 obtain⟨y,hy⟩:∃ y,p.classes[m]?=some y:=⟨_,avf hlt⟩;have qu:=hok.classes y (avh hy);obtain⟨b,o,_,e,⟨v,rfl,hv⟩,hc⟩:=au.elt hp.classes (by decide) hy;obtain⟨va,vc,rfl,-⟩:=aF.get hv;have hcf:qQ p m=xB ((p.classes.take m).map (·.name)) y:=by unfold qQ;rw[hy]
 have out:∀ v:Int,xB ((p.classes.take m).map (·.name)) y=v→v≠0→aJ (qQ p) p.classes.length 0=v:=fun v h1 h2=>by rw[hinv,cN hlt (by rw[hcf,h1];exact h2),hcf,h1]
 unfold xB at hcf out;refine lb 0<|an rfl<|ia<|an ⟨e,rfl,hlt⟩<|lc<|an (cF M.below hc)<|ei<|an N9 fun g2 w2 M2=>lb 0<|an ⟨rfl,rfl⟩ fun w3 M3=>lb 0<|an rfl<|fun g3 w4 M4=>cl<|an (fE _ _ _ [y.name] ((p.classes.take m).map (·.name)) (M4.slice 0 rfl rfl rfl (by simp[maxLen])) (gA (M4.r 0 rfl) (by simp;omega) rfl) (by simpa using qu.name)) fun w5 M5=>an (fun h3 M=>⟨ri (out _ (if_neg (by simpa using h3)) (by simpa using h3)),M.below⟩) fun h3=>?_
 replace h3:bP [y.name] ((p.classes.take m).map (·.name))=0:=by simpa using h3
 rw[if_pos h3]at hcf out;refine lb 1<|an rfl<|fun g4 w6 M6=>ap 0 id rfl (M6.slice 0 rfl rfl rfl (by simp[maxLen])) ⟨by unfold maxLen;omega,by omega⟩ fun v5 w7 M7=>lb 2<|an rfl<|an (fun h4 M=>⟨ri (out _ (if_pos (by simp at h4;omega)) (by decide)),M.below⟩) fun h4=>?_
 rw[if_neg (by simp at h4;omega)]at hcf out;refine lb 2<|an rfl<|an (fun h5 M=>⟨ri (out _ (if_pos (by simp at h5;simp[h5])) (by decide)),M.below⟩) fun h5=>?_
 rw[if_neg (by simp at h5;simp[h5])]at hcf out;exact lb 2<|an rfl<|cl<|an (fE _ _ _ y.perms [] (hv.keep M7.below) (SliceAt.nil _ _) qu.perms.all) fun w8 M8=>an (fun h6 M=>⟨ri (out _ rfl (by simpa using h6)),M.below⟩) fun h6=>an (by omega)<|bk (m+1,v5) ⟨rfl,rfl,trivial⟩ (fun M=>⟨(M.only (.cons _ (.cons _ (.cons _ (.refl _)))) (.refl _)).cast rfl (by dsimp only;rw[rD hy]),by omega,hinv.trans (bR hlt (by rw[hcf];simpa using h6))⟩) (by dsimp only;omega)
def Od(nR nS nC:Nat)(before:List ByteArray)(y:kC):Int:=
 if bP [y.name] before=0 then
  (if wm nR y.roles=false then 3
   else if sR nS nC y.rng=false then 18 else if wN nS nC y.dflt=false then 18
   else if xq y.rng.high y.dflt=false then 18 else if xq y.dflt y.rng.low=false then 18 else 0)
 else bP [y.name] before
def Ak(p:aC)(i:Nat):Int:=match p.users[i]? with
 | some y=>Od p.roles.length p.aZ.length p.cats.length ((p.users.take i).map (·.name)) y
 | none=>0
def vU(p:aC):Int:=if 32<p.users.length then 4 else aJ (Ak p) p.users.length 0
theorem PZ(w0:World)(c0 c1 c2 c3 c4 c5 c6 c7 c8 c9 aV aP aO aU aT aS aR:Value)(p:aC)(hp:aM w0 c0 c1 c2 c3 c4 c5 c6 c7 c8 c9 aV aP aO aU aT aS aR p)(hok:p.Ok):Calls Tryz.prog 44 #[.agg #[c0,c1,c2,c3,c4,c5,c6,c7,c8,c9,aV,aP,aO,aU,aT,aS,aR]] w0 (RI w0 (vU p)):=by
 obtain⟨_,_,_,_,_,_,_,_,_,_,_,_,_,_,_,_,_,_,_,_,_,_,_,_,_,_,_,_,_,_,_,_,_,_,rfl,rfl,rfl,rfl,rfl,rfl,rfl,rfl,rfl,rfl,rfl,rfl,rfl,rfl,rfl,rfl,rfl⟩:=hp.open;refine cL [] (fn:=Tryz.f44) Tryz.func44 rfl Tryz.ntmps44 rfl<|fun g1 w1 M1=>lb 0<|an rfl<|an (fun h M=>⟨ri (by unfold vU;rw[if_pos (by simp at h;omega)]),M.below⟩) fun h=>?_
 have hr:¬ 32<p.users.length:=by simp at h;omega
 rw[show vU p=aJ (Ak p) p.users.length 0 from if_neg hr];refine lq (ι:=Nat×Value) (fun(m,u)=>[(3,u),(4,.int .i64 (m:Int))]) (fun(m,u)=>[⟨u,9,1,m,((p.users.take m).map (·.name)).flatMap aW⟩]) (fun(m,u) _=>m≤p.users.length∧aJ (Ak p) p.users.length 0=aJ (Ak p) (p.users.length-m) m) (fun(m,u)=>p.users.length-m) (0,.slice none 0 0) (an ⟨⟨rfl,rfl,trivial⟩,fun M=>⟨M.bC 9 1,ave _,by rw[Nat.sub_zero]⟩⟩ ?_);rintro⟨m,u⟩ w M ⟨hm,hinv⟩;refine lb 0<|an rfl<|an (fun h2=>?_) fun h2 M=>⟨ri (by rw[hinv,show m=p.users.length by simp at h2;omega,cM]),M.below⟩
 have hlt:m<p.users.length:=by simp at h2;omega
 obtain⟨y,hy⟩:∃ y,p.users[m]?=some y:=⟨_,avf hlt⟩;have qu:=hok.users y (avh hy);obtain⟨b,o,e,hc⟩:=SliceAt.elt hp.users (fun _=>rfl) (by decide) hy hlt;have hcf:Ak p m=Od p.roles.length p.aZ.length p.cats.length ((p.users.take m).map (·.name)) y:=by unfold Ak;rw[hy]
 have out:∀ v:Int,Od p.roles.length p.aZ.length p.cats.length ((p.users.take m).map (·.name)) y=v→v≠0→aJ (Ak p) p.users.length 0=v:=fun v h1 h2=>by rw[hinv,cN hlt (by rw[hcf,h1];exact h2),hcf,h1]
 unfold Od at hcf out;refine lb 0<|an rfl<|ia<|an ⟨e,rfl,hlt⟩<|lc<|an (cF M.below hc)<|ei<|an YZ fun g2 w2 M2=>lb 0<|an ⟨rfl,rfl⟩ fun w3 M3=>lb 0<|an rfl<|fun g3 w4 M4=>cl<|an (fE _ _ _ [y.name] ((p.users.take m).map (·.name)) (M4.slice 0 rfl rfl rfl (by simp[maxLen])) (gA (M4.r 0 rfl) (by simp;omega) rfl) (by simpa using qu.name)) fun w5 M5=>an (fun h3 M=>⟨ri (out _ (if_neg (by simpa using h3)) (by simpa using h3)),M.below⟩) fun h3=>?_
 replace h3:bP [y.name] ((p.users.take m).map (·.name))=0:=by simpa using h3
 rw[if_pos h3]at hcf out;refine lb 1<|an rfl<|fun g4 w6 M6=>ap 0 id rfl (M6.slice 0 rfl rfl rfl (by simp[maxLen])) ⟨by unfold maxLen;omega,by omega⟩ fun v5 w7 M7=>lb 3<|an rfl<|lb 2<|an rfl<|cl<|an (jq _ _ _ _ _ _ _ _ _ _ _ _ _ _ _ _ _ _ p (hp.keep M7.below) hok y.roles qu.roles) fun w8 M8=>an (fun h4 M=>⟨ri (out 3 (if_pos (by simpa using h4)) (by decide)),M.below⟩) fun h4=>?_
 rw[if_neg (by simpa using h4)]at hcf out;refine lb 3<|an rfl<|lb 2<|an rfl<|cl<|an (wD _ _ _ _ _ _ _ _ _ _ _ _ _ _ _ _ _ _ p (hp.keep M8.below) y.rng qu.rng) fun w9 M9=>lb 3<|an (fun _=>rfl)<|lb 2<|an (fun _=>rfl)<|cl<|an (fun _=>wM _ _ _ _ _ _ _ _ _ _ _ _ _ _ _ _ _ _ p (hp.keep M9.below) y.dflt qu.dflt) fun tS nr=>lb 2<|an (fun _=>rfl)<|lb 2<|an (fun _=>rfl)<|cl<|an (fun _=>uU _ y.rng.high y.dflt qu.rng.high qu.dflt) fun Dw M11=>lb 2<|an (fun _=>rfl)<|lb 2<|an (fun _=>rfl)<|cl<|an (fun _=>uU _ y.dflt y.rng.low qu.dflt qu.rng.low) fun He Dr=>an (fun h5 M=>⟨ri (out 18 ?_ (by decide)),M.below⟩) fun h5=>an (by omega)<|bk (m+1,v5) ⟨rfl,rfl,trivial⟩ (fun M=>⟨(M.only (.cons _ (.cons _ (.cons _ (.refl _)))) (.refl _)).cast rfl (by dsimp only;rw[rD hy]),by omega,hinv.trans (bR hlt ?_)⟩) (by dsimp only;omega)
 all_goals first|(rw[hcf];clear hcf out)|clear hcf out
 all_goals cases h6:sR p.aZ.length p.cats.length y.rng<;>cases h7:wN p.aZ.length p.cats.length y.dflt<;>cases h8:xq y.rng.high y.dflt<;>cases h9:xq y.dflt y.rng.low<;>simp_all
def RH(nU nR nT:Nat)(cl:List mD)(y:oZ):Int:=
 if kJ cl y.cls y.perms=false then 3 else if ¬ y.val=decide (y.perms=0) then 2 else gH nU nR nT y.val y.expr
def J_(p:aC)(i:Nat):Int:=match p.cons[i]? with
 | some y=>RH p.users.length p.roles.length p.types.length p.classes y
 | none=>0
def yH(p:aC):Int:=if 64<p.cons.length then 4 else aJ (J_ p) p.cons.length 0
theorem zj(w:World)(c0 c1 c2 c3 c4 c5 c6 c7 c8 c9 aV aP aO aU aT aS aR:Value)(p:aC)(hp:aM w c0 c1 c2 c3 c4 c5 c6 c7 c8 c9 aV aP aO aU aT aS aR p)(hok:p.Ok):Calls Tryz.prog 49 #[.agg #[c0,c1,c2,c3,c4,c5,c6,c7,c8,c9,aV,aP,aO,aU,aT,aS,aR]] w fun e w'=>e=.returned (.int .i64 (yH p))∧avd w.heap.size w w':=by
 obtain⟨_,_,_,_,_,_,_,_,_,_,_,_,_,_,_,_,_,_,_,_,_,_,_,_,_,_,_,_,_,_,_,_,_,_,rfl,rfl,rfl,rfl,rfl,rfl,rfl,rfl,rfl,rfl,rfl,rfl,rfl,rfl,rfl,rfl,rfl⟩:=hp.open;refine cL [] (fn:=Tryz.f49) Tryz.func49 rfl Tryz.ntmps49 rfl<|fun g1 w1 M1=>lb 0<|an rfl<|an (fun h M=>⟨ri (by unfold yH;rw[if_pos (by simp at h;omega)]),M.below⟩) fun h=>?_
 have hr:¬ 64<p.cons.length:=by simp at h;omega
 rw[show yH p=aJ (J_ p) p.cons.length 0 from if_neg hr];refine lr (ι:=Nat) (fun m=>[(3,.int .i64 (m:Int))]) (fun m _=>m≤p.cons.length∧aJ (J_ p) p.cons.length 0=aJ (J_ p) (p.cons.length-m) m) (fun m=>p.cons.length-m) 0 (an ⟨⟨rfl,trivial⟩,fun M=>⟨M,ave _,by rw[Nat.sub_zero]⟩⟩ ?_);rintro m w2 M ⟨hm,hinv⟩;refine lb 0<|an rfl<|an (fun h2=>?_) fun h2 M=>⟨ri (by rw[hinv,show m=p.cons.length by simp at h2;omega,cM]),M.below⟩
 have hlt:m<p.cons.length:=by simp at h2;omega
 obtain⟨y,hy⟩:∃ y,p.cons[m]?=some y:=⟨_,avf hlt⟩;have qu:=hok.cons y (avh hy);obtain⟨b,o,_,e,⟨_,rfl,hE⟩,hc⟩:=au.elt hp.cons (by decide) hy;obtain⟨nv,kv,rfl,hn,hk⟩:=hE.open;obtain⟨_,_,rfl,-⟩:=aF.get hn;obtain⟨_,_,rfl,-⟩:=au.form hk (by decide);have hcf:J_ p m=RH p.users.length p.roles.length p.types.length p.classes y:=by unfold J_;rw[hy]
 have out:∀ v:Int,RH p.users.length p.roles.length p.types.length p.classes y=v→v≠0→aJ (J_ p) p.cons.length 0=v:=fun v h1 h2=>by rw[hinv,cN hlt (by rw[hcf,h1];exact h2),hcf,h1]
 unfold RH at hcf out;refine lb 0<|an rfl<|ia<|an ⟨e,rfl,hlt⟩<|lc<|an (cF M.below hc)<|ei<|an PL fun g2 w2 M2=>lb 0<|an ⟨rfl,rfl⟩ fun w3 M3=>lb 1<|an rfl<|lb 0<|an rfl<|lb 0<|an rfl<|cl<|an (Aj _ _ _ _ _ _ _ _ _ _ _ _ _ _ _ _ _ _ p (hp.keep M3.below) y.cls y.perms qu.perms) fun w4 M4=>an (fun h3 M=>⟨ri (out 3 (if_pos (by simpa using h3)) (by decide)),M.below⟩) fun h3=>?_
 rw[if_neg (by simpa using h3)]at hcf out;refine lb 0<|an rfl<|lb 0<|an rfl<|an (fun h4 M=>⟨ri (out 2 (if_pos (by simpa using h4)) (by decide)),M.below⟩) fun h4=>?_
 rw[if_neg (by simpa using h4)]at hcf out;exact lb 1<|an rfl<|lb 0<|an rfl<|lb 0<|an rfl<|cl<|an (CK y.expr qu.expr _ _ _ _ _ _ _ _ _ _ _ _ _ _ _ _ _ _ _ p (hp.keep M4.below) hok (hE.keep M4.below) y.val) fun w5 M5=>an (fun h5 M=>⟨ri (out _ rfl (by simpa using h5)),M.below⟩) fun h5=>an (by omega)<|bk (m+1) ⟨rfl,trivial⟩ (fun M=>⟨M.only (.cons _ (.refl _)) (.refl _),by omega,hinv.trans (bR hlt (by rw[hcf];simpa using h5))⟩) (by dsimp only;omega)
def kK(p:aC):Int:=
 if 16<p.bools.length then 4
 else if ¬ bP (p.bools.map (·.name)) []=0 then bP (p.bools.map (·.name)) []
 else if 16<p.aZ.length then 4
 else if ¬ bP p.aZ []=0 then bP p.aZ []
 else if 64<p.cats.length then 4
 else bP p.cats []
theorem Mg(w:World)(c0 c1 c2 c3 c4 c5 c6 c7 c8 c9 aV aP aO aU aT aS aR:Value)(p:aC)(hp:aM w c0 c1 c2 c3 c4 c5 c6 c7 c8 c9 aV aP aO aU aT aS aR p)(hok:p.Ok):Calls Tryz.prog 45 #[.agg #[c0,c1,c2,c3,c4,c5,c6,c7,c8,c9,aV,aP,aO,aU,aT,aS,aR]] w fun e w'=>e=.returned (.int .i64 (kK p))∧avd w.heap.size w w':=by
 obtain⟨_,_,_,_,_,_,_,_,_,_,_,_,_,_,_,_,_,_,_,_,_,_,_,_,_,_,_,_,_,_,_,_,_,_,rfl,rfl,rfl,rfl,rfl,rfl,rfl,rfl,rfl,rfl,rfl,rfl,rfl,rfl,rfl,rfl,rfl⟩:=hp.open;refine cL [] (fn:=Tryz.f45) Tryz.func45 rfl Tryz.ntmps45 rfl<|fun g1 w1 M1=>lb 0<|an rfl<|an (fun h M=>⟨ri (if_pos (by simp at h;omega)),M.below⟩) fun h=>?_
 have hr:¬ 16<p.bools.length:=by simp at h;omega
 refine lq (ι:=Nat×Value) (fun(m,u)=>[(3,u),(4,.int .i64 (m:Int))]) (fun(m,u)=>[⟨u,9,1,m,((p.bools.take m).map (·.name)).flatMap aW⟩]) (fun(m,u) _=>m≤p.bools.length) (fun(m,u)=>p.bools.length-m) (0,.slice none 0 0) (an ⟨⟨rfl,rfl,trivial⟩,fun M=>⟨M.bC 9 1,ave _⟩⟩ ?_);rintro⟨m,u⟩ w2 M hm;refine lb 0<|an rfl<|an (fun h2=>?_) fun h2=>?_
 ·have hlt:m<p.bools.length:=by simp at h2;omega
  obtain⟨y,hy⟩:∃ y,p.bools[m]?=some y:=⟨_,avf hlt⟩;obtain⟨b,o,e,hc⟩:=SliceAt.elt hp.bools (fun _=>rfl) (by decide) hy hlt;exact lb 0<|an rfl<|ia<|an ⟨e,rfl,hlt⟩<|lc<|an (cF M.below hc 0 _ rfl)<|fun g2 w2 M2=>ap 0 id rfl (M2.slice 0 rfl rfl rfl (by simp[maxLen])) ⟨by unfold maxLen;omega,by omega⟩ fun v3 w3 M3=>an (by omega)<|bk (m+1,v3) ⟨rfl,rfl,trivial⟩ (fun M=>⟨(M.only (.cons _ (.refl _)) (.refl _)).cast rfl (by dsimp only;rw[rD hy]),by omega⟩) (by dsimp only;omega)
 obtain rfl:m=p.bools.length:=by simp at h2;omega
 have hM:kK p=if ¬ bP (p.bools.map (·.name)) []=0 then bP (p.bools.map (·.name)) [] else if 16<p.aZ.length then 4 else if ¬ bP p.aZ []=0 then bP p.aZ [] else if 64<p.cats.length then 4 else bP p.cats []:=if_neg hr
 refine cl<|an (fE _ _ _ (p.bools.map (·.name)) [] (gA (M.r 0 rfl) (by simp) (by rw[avv])) (SliceAt.nil _ _) (fun s hs=>by obtain⟨y,hy,rfl⟩:=avp.1 hs;exact(hok.bools y hy).name)) fun w4 M4=>an (fun h3 M=>⟨ri (by rw[hM,if_pos (by simpa using h3)]),M.below⟩) fun h3=>?_
 rw[if_neg (by simpa using h3)]at hM;refine lb 0<|an rfl<|an (fun h4 M=>⟨ri (by rw[hM,if_pos (by simp at h4;omega)]),M.below⟩) fun h4=>?_
 rw[if_neg (by simp at h4;omega)]at hM;refine lb 0<|an rfl<|cl<|an (fE _ _ _ p.aZ [] (hp.aZ.keep M4.below) (SliceAt.nil _ _) hok.aZ) fun w5 M5=>an (fun h5 M=>⟨ri (by rw[hM,if_pos (by simpa using h5)]),M.below⟩) fun h5=>?_
 rw[if_neg (by simpa using h5)]at hM;refine lb 0<|an rfl<|an (fun h6 M=>⟨ri (by rw[hM,if_pos (by simp at h6;omega)]),M.below⟩) fun h6=>?_
 rw[if_neg (by simp at h6;omega)]at hM;exact lb 0<|an rfl<|cl<|an (fE _ _ _ p.cats [] (hp.cats.keep M5.below) (SliceAt.nil _ _) hok.cats) fun w6 M6 M=>⟨ri hM,M.below⟩
def nk(p:aC):Int:=
 if oO [j6 p,pV p,ql p]=0 then oO [vU p,kK p,iu p,p7 p,fH p,yH p,jL p,qR p] else oO [j6 p,pV p,ql p]
theorem VF{w:World}{l:List Int}{n:Nat}{u:Value}{w0:World}(h:Ds w0 42 n (l.map j7) u w)(hn:n=l.length)(hm:l.length≤maxLen:=by simp[maxLen]):Calls Tryz.prog 40 #[u] w fun e w'=>e=.returned (.int .i64 (oO l))∧avd w.heap.size w w':=by
 subst hn;obtain⟨g,rfl,hW,-⟩:=h;exact(Rl _ _ l (SliceAt.A8 hW (by simp) (by simp[j7,Value.oneCell']) hm)).mono fun _ _ ⟨h1,h2⟩=>⟨h1,h2▸Below.refl _ _⟩
theorem RK(w0:World)(c0 c1 c2 c3 c4 c5 c6 c7 c8 c9 aV aP aO aU aT aS aR:Value)(p:aC)(hp:aM w0 c0 c1 c2 c3 c4 c5 c6 c7 c8 c9 aV aP aO aU aT aS aR p)(hok:p.Ok)(iT:p.Few):Calls Tryz.prog 12 #[.agg #[c0,c1,c2,c3,c4,c5,c6,c7,c8,c9,aV,aP,aO,aU,aT,aS,aR]] w0 (RI w0 (nk p)):=by
 refine cL [] (fn:=Tryz.f12) Tryz.func12 rfl Tryz.ntmps12 rfl<|fun g1 w1 M1=>dr (by kernel_rfl)<|lb 0<|an rfl<|cl<|an (fun w' hb M=>Ke _ _ _ _ _ _ _ _ _ _ _ _ _ _ _ _ _ _ p (hp.keep M.below) hok)<|lb 0<|an rfl<|cl<|an (fun w' hb M=>P5 _ _ _ _ _ _ _ _ _ _ _ _ _ _ _ _ _ _ p (hp.keep M.below) hok iT)<|lb 0<|an rfl<|cl<|an (fun w' hb M=>Qq _ _ _ _ _ _ _ _ _ _ _ _ _ _ _ _ _ _ p (hp.keep M.below) hok)<|br (Ds w1 42 3 ([j6 p,pV p,ql p].map j7))<|an lM<|an (fun w1 a o' hb M' hop ou=>bK (p:=fun _=>True) (kk:=1) (b:=8) (by kernel_rfl) rfl rfl (by decide) (by decide) (by simp[Value.cells]) rfl w1 a o' hb trivial hop ou)<|cu<|an (fun u _ w' hb' M' hR=>VF hR rfl)<|fun w2 hb2 M2=>an (fun h M=>⟨ri (if_neg (by simpa using h)),M.below⟩) fun h=>?_
 rw[show nk p=oO [vU p,kK p,iu p,p7 p,fH p,yH p,jL p,qR p] from if_pos (by simpa using h)];exact dr (by kernel_rfl)<|lb 0<|an rfl<|cl<|an (fun w' hb M=>PZ _ _ _ _ _ _ _ _ _ _ _ _ _ _ _ _ _ _ p (hp.keep M.below) hok)<|lb 0<|an rfl<|cl<|an (fun w' hb M=>Mg _ _ _ _ _ _ _ _ _ _ _ _ _ _ _ _ _ _ p (hp.keep M.below) hok)<|lb 0<|an rfl<|cl<|an (fun w' hb M=>Qm _ _ _ _ _ _ _ _ _ _ _ _ _ _ _ _ _ _ p (hp.keep M.below) hok)<|lb 0<|an rfl<|cl<|an (fun w' hb M=>P6 _ _ _ _ _ _ _ _ _ _ _ _ _ _ _ _ _ _ p (hp.keep M.below) hok)<|lb 0<|an rfl<|cl<|an (fun w' hb M=>Kh _ _ _ _ _ _ _ _ _ _ _ _ _ _ _ _ _ _ p (hp.keep M.below) hok)<|lb 0<|an rfl<|cl<|an (fun w' hb M=>zj _ _ _ _ _ _ _ _ _ _ _ _ _ _ _ _ _ _ p (hp.keep M.below) hok)<|lb 0<|an rfl<|cl<|an (fun w' hb M=>MJ _ _ _ _ _ _ _ _ _ _ _ _ _ _ _ _ _ _ p (hp.keep M.below) hok)<|lb 0<|an rfl<|cl<|an (fun w' hb M=>Kq _ _ _ _ _ _ _ _ _ _ _ _ _ _ _ _ _ _ p (hp.keep M.below) hok)<|br (Ds w2 42 8 ([vU p,kK p,iu p,p7 p,fH p,yH p,jL p,qR p].map j7))<|an lM<|an (fun w1 a o' hb M' hop ou=>bK (p:=fun _=>True) (kk:=1) (b:=8) (by kernel_rfl) rfl rfl (by decide) (by decide) (by simp[Value.cells]) rfl w1 a o' hb trivial hop ou)<|cu<|an (fun u _ w' hb' M' hR=>VF hR rfl)<|fun w3 vG M3 M=>⟨rfl,M.below⟩
structure Ky (p:aC):Prop where
 small:p.CG
 rules:p.rules.length≤20
 bools:p.bools.length≤4
 check:nk p=0
theorem Ys(w0:World)(c0 c1 c2 c3 c4 c5 c6 c7 c8 c9 aV aP aO aU aT aS aR:Value)(p:aC)(hp:aM w0 c0 c1 c2 c3 c4 c5 c6 c7 c8 c9 aV aP aO aU aT aS aR p)(hok:p.Ok):Calls Tryz.prog 20 #[.agg #[c0,c1,c2,c3,c4,c5,c6,c7,c8,c9,aV,aP,aO,aU,aT,aS,aR]] w0 (fun(e:Ending) (w':World)=>∃ v,e=.returned v∧((∃ b:Bool,v=.bool b∧(b=true→Ky p))∧avd w0.heap.size w0 w')):=by
 obtain⟨_,_,_,_,_,_,_,_,_,_,_,_,_,_,_,_,_,_,_,_,_,_,_,_,_,_,_,_,_,_,_,_,_,_,rfl,rfl,rfl,rfl,rfl,rfl,rfl,rfl,rfl,rfl,rfl,rfl,rfl,rfl,rfl,rfl,rfl⟩:=hp.open;refine cL [] (fn:=Tryz.f20) Tryz.func20 rfl Tryz.ntmps20 rfl<|fun g1 w1 M1=>lb 0<|an rfl<|cg<|an (Qg _ _ _ _ _ _ _ _ _ _ _ _ _ _ _ _ _ _ p (hp.keep M1.below) hok) fun v w2 ⟨b1,hv,aeh,hB⟩=>⟨_,_,M1.keep hB,?_⟩
 subst hv;have M2:=M1.keep hB;refine lb 0<|an (fun _=>rfl)<|lb 0<|an (fun _=>rfl)<|lb 0<|an (fun _=>rfl)<|cg (R:=fun v w'=>(∃ x:Int,v=.int .i64 x∧(b1=true→x=nk p))∧avd w2.heap.size w2 w')<|an (fun h=>?_)<|an (fun h=>⟨.int .i64 (nk p),⟨_,rfl,fun _=>rfl⟩,avd.refl _ _⟩) fun v w3 hR=>⟨_,_,M2.keep hR.2,?_⟩
 ·simp only[avc]at h;exact(RK _ _ _ _ _ _ _ _ _ _ _ _ _ _ _ _ _ _ p (hp.keep M2.below) hok (aeh h.1.1).few).mono fun _ _ ⟨e,hb⟩=>⟨_,e,⟨_,rfl,fun _=>rfl⟩,hb⟩
 obtain⟨⟨x,rfl,hx⟩,-⟩:=hR;refine fun M=>⟨_,rfl,⟨_,rfl,fun h=>?_⟩,M.below⟩
 simp only[avc,decide_eq_true_eq]at h;obtain⟨⟨⟨h1,h2⟩,h3⟩,h4⟩:=h;exact⟨aeh h1,by omega,by omega,by rw[← hx h1];exact h4⟩
theorem Wr{x y i:Nat}(hy:y<18446744073709551616)(hi:i<64):(rV x y).testBit i=(x.testBit i&&!y.testBit i):=by
 unfold rV;rw[Nat.testBit_and,show 18446744073709551615-y=2^64-(y+1) by omega,Nat.testBit_two_pow_sub_succ (by simpa using hy),decide_eq_true hi,Bool.true_and]
theorem QJ{a b:ay}(hb:b.Ok){k:Nat}(hk:k<256):(a.minus b).has k=(a.has k&&!b.has k):=by
 unfold ay.has;rw[ay.Ad a b (by omega),Wr (ay.iE hb _) (Nat.mod_lt _ (by decide))]
theorem Ku{k:Nat}(hk:k<256):∀ n,n≤256→(xH n).has k=decide (k<n)
 | 0,_=>by rw[xH,ay.JB];rfl
 | n+1,h=>by
  have e:(xH (n+1))=(xH n).add n:=by
   rw[xH]
   unfold ay.with
   rw[if_pos ⟨by omega,by omega⟩,Int.toNat_natCast]
  rw[e,ay.has_add _ (by omega) hk,Ku hk n (by omega),← Bool.decide_or];exact decide_eq_decide.2 (by omega)
theorem Dt{a:ay}{T k:Nat}(h:a.within (ay.all T)=true)(hT:T≤256)(hk:k<256)(ha:a.has k=true):k<T:=by
 unfold ay.within at h;have h2:=of_decide_eq_true h;have h3:=QJ (a:=a) (b:=ay.all T) (CA T) hk;rw[h2,ay.JB,ha]at h3;unfold ay.all at h3;rw[Nat.min_eq_left hT,Ku hk T hT]at h3;by_cases hlt:k<T
 ·exact hlt
 ·rw[decide_eq_false hlt]at h3;cases h3
theorem Qx{r:aj}{T:Nat}(hT:T≤256)(h1:r.src.within (ay.all T)=true)(h2:r.tgt.within (ay.all T)=true):∀ p∈r.pairs,p.1<T∧p.2<T:=fun p hp=>by
 obtain⟨hs,ht⟩:=Qw hp;obtain⟨h3,h4⟩:=(Ms (r:=r) (s:=p.1) (o:=p.2) hs ht).1 hp;have ha:=Dt h1 hT hs h3;refine⟨ha,?_⟩;rw[Bool.or_eq_true,avc,decide_eq_true_eq]at h4;rcases h4 with h4|⟨-,h4⟩
 ·exact Dt h2 hT ht h4
 ·omega
theorem Cn{n:Nat}:∀ e:aq,kG n e=0→eD n e
 | .node op a rel b names set kids,h=>by
  have ih:∀ k∈kids,kG n k=0→eD n k:=fun k hk=>Cn k
  rw[qP]at h
  cases hb:kO (.node op a rel b names set kids) with
  | true=>rw[hb]at h;simp at h
  | false=>
   rw[hb,if_neg (by decide)]at h
   cases h1:(decide (op=1)&&!bq a (n:Int)) with
   | true=>rw[show(decide ((aq.node op a rel b names set kids).op=1)&&!bq (aq.node op a rel b names set kids).a (n:Int))=true from h1]at h;simp at h
   | false=>
    rw[show(decide ((aq.node op a rel b names set kids).op=1)&&!bq (aq.node op a rel b names set kids).a (n:Int))=false from h1,if_neg (by decide)]at h;replace h:lV n kids=0:=h;unfold kO at hb;simp only[Bool.or_eq_false_iff,decide_eq_false_iff_not,Bool.not_eq_false',decide_eq_true_eq,aq.op,aq.kids]at hb;have hop:¬ op=8∧¬ op=9:=⟨of_decide_eq_false hb.1.1.1.1.1.1.1,of_decide_eq_false hb.1.1.1.1.1.1.2⟩;have hkl:nY op=(kids.length:Int):=of_decide_eq_true hb.1.1.1.1.1.2
    have two:3≤op→op≤7→eD n (.node op a rel b names set kids):=fun h3 h7=>by
     have hk2:nY op=2:=by
      have e:op=3∨op=4∨op=5∨op=6∨op=7:=by omega
      rcases e with rfl|rfl|rfl|rfl|rfl<;>rfl
     rw[hk2]at hkl
     match kids,h,hkl,ih with
     | [k,l],h,_,ih=>
      unfold lV at h;split at h
      ·rename_i hk;unfold lV at h;split at h
       ·rename_i hl;exact .bin h3 h7 (ih k (by simp) hk) (ih l (by simp) hl)
       ·rename_i hl;exact absurd h hl
      ·rename_i hk;exact absurd h hk
    by_cases e1:op=1
    ·subst e1;have hk0:kids=[]:=List.eq_nil_of_length_eq_zero (by have:nY 1=0:=rfl;omega);subst hk0;rw[decide_eq_true rfl,Bool.true_and,Bool.not_eq_false']at h1;unfold bq at h1;rw[avc,decide_eq_true_eq,decide_eq_true_eq]at h1;exact .bool h1.1 h1.2
    by_cases e2:op=2
    ·subst e2;have hk1:nY 2=1:=rfl;rw[hk1]at hkl
     match kids,h,hkl,ih with
     | [k],h,_,ih=>
      unfold lV at h;split at h
      ·rename_i hk;exact .not (ih k (by simp) hk)
      ·rename_i hk;exact absurd h hk
    by_cases e3:3≤op∧op≤7
    ·exact two e3.1 e3.2
    exfalso
    have hm:nY op<0:=by
     unfold nY;rw[if_neg e1,if_neg hop.1,if_neg hop.2,if_neg e2,if_neg (by omega),if_neg (by omega),if_neg (by omega),if_neg (by omega),if_neg (by omega)];decide
    omega
 termination_by e=>SizeOf.sizeOf e
 decreasing_by
  have:=List.sizeOf_lt_of_mem hk;simp only[aq.node.sizeOf_spec];omega
theorem BQ{p:aC}(h:Ky p)(hok:p.Ok):mU p∧xJ p:=by
 have hc:=h.check;unfold nk at hc;split at hc
 case isFalse hne=>exact absurd hc hne
 rw[j4]at hc;have hr:iu p=0:=hc _ (by simp);have ht:p7 p=0:=hc _ (by simp);have hT:p.types.length≤256:=avl h.small.sizes.types (by decide);have hCl:p.classes.length≤256:=avl h.small.sizes.classes (by decide);unfold iu at hr;split at hr
 ·cases hr
 split at hr
 case isFalse _ hne=>exact absurd hr hne
 rename_i _ qB;split at hr
 ·cases hr
 rw[fJ]at hr qB
 have R:∀ r∈p.rules,DL p.types.length p.conds.length p.classes r=0:=fun r hr'=>by
  obtain⟨i,hi⟩:=List.getElem?_of_mem hr';have:=hr i (ave _) (by have:=(avs.1 hi).1;omega);unfold yp at this
  rwa [hi]at this
 have C:∀ e∈p.conds,eD p.bools.length e:=fun e he=>by
  obtain⟨i,hi⟩:=List.getElem?_of_mem he;have:=qB i (ave _) (by have:=(avs.1 hi).1;omega);unfold lW at this;rw[hi]at this;replace this:dB p.bools.length e=0:=this;unfold dB at this;split at this
  ·cases this
  ·exact Cn e this
 have RD:∀ r∈p.rules,RV p.types.length p.classes.length r∧(r.kind=4→r.cond=0)∧-(p.conds.length:Int)≤r.cond∧r.cond≤p.conds.length:=fun r hr'=>by
  have h0:=R r hr';unfold DL at h0;split at h0
  ·cases h0
  rename_i k1;split at h0
  ·cases h0
  rename_i k4;split at h0
  ·cases h0
  rename_i ho;split at h0
  ·cases h0
  rename_i ha;simp only[Bool.not_eq_true]at ho ha;unfold zF at ho;unfold E1 at ha;simp only[Bool.or_eq_false_iff,Bool.not_eq_false']at ho ha;obtain⟨⟨⟨o1,o2⟩,o3⟩,o4⟩:=ho
  have hcls:0≤r.cls∧r.cls<p.classes.length:=by
   cases hb:bq r.cls (p.classes.length:Int) with
   | false=>rw[xV hb]at o3;cases o3
   | true=>unfold bq at hb;simpa using hb
  unfold uW at o4;rw[avc,decide_eq_true_eq,decide_eq_true_eq]at o4;refine⟨⟨⟨by omega,by omega⟩,hcls,(hok.rules r hr').perms,Qx hT o1 o2⟩,fun h4=>?_,o4⟩;have:=ha.2;rw[h4]at this;simpa using this
 have TD:∀ y∈p.trans,-(p.conds.length:Int)≤y.cond∧y.cond≤p.conds.length:=fun y hy=>by
  unfold p7 at ht;split at ht
  case isFalse=>cases ht
  rw[fJ]at ht;obtain⟨i,hi⟩:=List.getElem?_of_mem hy;have h0:=ht i (ave _) (by have:=(avs.1 hi).1;omega);unfold xY at h0;rw[hi]at h0;replace h0:DE p.types.length p.classes.length p.conds.length y=0:=h0;unfold DE at h0
  cases hb:uW p.conds.length y.cond with
  | true=>
   unfold uW at hb
   rwa [avc,decide_eq_true_eq,decide_eq_true_eq]at hb
  | false=>
   rw[hb,if_pos rfl]at h0
   repeat' (split at h0;·cases h0)
   cases h0
 exact⟨⟨avl h.bools (by decide),fun r hr'=>(RD r hr').1,fun r hr'=>(RD r hr').2.1,C,fun r hr'=>(RD r hr').2.2,TD⟩,avl h.bools (by decide),avl h.small.sizes.conds (by decide),hT,hCl,fun r hr'=>⟨(RD r hr').1,hok.rules r hr'⟩⟩
theorem MS(w0:World):Calls Tryz.prog 128 #[] w0 (fun(r:Ending) (w':World)=>r=.returned (.agg #[.int .i64 0,.int .i64 1,.int .i64 0,.int .i64 0,.int .u64 0,.int .i64 0,.int .u64 0])∧avd w0.heap.size w0 w'):=by
 have bL:=hrC Tryz.prog Tryz.f128 (fun(r:Ending) (w':World)=>r=.returned (.agg #[.int .i64 0,.int .i64 1,.int .i64 0,.int .i64 0,.int .u64 0,.int .i64 0,.int .u64 0])∧avd w0.heap.size w0 w') 2 0 74 rfl u74 rfl Xl;refine en Tryz.func128 rfl Tryz.ntmps128 rfl (vs:=[]) rfl fun _ F=>?_
 have M:=Mm.start w0;refine avq fun K1 gV=>ah<|Jh (on rfl) rfl ada rfl F rfl M fun g1 _ _ F M=>avr<|gV _ _ ?_
 refine avq fun K2 h_=>ah<|
  kz F rf (uS rfl (pv:=#[(1,.int .i64 1),(2,.int .i64 0)]) (by simp[BigFrame.eval_const]) (cells:=#[.int .i64 0,.int .i64 1,.int .i64 0,.int .i64 0,.int .u64 0,.int .i64 0,.int .u64 0]) (by kernel_rfl)) fun _ F=>
  KG (on rfl) rfl (F.u rf) (F.u rf) F M 0 rfl Xl rfl rfl rfl fun _ M=>
  avr<|
  h_ _ _ ?_
 refine wp_ret<|bL _ _ _ _ _ _ F rfl (M.b 0 rfl) rfl ?_;exact⟨rfl,M.below⟩
theorem BP(w0:World):Calls Tryz.prog 129 #[] w0 (fun(r:Ending) (w':World)=>r=.returned (.agg #[.int .i64 0,.int .i64 0,.int .i64 2,.int .i64 0,.int .u64 0,.int .i64 0,.int .u64 0])∧avd w0.heap.size w0 w'):=by
 have bL:=hrC Tryz.prog Tryz.f129 (fun(r:Ending) (w':World)=>r=.returned (.agg #[.int .i64 0,.int .i64 0,.int .i64 2,.int .i64 0,.int .u64 0,.int .i64 0,.int .u64 0])∧avd w0.heap.size w0 w') 2 0 74 rfl u74 rfl Xl;refine en Tryz.func129 rfl Tryz.ntmps129 rfl (vs:=[]) rfl fun _ F=>?_
 have M:=Mm.start w0;refine avq fun K1 gV=>ah<|Jh (on rfl) rfl ada rfl F rfl M fun g1 _ _ F M=>avr<|gV _ _ ?_
 refine avq fun K2 h_=>ah<|
  kz F rf (uS rfl (pv:=#[(2,.int .i64 2)]) (by simp[BigFrame.eval_const]) (cells:=#[.int .i64 0,.int .i64 0,.int .i64 2,.int .i64 0,.int .u64 0,.int .i64 0,.int .u64 0]) (by kernel_rfl)) fun _ F=>
  KG (on rfl) rfl (F.u rf) (F.u rf) F M 0 rfl Xl rfl rfl rfl fun _ M=>
  avr<|
  h_ _ _ ?_
 refine wp_ret<|bL _ _ _ _ _ _ F rfl (M.b 0 rfl) rfl ?_;exact⟨rfl,M.below⟩
theorem uf{w0 w:World}{B:Nat}{bs:List Bx}{rs:List Rw}(M:aY B w0 w bs rs)(i:Nat){l:List Int}{x:Int}{g:Nat}{t:TypeId}(hb:bs[i]?=some (g,t,(l.flatMap anyI).toArray))(hx:LM l=x)(hl:∀ y∈l,0≤y∧y<64:=by simp)(hn:l.length≤100:=by decide)(ht:Nat.blt t 9000=true:=by rfl):
 Calls Tryz.prog 127 #[.slice (some ⟨g,0,none⟩) l.length l.length] w fun r w'=>r=.returned (.agg #[.int .u64 x,.int .u64 0,.int .u64 0,.int .u64 0])∧avd w.heap.size w w':=by
 subst hx
 have hlen:(l.flatMap anyI).length=l.length*1:=by
  clear hb hl hn
  induction l with
  | nil=>rfl
  | cons x r ih=>rw[List.flatMap_cons,avo,ih,List.length_cons];simp[anyI];omega
 refine Xt w _ l (M.slice i hb (by simpa using hlen) ?_ (by unfold maxLen;omega) ht) hl;rw[List.all_eq_true];intro u hu;obtain⟨y,-,hy⟩:=List.mem_flatMap.1 (by simpa using hu);simp only[anyI,avn]at hy;rw[hy];rfl
def Both{α:Type}(R:List Value→α→Prop):List (List Value)→List α→Prop
 | [],[]=>True
 | x::r,y::s=>R x y∧Both R r s
 | _,_=>False
theorem Oz{α:Type}{R:List Value→α→Prop}:∀ {es:List (List Value)} {l:List α},Both R es l→∀ (i:Nat) x y,es[i]?=some x→l[i]?=some y→R x y
 | [],_,_,i,x,y,h,_=>by simp at h
 | x::r,[],h,_,_,_,_,_=>h.elim
 | x::r,y::s,h,0,_,_,h1,h2=>by simp at h1 h2;rw[← h1,← h2];exact h.1
 | x::r,y::s,h,i+1,_,_,h1,h2=>Oz h.2 i _ _ (by simpa using h1) (by simpa using h2)
theorem XR{α:Type}{k:Nat}{R:List Value→α→Prop}{w:World}:au k R w (.slice none 0 0) []:=⟨[],rfl,by simp,SliceAt.nil _ k,by simp⟩
def zD:aC:={
 classes:=[⟨⟨#[112,114,111,99,101,115,115]⟩,[⟨#[102,111,114,107]⟩,⟨#[116,114,97,110,115,105,116,105,111,110]⟩,⟨#[100,121,110,116,114,97,110,115,105,116,105,111,110]⟩,⟨#[115,101,110,100]⟩]⟩,⟨⟨#[102,105,108,101]⟩,[⟨#[114,101,97,100]⟩,⟨#[119,114,105,116,101]⟩,⟨#[99,114,101,97,116,101]⟩,⟨#[117,110,108,105,110,107]⟩,⟨#[101,120,101,99,117,116,101]⟩,⟨#[101,110,116,114,121,112,111,105,110,116]⟩,⟨#[114,101,108,97,98,101,108,102,114,111,109]⟩,⟨#[114,101,108,97,98,101,108,116,111]⟩]⟩,⟨⟨#[100,105,114]⟩,[⟨#[114,101,97,100]⟩,⟨#[119,114,105,116,101]⟩,⟨#[99,114,101,97,116,101]⟩,⟨#[117,110,108,105,110,107]⟩,⟨#[97,100,100]⟩,⟨#[114,101,109,111,118,101]⟩,⟨#[114,101,108,97,98,101,108,102,114,111,109]⟩,⟨#[114,101,108,97,98,101,108,116,111]⟩]⟩],
 types:=[⟨⟨#[105,110,105,116,95,116]⟩,[],false⟩,⟨⟨#[117,115,101,114,95,116]⟩,[],false⟩,⟨⟨#[102,105,108,101,95,116]⟩,[],false⟩,⟨⟨#[115,104,101,108,108,95,116]⟩,[],false⟩],
 attrs:=[⟨⟨#[100,111,109,97,105,110]⟩,⟨3,0,0,0⟩⟩],
 roles:=[⟨⟨#[111,98,106,101,99,116,95,114]⟩,⟨0,0,0,0⟩,⟨0,0,0,0⟩⟩,⟨⟨#[115,121,115,116,101,109]⟩,⟨3,0,0,0⟩,⟨0,0,0,0⟩⟩],
 users:=[⟨⟨#[114,111,111,116]⟩,⟨2,0,0,0⟩,⟨0,0⟩,⟨⟨0,0⟩,⟨0,0⟩⟩⟩],
 bools:=[⟨⟨#[115,104,97,114,101]⟩,false⟩],
 aZ:=[⟨#[115,48]⟩],
 cats:=[],
 conds:=[.node 1 0 0 0 [] ⟨0,0,0,0⟩ []],
 rules:=[⟨1,⟨3,0,0,0⟩,⟨0,0,0,0⟩,true,0,9,0⟩,⟨1,⟨1,0,0,0⟩,⟨12,0,0,0⟩,false,1,17,0⟩,⟨1,⟨1,0,0,0⟩,⟨2,0,0,0⟩,false,0,2,0⟩,⟨1,⟨2,0,0,0⟩,⟨8,0,0,0⟩,false,1,32,0⟩,⟨1,⟨2,0,0,0⟩,⟨4,0,0,0⟩,false,1,1,1⟩],
 trans:=[⟨1,⟨1,0,0,0⟩,⟨8,0,0,0⟩,0,ByteArray.empty,1,0⟩],
 aN:=[],
 ranges:=[],
 cons:=[],
 bO:=[⟨⟨#[107,101,114,110,101,108]⟩,⟨0,1,0,⟨⟨0,0⟩,⟨0,0⟩⟩⟩⟩,⟨⟨#[114,111,111,116]⟩,⟨0,0,2,⟨⟨0,0⟩,⟨0,0⟩⟩⟩⟩,⟨⟨#[117,110,108,97,98,101,108,101,100]⟩,⟨0,0,2,⟨⟨0,0⟩,⟨0,0⟩⟩⟩⟩],
 files:=[],
 asserts:=[] }
def SB(g2 g3 g4 g5 g6 g9 g12 g15 g16 g17 g18 WT WS WR:Nat):List Bx:=[(WR,125,#[.string (⟨#[107,101,114,110,101,108]⟩),.int .i64 0,.int .i64 1,.int .i64 0,.int .i64 0,.int .u64 0,.int .i64 0,.int .u64 0,.string (⟨#[114,111,111,116]⟩),.int .i64 0,.int .i64 0,.int .i64 2,.int .i64 0,.int .u64 0,.int .i64 0,.int .u64 0,.string (⟨#[117,110,108,97,98,101,108,101,100]⟩),.int .i64 0,.int .i64 0,.int .i64 2,.int .i64 0,.int .u64 0,.int .i64 0,.int .u64 0]),
 (WS,84,#[.int .i64 1,.int .u64 1,.int .u64 0,.int .u64 0,.int .u64 0,.int .u64 8,.int .u64 0,.int .u64 0,.int .u64 0,.int .i64 0,.string ByteArray.empty,.int .i64 1,.int .i64 0]),
 (WT,56,#[.int .i64 1,.int .u64 3,.int .u64 0,.int .u64 0,.int .u64 0,.int .u64 0,.int .u64 0,.int .u64 0,.int .u64 0,.bool true,.int .i64 0,.int .u32 9,.int .i64 0,.int .i64 1,.int .u64 1,.int .u64 0,.int .u64 0,.int .u64 0,.int .u64 12,.int .u64 0,.int .u64 0,.int .u64 0,.bool false,.int .i64 1,.int .u32 17,.int .i64 0,.int .i64 1,.int .u64 1,.int .u64 0,.int .u64 0,.int .u64 0,.int .u64 2,.int .u64 0,.int .u64 0,.int .u64 0,.bool false,.int .i64 0,.int .u32 2,.int .i64 0,.int .i64 1,.int .u64 2,.int .u64 0,.int .u64 0,.int .u64 0,.int .u64 8,.int .u64 0,.int .u64 0,.int .u64 0,.bool false,.int .i64 1,.int .u32 32,.int .i64 0,.int .i64 1,.int .u64 2,.int .u64 0,.int .u64 0,.int .u64 0,.int .u64 4,.int .u64 0,.int .u64 0,.int .u64 0,.bool false,.int .i64 1,.int .u32 1,.int .i64 1]),
 (g18,89,#[.int .i64 1,.int .i64 0,.int .i64 0,.int .i64 0,.slice none 0 0,.int .u64 0,.int .u64 0,.int .u64 0,.int .u64 0,.slice none 0 0]),
 (g17,9,#[.string (⟨#[115,48]⟩)]),
 (g16,197,#[.string (⟨#[115,104,97,114,101]⟩),.bool false]),
 (g15,192,#[.string (⟨#[114,111,111,116]⟩),.int .u64 2,.int .u64 0,.int .u64 0,.int .u64 0,.int .i64 0,.int .u64 0,.int .i64 0,.int .u64 0,.int .i64 0,.int .u64 0]),
 (g12,188,#[.string (⟨#[111,98,106,101,99,116,95,114]⟩),.int .u64 0,.int .u64 0,.int .u64 0,.int .u64 0,.int .u64 0,.int .u64 0,.int .u64 0,.int .u64 0,.string (⟨#[115,121,115,116,101,109]⟩),.int .u64 3,.int .u64 0,.int .u64 0,.int .u64 0,.int .u64 0,.int .u64 0,.int .u64 0,.int .u64 0]),
 (g9,184,#[.string (⟨#[100,111,109,97,105,110]⟩),.int .u64 3,.int .u64 0,.int .u64 0,.int .u64 0]),
 (g6,86,#[.string (⟨#[105,110,105,116,95,116]⟩),.slice none 0 0,.bool false,.string (⟨#[117,115,101,114,95,116]⟩),.slice none 0 0,.bool false,.string (⟨#[102,105,108,101,95,116]⟩),.slice none 0 0,.bool false,.string (⟨#[115,104,101,108,108,95,116]⟩),.slice none 0 0,.bool false]),
 (g5,180,#[.string (⟨#[112,114,111,99,101,115,115]⟩),.slice (some ⟨g4,0,none⟩) 4 4,.string (⟨#[102,105,108,101]⟩),.slice (some ⟨g2,0,none⟩) 8 8,.string (⟨#[100,105,114]⟩),.slice (some ⟨g3,0,none⟩) 8 8]),
 (g4,9,#[.string (⟨#[102,111,114,107]⟩),.string (⟨#[116,114,97,110,115,105,116,105,111,110]⟩),.string (⟨#[100,121,110,116,114,97,110,115,105,116,105,111,110]⟩),.string (⟨#[115,101,110,100]⟩)]),
 (g3,9,#[.string (⟨#[114,101,97,100]⟩),.string (⟨#[119,114,105,116,101]⟩),.string (⟨#[99,114,101,97,116,101]⟩),.string (⟨#[117,110,108,105,110,107]⟩),.string (⟨#[97,100,100]⟩),.string (⟨#[114,101,109,111,118,101]⟩),.string (⟨#[114,101,108,97,98,101,108,102,114,111,109]⟩),.string (⟨#[114,101,108,97,98,101,108,116,111]⟩)]),
 (g2,9,#[.string (⟨#[114,101,97,100]⟩),.string (⟨#[119,114,105,116,101]⟩),.string (⟨#[99,114,101,97,116,101]⟩),.string (⟨#[117,110,108,105,110,107]⟩),.string (⟨#[101,120,101,99,117,116,101]⟩),.string (⟨#[101,110,116,114,121,112,111,105,110,116]⟩),.string (⟨#[114,101,108,97,98,101,108,102,114,111,109]⟩),.string (⟨#[114,101,108,97,98,101,108,116,111]⟩)])]
theorem LO{B:Nat}{w0 w:World}{rs:List Rw}{g2 g3 g4 g5 g6 g9 g12 g15 g16 g17 g18 WT WS WR:Nat}(M:aY B w0 w (SB g2 g3 g4 g5 g6 g9 g12 g15 g16 g17 g18 WT WS WR) rs):aM w (.slice (some ⟨g5,0,none⟩) 3 3) (.slice (some ⟨g6,0,none⟩) 4 4) (.slice (some ⟨g9,0,none⟩) 1 1) (.slice (some ⟨g12,0,none⟩) 2 2) (.slice (some ⟨g15,0,none⟩) 1 1) (.slice (some ⟨g16,0,none⟩) 1 1) (.slice (some ⟨g17,0,none⟩) 1 1) (.slice none 0 0) (.slice (some ⟨g18,0,none⟩) 1 1) (.slice (some ⟨WT,0,none⟩) 5 5) (.slice (some ⟨WS,0,none⟩) 1 1) (.slice none 0 0) (.slice none 0 0) (.slice none 0 0) (.slice (some ⟨WR,0,none⟩) 3 3) (.slice none 0 0) (.slice none 0 0) zD:=
 ⟨⟨[[.string (⟨#[112,114,111,99,101,115,115]⟩),.slice (some ⟨g4,0,none⟩) 4 4],[.string (⟨#[102,105,108,101]⟩),.slice (some ⟨g2,0,none⟩) 8 8],[.string (⟨#[100,105,114]⟩),.slice (some ⟨g3,0,none⟩) 8 8]],rfl,by simp,(M.slice 10 rfl rfl rfl (by simp[maxLen])),Oz ⟨⟨_,rfl,(M.slice 11 rfl rfl rfl (by simp[maxLen]))⟩,⟨_,rfl,(M.slice 13 rfl rfl rfl (by simp[maxLen]))⟩,⟨_,rfl,(M.slice 12 rfl rfl rfl (by simp[maxLen]))⟩,trivial⟩⟩,
  ⟨[[.string (⟨#[105,110,105,116,95,116]⟩),.slice none 0 0,.bool false],[.string (⟨#[117,115,101,114,95,116]⟩),.slice none 0 0,.bool false],[.string (⟨#[102,105,108,101,95,116]⟩),.slice none 0 0,.bool false],[.string (⟨#[115,104,101,108,108,95,116]⟩),.slice none 0 0,.bool false]],rfl,by simp,(M.slice 9 rfl rfl rfl (by simp[maxLen])),Oz ⟨⟨_,rfl,(SliceAt.nil _ 1)⟩,⟨_,rfl,(SliceAt.nil _ 1)⟩,⟨_,rfl,(SliceAt.nil _ 1)⟩,⟨_,rfl,(SliceAt.nil _ 1)⟩,trivial⟩⟩,
  (M.slice 8 rfl rfl rfl (by simp[maxLen])),
  (M.slice 7 rfl rfl rfl (by simp[maxLen])),
  (M.slice 6 rfl rfl rfl (by simp[maxLen])),
  (M.slice 5 rfl rfl rfl (by simp[maxLen])),
  (M.slice 4 rfl rfl rfl (by simp[maxLen])),
  (SliceAt.nil _ 1),
  ⟨[[.int .i64 1,.int .i64 0,.int .i64 0,.int .i64 0,.slice none 0 0,.int .u64 0,.int .u64 0,.int .u64 0,.int .u64 0,.slice none 0 0]],rfl,by simp,(M.slice 3 rfl rfl rfl (by simp[maxLen])),Oz ⟨bf.node (names:=[]) (kids:=[]) (set:=⟨0,0,0,0⟩) (SliceAt.nil _ 1) (es:=[]) rfl (by simp) (SliceAt.nil _ 10) (by simp),trivial⟩⟩,
  (M.slice 2 rfl rfl rfl (by simp[maxLen])),
  (M.slice 1 rfl rfl rfl (by simp[maxLen])),
  (SliceAt.nil _ 10),
  (SliceAt.nil _ 13),
  XR,
  (M.slice 0 rfl rfl rfl (by simp[maxLen])),
  (SliceAt.nil _ 9),
  (SliceAt.nil _ 10)⟩
theorem LP(w0:World):Calls Tryz.prog 65 #[] w0 fun r w'=>∃ v,r=.returned v∧∃ g2 g3 g4 g5 g6 g9 g12 g15 g16 g17 g18 WT WS WR:Nat,v=.agg #[.slice (some ⟨g5,0,none⟩) 3 3,.slice (some ⟨g6,0,none⟩) 4 4,.slice (some ⟨g9,0,none⟩) 1 1,.slice (some ⟨g12,0,none⟩) 2 2,.slice (some ⟨g15,0,none⟩) 1 1,.slice (some ⟨g16,0,none⟩) 1 1,.slice (some ⟨g17,0,none⟩) 1 1,.slice none 0 0,.slice (some ⟨g18,0,none⟩) 1 1,.slice (some ⟨WT,0,none⟩) 5 5,.slice (some ⟨WS,0,none⟩) 1 1,.slice none 0 0,.slice none 0 0,.slice none 0 0,.slice (some ⟨WR,0,none⟩) 3 3,.slice none 0 0,.slice none 0 0]∧aY w0.heap.size w0 w' (SB g2 g3 g4 g5 g6 g9 g12 g15 g16 g17 g18 WT WS WR) []:=by
 refine cL [] (fn:=Tryz.f65) Tryz.func65 rfl Tryz.ntmps65 rfl<|ei<|an nu fun g1 w1 M1=>fun g2 w2 M2=>fun g3 w3 M3=>fun g4 w4 M4=>
  ei (x:=.agg #[.string (⟨#[112,114,111,99,101,115,115]⟩),.slice (some ⟨g4,0,none⟩) 4 4])<|an (bd (by kernel_rfl))<|
  ei (x:=.agg #[.string (⟨#[102,105,108,101]⟩),.slice (some ⟨g2,0,none⟩) 8 8])<|an (bd (by kernel_rfl))<|
  ei (x:=.agg #[.string (⟨#[100,105,114]⟩),.slice (some ⟨g3,0,none⟩) 8 8])<|an (bd (by kernel_rfl))<|
  fun g5 w5 M5=>
  ei (x:=.agg #[.string (⟨#[105,110,105,116,95,116]⟩),.slice none 0 0,.bool false])<|an (bd (by kernel_rfl))<|
  ei (x:=.agg #[.string (⟨#[117,115,101,114,95,116]⟩),.slice none 0 0,.bool false])<|an (bd (by kernel_rfl))<|
  ei (x:=.agg #[.string (⟨#[102,105,108,101,95,116]⟩),.slice none 0 0,.bool false])<|an (bd (by kernel_rfl))<|
  ei (x:=.agg #[.string (⟨#[115,104,101,108,108,95,116]⟩),.slice none 0 0,.bool false])<|an (bd (by kernel_rfl))<|
  fun g6 w6 M6=>
  fun g7 w7 M7=>
  cl<|an (uf M7 0 (l:=[0,1]) (x:=3) rfl rfl) fun w8 M8=>
  ei (x:=.agg #[.string (⟨#[100,111,109,97,105,110]⟩),.int .u64 3,.int .u64 0,.int .u64 0,.int .u64 0])<|an (bd (by kernel_rfl))<|
  fun g9 w9 M9=>
  ei (x:=.agg #[.string (⟨#[111,98,106,101,99,116,95,114]⟩),.int .u64 0,.int .u64 0,.int .u64 0,.int .u64 0,.int .u64 0,.int .u64 0,.int .u64 0,.int .u64 0])<|an (bd (by kernel_rfl))<|
  fun g10 tS nr=>
  cl<|an (uf nr 0 (l:=[0,1]) (x:=3) rfl rfl) fun Dw M11=>
  ei (x:=.agg #[.string (⟨#[115,121,115,116,101,109]⟩),.int .u64 3,.int .u64 0,.int .u64 0,.int .u64 0,.int .u64 0,.int .u64 0,.int .u64 0,.int .u64 0])<|an (bd (by kernel_rfl))<|
  fun g12 He Dr=>
  fun g13 KE vI=>
  cl<|an (uf vI 0 (l:=[1]) (x:=2) rfl rfl) fun Te Hl=>
  ei (x:=.agg #[.string (⟨#[114,111,111,116]⟩),.int .u64 2,.int .u64 0,.int .u64 0,.int .u64 0,.int .i64 0,.int .u64 0,.int .i64 0,.int .u64 0,.int .i64 0,.int .u64 0])<|an (bd (by kernel_rfl))<|
  fun g15 Ob Eu=>
  ei (x:=.agg #[.string (⟨#[115,104,97,114,101]⟩),.bool false])<|an (bd (by kernel_rfl))<|
  fun g16 W_ KL=>
  fun g17 W9 WE=>
  ei (x:=.agg #[.int .i64 1,.int .i64 0,.int .i64 0,.int .i64 0,.slice none 0 0,.int .u64 0,.int .u64 0,.int .u64 0,.int .u64 0,.slice none 0 0])<|an (bd (by kernel_rfl))<|
  fun g18 w18 WD=>
  fun g19 w19 YS=>
  cl<|an (uf YS 0 (l:=[0,1]) (x:=3) rfl rfl) fun w20 M20=>
  ei (x:=.agg #[.int .i64 1,.int .u64 3,.int .u64 0,.int .u64 0,.int .u64 0,.int .u64 0,.int .u64 0,.int .u64 0,.int .u64 0,.bool true,.int .i64 0,.int .u32 9,.int .i64 0])<|an (bd (by kernel_rfl))<|
  fun g21 w21 M21=>
  cl<|an (uf M21 0 (l:=[0]) (x:=1) rfl rfl) fun w22 Z4=>
  fun g23 w23 M23=>
  cl<|an (uf M23 0 (l:=[2,3]) (x:=12) rfl rfl) fun w24 M24=>
  ei (x:=.agg #[.int .i64 1,.int .u64 1,.int .u64 0,.int .u64 0,.int .u64 0,.int .u64 12,.int .u64 0,.int .u64 0,.int .u64 0,.bool false,.int .i64 1,.int .u32 17,.int .i64 0])<|an (bd (by kernel_rfl))<|
  fun g25 w25 M25=>
  cl<|an (uf M25 0 (l:=[0]) (x:=1) rfl rfl) fun w26 M26=>
  fun g27 w27 M27=>
  cl<|an (uf M27 0 (l:=[1]) (x:=2) rfl rfl) fun w28 M28=>
  ei (x:=.agg #[.int .i64 1,.int .u64 1,.int .u64 0,.int .u64 0,.int .u64 0,.int .u64 2,.int .u64 0,.int .u64 0,.int .u64 0,.bool false,.int .i64 0,.int .u32 2,.int .i64 0])<|an (bd (by kernel_rfl))<|
  fun g29 w29 M29=>
  cl<|an (uf M29 0 (l:=[1]) (x:=2) rfl rfl) fun w30 M30=>
  fun g31 w31 M31=>
  cl<|an (uf M31 0 (l:=[3]) (x:=8) rfl rfl) fun w32 M32=>
  ei (x:=.agg #[.int .i64 1,.int .u64 2,.int .u64 0,.int .u64 0,.int .u64 0,.int .u64 8,.int .u64 0,.int .u64 0,.int .u64 0,.bool false,.int .i64 1,.int .u32 32,.int .i64 0])<|an (bd (by kernel_rfl))<|
  fun g33 w33 M33=>
  cl<|an (uf M33 0 (l:=[1]) (x:=2) rfl rfl) fun w34 M34=>
  fun g35 w35 M35=>
  cl<|an (uf M35 0 (l:=[2]) (x:=4) rfl rfl) fun w36 M36=>
  ei (x:=.agg #[.int .i64 1,.int .u64 2,.int .u64 0,.int .u64 0,.int .u64 0,.int .u64 4,.int .u64 0,.int .u64 0,.int .u64 0,.bool false,.int .i64 1,.int .u32 1,.int .i64 1])<|an (bd (by kernel_rfl))<|
  fun WT w37 M37=>
  fun g38 w38 M38=>
  cl<|an (uf M38 0 (l:=[0]) (x:=1) rfl rfl) fun w39 M39=>
  fun g40 w40 M40=>
  cl<|an (uf M40 0 (l:=[3]) (x:=8) rfl rfl) fun w41 M41=>
  ei (x:=.agg #[.int .i64 1,.int .u64 1,.int .u64 0,.int .u64 0,.int .u64 0,.int .u64 8,.int .u64 0,.int .u64 0,.int .u64 0,.int .i64 0,.string ByteArray.empty,.int .i64 1,.int .i64 0])<|an (bd (by kernel_rfl))<|
  fun WS w42 M42=>
  cl<|an (MS w42) fun w43 M43=>
  ei (x:=.agg #[.string (⟨#[107,101,114,110,101,108]⟩),.int .i64 0,.int .i64 1,.int .i64 0,.int .i64 0,.int .u64 0,.int .i64 0,.int .u64 0])<|an (bd (by kernel_rfl))<|
  cl<|an (BP w43) fun w44 M44=>
  ei (x:=.agg #[.string (⟨#[114,111,111,116]⟩),.int .i64 0,.int .i64 0,.int .i64 2,.int .i64 0,.int .u64 0,.int .i64 0,.int .u64 0])<|an (bd (by kernel_rfl))<|
  cl<|an (BP w44) fun w45 M45=>
  ei (x:=.agg #[.string (⟨#[117,110,108,97,98,101,108,101,100]⟩),.int .i64 0,.int .i64 0,.int .i64 2,.int .i64 0,.int .u64 0,.int .i64 0,.int .u64 0])<|an (bd (by kernel_rfl))<|
  fun WR w46 M46=>
  ei (x:=.agg #[.slice (some ⟨g5,0,none⟩) 3 3,.slice (some ⟨g6,0,none⟩) 4 4,.slice (some ⟨g9,0,none⟩) 1 1,.slice (some ⟨g12,0,none⟩) 2 2,.slice (some ⟨g15,0,none⟩) 1 1,.slice (some ⟨g16,0,none⟩) 1 1,.slice (some ⟨g17,0,none⟩) 1 1,.slice none 0 0,.slice (some ⟨g18,0,none⟩) 1 1,.slice (some ⟨WT,0,none⟩) 5 5,.slice (some ⟨WS,0,none⟩) 1 1,.slice none 0 0,.slice none 0 0,.slice none 0 0,.slice (some ⟨WR,0,none⟩) 3 3,.slice none 0 0,.slice none 0 0])<|an (bd (by kernel_rfl))<|
  lb 28<|an ⟨rfl,rfl⟩ fun w M=>?_
 exact ei (x:=28)<|an rfl fun M=>⟨_,rfl,g2,g3,g4,g5,g6,g9,g12,g15,g16,g17,g18,WT,WS,WR,rfl,M.only (.cons_cons _<|(.cons_cons _<|(.cons _<|(.cons _<|(.cons_cons _<|(.cons _<|(.cons _<|(.cons _<|(.cons _<|(.cons _<|(.cons _<|(.cons _<|(.cons _<|(.cons _<|(.cons_cons _<|(.cons_cons _<|(.cons_cons _<|(.cons_cons _<|(.cons _<|(.cons_cons _<|(.cons _<|(.cons_cons _<|(.cons _<|(.cons_cons _<|(.cons_cons _<|(.cons_cons _<|(.cons_cons _<|(.cons_cons _<|(.cons _<|.refl []))))))))))))))))))))))))))))) (.refl _)⟩
def ez:aC:={ zD with rules:=[⟨1,⟨1,0,0,0⟩,⟨2,0,0,0⟩,false,1,1,0⟩,⟨1,⟨1,0,0,0⟩,⟨2,0,0,0⟩,false,1,2,0⟩,⟨1,⟨1,0,0,0⟩,⟨4,0,0,0⟩,false,1,3,0⟩,⟨1,⟨1,0,0,0⟩,⟨4,0,0,0⟩,false,1,1,1⟩] }
def GZ:aC:={ ez with rules:=ez.rules.take 3 }
def CD:aC:={ ez with rules:=[⟨1,⟨1,0,0,0⟩,⟨6,0,0,0⟩,false,1,3,0⟩] }
def G0:aC:={ CD with conds:=[] }
theorem RR:ze ez=[3]:=by kernel_rfl
theorem YO:aQ ez=ez:=by kernel_rfl
theorem PB:Sn (aQ ez) (wz (aQ ez))=GZ:=by kernel_rfl
theorem YN:wk GZ=CD:=by kernel_rfl
theorem YM:aaM ez=G0:=by kernel_rfl
theorem YL:yh ez G0=true:=by kernel_rfl
instance (n:Nat):Decidable (pO n):=inferInstanceAs (Decidable (_≤_))
instance (s:ByteArray):Decidable (dF s):=inferInstanceAs (Decidable (_≤_))
instance (n:Int):Decidable (iR n):=inferInstanceAs (Decidable (_∧_))
instance (n:Int):Decidable (PG n):=inferInstanceAs (Decidable (_∧_))
instance (n:Nat):Decidable (zl n):=inferInstanceAs (Decidable (_<_))
theorem vg:ez.Ok:=by
 repeat' (first|decide|refine List.forall_mem_cons.2 ⟨?_,?_⟩|exact List.forall_mem_nil _|constructor)
theorem Kv:pF ez:=by
 repeat' (first|decide|refine List.forall_mem_cons.2 ⟨?_,?_⟩|exact List.forall_mem_nil _|constructor)
theorem RT:GZ.Ok:=by
 repeat' (first|decide|refine List.forall_mem_cons.2 ⟨?_,?_⟩|exact List.forall_mem_nil _|constructor)
theorem RS:pF GZ:=by
 repeat' (first|decide|refine List.forall_mem_cons.2 ⟨?_,?_⟩|exact List.forall_mem_nil _|constructor)
theorem RX:CD.Ok:=by
 repeat' (first|decide|refine List.forall_mem_cons.2 ⟨?_,?_⟩|exact List.forall_mem_nil _|constructor)
theorem RW:pF CD:=by
 repeat' (first|decide|refine List.forall_mem_cons.2 ⟨?_,?_⟩|exact List.forall_mem_nil _|constructor)
theorem RU:G0.Ok:=by
 repeat' (first|decide|refine List.forall_mem_cons.2 ⟨?_,?_⟩|exact List.forall_mem_nil _|constructor)
theorem Kw(p:aC)(hb:p.bools=zD.bools)(hc:p.conds=zD.conds):∀ e∈p.conds,∃ d,d≤12∧eX d (aI p.bools e)∧(dh (aI p.bools e)).length≤5:=by
 rw[hb,hc];intro e he;obtain rfl:=avn.1 he;exact⟨1,by decide,.name (by kernel_rfl) (by decide),by decide +kernel⟩
theorem Wy:YV ez:=⟨vg,Kv,by decide,by decide,by repeat' (first|decide|refine List.forall_mem_cons.2 ⟨?_,?_⟩|exact List.forall_mem_nil _|constructor),by repeat' (first|decide|refine List.forall_mem_cons.2 ⟨?_,?_⟩|exact List.forall_mem_nil _|constructor),Kw _ rfl rfl,by decide,by decide⟩
theorem RY:YV CD:=⟨RX,RW,by decide,by decide,by repeat' (first|decide|refine List.forall_mem_cons.2 ⟨?_,?_⟩|exact List.forall_mem_nil _|constructor),by repeat' (first|decide|refine List.forall_mem_cons.2 ⟨?_,?_⟩|exact List.forall_mem_nil _|constructor),Kw _ rfl rfl,by decide,by decide⟩
end Go.Proofs.YtdcofoaihmongaaGreat

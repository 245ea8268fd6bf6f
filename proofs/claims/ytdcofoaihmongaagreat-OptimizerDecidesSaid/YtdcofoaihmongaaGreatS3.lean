import Derived.Laws.Bits64b
import Derived.Laws.BitsLemmas
import Derived.Test.YtdcofoaihmongaaGreatS2
open Bool renaming and_eq_true→asu,eq_iff_iff→asx
open Go renaming cell_later→asj,wp_seq_k→asn,wpList_nil→aso,wp_block→asp,wp_cond_split→asq
open Go.Lib renaming hid→asz
open Go.RowKit renaming Below→ar6
open List renaming mem_append→ar4,mem_singleton→ar5,mem_cons→ar7,mem_map→ar8,length_map→ar9,getElem?_map→ar_,mem_of_getElem?→asa,getElem?_eq_some_iff→asc,all_eq_true→asd,take_length→ase,map_append→asf,getElem?_eq_getElem→ash,length_append→asi,flatMap_append→asl,filterMap_append→asr,getD_eq_getElem?_getD→asv
open Nat renaming le_trans→asb,zero_le→asg,mul_le_mul_right→asw
open Option.some renaming inj→asy
set_option maxRecDepth 100000
set_option maxHeartbeats 8000000
namespace Go.Proofs.YtdcofoaihmongaaGreat
open Go Go.RowKit
def lV(z:(aj×Int)×Nat):List Value:=z.1.1.cells++[.slice (some ⟨z.2,0,none⟩) 1 1]
theorem vV(z:(aj×Int)×Nat):(lV z).length=14:=rfl
def bV{α:Type}(w:World)(base:Nat)(N:List ((α×Int)×Nat)):Prop:=∀ z∈N,Whole w z.2 52 #[.int .u64 z.1.2]∧base≤z.2
theorem bV.snoc{α:Type}{w:World}{base g:Nat}{N:List ((α×Int)×Nat)}{y:α×Int}(h:bV w base N)(hw:Whole w g 52 #[.int .u64 y.2])(hg:base≤g):bV w base (N++[(y,g)]):=fun z hz=>by
 rcases ar4.1 hz with h1|h1
 ·exact h z h1
 ·rw[ar5.1 h1];exact⟨hw,hg⟩
theorem bV.keep{α:Type}{w w':World}{base:Nat}{N:List ((α×Int)×Nat)}(h:bV w base N)(hb:ar6 w.heap.size w w'):bV w' base N:=fun z hz=>⟨Whole.under hb (h z hz).1 (h z hz).1.lt,(h z hz).2⟩
theorem Dj(N:List ((aj×Int)×Nat)):∀ u∈N.flatMap lV,u.oneCell'=true:=fun u hu=>by
 obtain⟨z,-,hz⟩:=List.mem_flatMap.1 hu;simp only[lV,aj.cells,ar4,ar7,List.not_mem_nil,or_false] at hz;rcases hz with(rfl|rfl|rfl|rfl|rfl|rfl|rfl|rfl|rfl|rfl|rfl|rfl|rfl)|rfl<;>rfl
theorem Ld{w:World}{base b n:Nat}{v:Value}{N:List ((aj×Int)×Nat)}(ho:w.ownsRow b 146 14 v n (N.flatMap lV))(hn:n=N.length)(hN:bV w base N):fU w base v (N.map (·.1)):=by
 subst hn;refine⟨N.map lV,by simp,fun x hx=>?_,?_,fun i x y hx hy=>?_⟩
 ·obtain⟨z,-,rfl⟩:=ar8.1 hx;exact vV z
 ·rw[← List.flatMap_def,ar9];exact SliceAt.bR ho (Dj N)
 ·rw[ar_] at hx hy
  cases hz:N[i]? with
  | none=>rw[hz] at hx;simp at hx
  | some z=>
   rw[hz] at hx hy;simp only[Option.map_some,Option.some.injEq] at hx hy;subst hx hy;obtain⟨h1,h2⟩:=hN z (asa hz);exact⟨_,rfl,z.2,rfl,h1,h2⟩
theorem kR{w:World}{base e k n:Nat}{v:Value}{xs:List Value}(h:w.ownsRow base e k v n xs):∃ a c,v=.slice a n c∧n≤c∧n≤9223372036854775807:=by
 rcases h.2 with⟨rfl,rfl⟩|⟨g,cap,cur,rfl,-,-,h1,h2,-⟩
 ·exact⟨none,0,rfl,Nat.le_refl _,by decide⟩
 ·exact⟨_,_,rfl,h1,asb h1 h2⟩
theorem NC{α:Type}{w:World}{base e k n c:Nat}{a:Option Addr}{f:α→List Value}{l:List α}(h:w.ownsRow base e k (.slice a n c) n (l.flatMap f))(hf:∀ x,(f x).length=k){m:Nat}{y:α}(hy:l[m]?=some y)(_:0<k)(hn:n=l.length):
 ∃ g,a=some ⟨g,0,none⟩∧∀ j uu,(f y)[j]?=some uu→w.cell? ⟨g,0+m*k+j,none⟩=some uu:=by
 have hm:=(asc.1 hy).1;obtain⟨g,cap,cur,hv,-,-,-⟩:=tS h (by omega);injection hv with e1 e2 e3;refine⟨g,e1,fun j u hu=>?_⟩;have hj:j<k:=by rw[← hf y];exact(asc.1 hu).1
 have:=h.cells (g:=g) (by rw[e1];rfl) (m*k+j) u (by rw[lX hf hy j hj];exact hu);rw[Addr.add_lit] at this;simpa using this
theorem QM:∀ k:Nat,k<32→IntKind.u32.wrap (mK k*2^((1:Int)).toNat)=mK (k+1):=by decide
theorem Xy:∀ k:Nat,k<32→decide (mK k=0)=false:=by decide
theorem Va:mK 32=0:=by decide
theorem Vh{α:Type}{p:α→Bool}{l:List α}{m:Nat}{y:α}(hy:l[m]?=some y)(h:(l.take m).all p=true)(hp:p y=true):(l.take (m+1)).all p=true:=by
 rw[bf hy,List.all_append,h];simp[hp]
theorem Vg{α:Type}{p:α→Bool}{l:List α}{m:Nat}{y:α}(hy:l[m]?=some y)(hp:p y=false):l.all p=false:=by
 rw[Bool.eq_false_iff];intro h;have:=asd.1 h y (asa hy);rw[hp] at this;cases this
theorem KG{p:Nat→Bool}{k:Nat}(h:(List.range k).all p=true)(hp:p k=true):(List.range (k+1)).all p=true:=by
 rw[List.range_succ,List.all_append,h];simp[hp]
theorem KF{p:Nat→Bool}{k n:Nat}(hk:k<n)(hp:p k=false):(List.range n).all p=false:=by
 rw[Bool.eq_false_iff];intro h;have:=asd.1 h k (List.mem_range.2 hk);rw[hp] at this;cases this
theorem Xn{x:aj×Int}{l near:List (aj×Int)}{m:Nat}(hn:near=l.filter fun y=>kU x.1 y.1)(hm:m=x.1.pairs.length)(h:((x.1.pairs.take m).all fun p=>(List.range 32).all fun k=>!Ji x near p.1 p.2 k)=true):true=iz x l:=by
 subst hm hn;rw[ase] at h;unfold iz;rw[h,Bool.or_true]
theorem aa1{x:aj×Int}{l near:List (aj×Int)}{m k:Nat}{p:Nat×Nat}(hn:near=l.filter fun y=>kU x.1 y.1)(hp:x.1.pairs[m]?=some p)(hk:k<32)(hx:decide (x.2=0)=false)(hb:Ji x near p.1 p.2 k=true):false=iz x l:=by
 subst hn;unfold iz;rw[hx,Bool.false_or];refine(Vg hp ?_).symm;exact KF hk (by rw[hb];rfl)
theorem SY{x:aj}{l:List (aj×Int)}{N:List ((aj×Int)×Nat)}{m g:Nat}{y:aj×Int}(hy:l[m]?=some y)(h:N.map (·.1)=(l.take m).filter fun y=>kU x y.1)(hq:kU x y.1=true):(N++[(y,g)]).map (·.1)=(l.take (m+1)).filter fun y=>kU x y.1:=by
 rw[bf hy,List.filter_append,← h,asf];simp[hq]
theorem Wz{x:aj}{l:List (aj×Int)}{N:List ((aj×Int)×Nat)}{m:Nat}{y:aj×Int}(hy:l[m]?=some y)(h:N.map (·.1)=(l.take m).filter fun y=>kU x y.1)(hq:kU x y.1=false):N.map (·.1)=(l.take (m+1)).filter fun y=>kU x y.1:=by
 rw[bf hy,List.filter_append,← h];simp[hq]
theorem P8(l:List Nat):ints l=l.flatMap fun x:Nat=>[Value.int .i64 (x:Int)]:=by unfold ints;induction l<;>simp_all
theorem TG{w:World}{base n c:Nat}{a:Option Addr}{l:List Nat}(h:w.ownsRow base 3 1 (.slice a n c) n (ints l)){m y:Nat}(hy:l[m]?=some y)(hn:n=l.length):∃ g,a=some ⟨g,0,none⟩∧w.cell? ⟨g,0+m*1,none⟩=some (.int .i64 (y:Int)):=by
 obtain⟨g,e,hc⟩:=NC (k:=1) (f:=fun x:Nat=>[Value.int .i64 (x:Int)]) (l:=l) (by rw[← P8];exact h) (fun _=>rfl) hy (by decide) hn;exact⟨g,e,hc 0 _ rfl⟩
theorem Pr(w0:World)(r:aj)(hr:r.Ok):Calls Tryz.prog 59 #[.agg #[.int .i64 r.kind,.int .u64 r.src.a,.int .u64 r.src.b,.int .u64 r.src.c,.int .u64 r.src.d,.int .u64 r.tgt.a,.int .u64 r.tgt.b,.int .u64 r.tgt.c,.int .u64 r.tgt.d,.bool r.self,.int .i64 r.cls,.int .u32 r.perms,.int .i64 r.cond]] w0 fun e w'=>∃ v,e=.returned v∧(w'.ownsRow w0.heap.size 111 2 v r.pairs.length (iF r.pairs)∧ar6 w0.heap.size w0 w'):=by
 refine bX [] (fn:=Tryz.f59) Tryz.func59 rfl Tryz.ntmps59 rfl<|fun g1 w1 M1=>lb 0<|an rfl<|cw M1 (AP _ r.src hr.src) fun u1 w2 M2=>?_
 obtain⟨a1,c1,rfl,-,-⟩:=kR (v:=u1) (n:=(elems r.src).length) (M2.r 0 rfl);have hn1:(elems r.src).length≤256:=lY _ _;refine lq (ι:=Nat×Value) (fun(k,u)=>[(3,u),(13,.int .i64 (k:Int))]) (fun(k,u)=>⟨u,111,2,(r.eA ((elems r.src).take k)).length,iF (r.eA ((elems r.src).take k))⟩::_) (fun(k,u) _=>k≤(elems r.src).length) (fun(k,u)=>(elems r.src).length-k) (0,.slice none 0 0) (an ⟨⟨rfl,rfl,trivial⟩,fun M=>⟨M.cL 111 2,asg _⟩⟩ ?_);rintro⟨k,u⟩ w M hk;refine an (fun h=>?_) fun h=>?_
 ·have hlt:k<(elems r.src).length:=by simp at h;omega
  obtain⟨s,hs⟩:∃ s,(elems r.src)[k]?=some s:=⟨_,ash hlt⟩;obtain⟨g,e,hc⟩:=TG (M.r 1 rfl) hs rfl;have hP:=G7 r ((elems r.src).take k);have hP2:=List.length_take_le k (elems r.src);have WQ:=bf hs;refine ia<|an ⟨e,rfl,hlt⟩<|lc (x:=.int .i64 (s:Int))<|an hc<|lb 0<|an rfl<|ei<|an sV fun g2 w3 M3=>lb 0<|an ⟨rfl,rfl⟩ fun w4 M4=>lb 1<|an rfl<|?_
  have hT:elems (r.tgts s)=if r.self=true then elems (r.tgt.with s) else elems r.tgt:=by unfold aj.tgts;split<;>rfl
  refine an (fun hf=>?_) fun hf=>?_
  rw[if_pos hf] at hT;refine lb 0<|an rfl<|cl<|an (abX _ r.tgt hr.tgt s) fun w5 M5=>lb 0<|an ⟨rfl,rfl⟩ fun w6 M6=>lb 0<|an rfl<|cw M6 (AP _ (r.tgt.with s) (ay.DV hr.tgt s)) fun u2 w7 M7=>?_
  obtain⟨a2,c2,rfl,-,-⟩:=kR (v:=u2) (n:=(elems (r.tgt.with s)).length) (M7.r 0 rfl);generalize elems (r.tgt.with s)=l2 at *
  rotate_left
  rw[if_neg (by rw[hf];decide)] at hT;refine lb 0<|an rfl<|cw M4 (AP _ r.tgt hr.tgt) fun u2 w7 M7=>?_
  obtain⟨a2,c2,rfl,-,-⟩:=kR (v:=u2) (n:=(elems r.tgt).length) (M7.r 0 rfl);generalize elems r.tgt=l2 at *
  all_goals
   subst hT;have hn2:(elems (r.tgts s)).length≤256:=lY _ _;refine lq (ι:=Nat×Value) (fun(q,u)=>[(3,u),(27,.int .i64 (q:Int))]) (fun(q,u)=>[_,⟨u,111,2,(r.eA ((elems r.src).take k)).length+q,iF (r.eA ((elems r.src).take k))++iF (((elems (r.tgts s)).take q).map fun t=>(s,t))⟩,_]) (fun(q,u) _=>q≤(elems (r.tgts s)).length) (fun(q,u)=>(elems (r.tgts s)).length-q) (0,u) (an ⟨⟨rfl,rfl,trivial⟩,fun M=>⟨M.cast rfl (by dsimp only;rw[List.take_zero,List.map_nil,show iF []=[] from rfl,List.append_nil,Nat.add_zero]),asg _⟩⟩ ?_);rintro⟨q,u⟩ w M hq;refine an (fun h=>?_) fun h=>?_
   ·have hlt:q<(elems (r.tgts s)).length:=by simp at h;omega
    obtain⟨y,hy⟩:∃ y,(elems (r.tgts s))[q]?=some y:=⟨_,ash hlt⟩;obtain⟨g,e,hc⟩:=TG (M.r 0 rfl) hy rfl;refine ia<|an ⟨e,rfl,hlt⟩<|lc (x:=.int .i64 (y:Int))<|an hc<|ei (x:=.agg #[.int .i64 (s:Int),.int .i64 (y:Int)])<|an (bd (by kernel_rfl))<|fun g3 w8 M8=>ap 1 id rfl (M8.slice 0 rfl (k:=2) (n:=1) rfl rfl (by simp[maxLen])) ⟨by unfold maxLen;omega,by omega⟩ fun v4 w9 M9=>an (by omega)<|bk (q+1,v4) ⟨rfl,rfl,trivial⟩ (fun M=>⟨(M.only (.cons _ (.refl _)) (.refl _)).cast rfl (by dsimp only;rw[bf hy,asf,nM,← List.append_assoc];rfl),by dsimp only;omega⟩) (by dsimp only;omega)
   obtain rfl:q=(elems (r.tgts s)).length:=by simp at h;omega
   exact an (by omega)<|bk (k+1,u) ⟨rfl,rfl,trivial⟩ (fun M=>⟨(M.only (.cons _ (.refl _)) (.cons _ (.refl _))).cast rfl (by dsimp only;rw[ase,WQ,Eh,nM,asi,ar9]),by dsimp only;omega⟩) (by dsimp only;omega)
 obtain rfl:k=(elems r.src).length:=by simp at h;omega
 exact fun M=>⟨_,rfl,by have h:=M.r 0 rfl;rw[ase] at h;exact h,M.below⟩
theorem xR(w0:World)(x:aj×Int)(hxo:x.1.Ok)(gx:Nat)(hxc:w0.cell? ⟨gx,0,none⟩=some (.int .u64 x.2))(base:Nat)(lv:Value)(l:List (aj×Int))(hL:fU w0 base lv l)(hcl:l.length≤1000)(hok:∀ y∈l,y.1.Ok):Calls Tryz.prog 80 #[.agg #[.int .i64 x.1.kind,.int .u64 x.1.src.a,.int .u64 x.1.src.b,.int .u64 x.1.src.c,.int .u64 x.1.src.d,.int .u64 x.1.tgt.a,.int .u64 x.1.tgt.b,.int .u64 x.1.tgt.c,.int .u64 x.1.tgt.d,.bool x.1.self,.int .i64 x.1.cls,.int .u32 x.1.perms,.int .i64 x.1.cond,.slice (some ⟨gx,0,none⟩) 1 1],lv] w0 (fun(r:Ending) (w':World)=>r=.returned (.bool (iz x l))∧ar6 w0.heap.size w0 w'):=by
 obtain⟨_,_,rfl,-⟩:=ak.form hL (by decide);refine bX [] (fn:=Tryz.f80) Tryz.func80 rfl Tryz.ntmps80 rfl<|fun g1 w1 M1=>lb 0<|an rfl<|cl<|an (Aw _ gx 1 _ (asj M1.below hxc)) fun w2 M2=>an (fun h=>fun M=>⟨rb (by unfold iz;rw[h];rfl),M.below⟩) fun h0=>lq (ι:=Nat×Value×List ((aj×Int)×Nat)) (fun(m,v,N)=>[(5,v),(16,.int .i64 (m:Int))]) (fun(m,v,N)=>[⟨v,146,14,N.length,N.flatMap lV⟩]) (fun(m,v,N) _=>m≤l.length∧N.map (·.1)=((l.take m).filter fun y=>kU x.1 y.1)∧bV w0 base N) (fun(m,v,N)=>l.length-m) (0,.slice none 0 0,[]) (an ⟨⟨rfl,rfl,trivial⟩,fun M=>⟨M.cL 146 14,asg _,rfl,(fun _ h=>by cases h)⟩⟩ ?_)
 rintro⟨m,v,N⟩ w M ⟨hm,Cq,hN⟩;refine an (fun h=>?_) fun h=>?_
 ·have hlt:m<l.length:=by simp at h;omega
  obtain⟨y,hy⟩:∃ y,l[m]?=some y:=⟨_,ash hlt⟩;obtain⟨b,o,_,e1,⟨_,rfl,gy,rfl,hwy,Yh⟩,hc⟩:=ak.elt hL (by decide) hy
  have hlN:N.length≤1000:=by
   have h:=congrArg List.length Cq;rw[ar9] at h;rw[h];exact asb (List.length_filter_le _ _) (by rw[List.length_take];omega)
  exact ia<|an ⟨e1,rfl,hlt⟩<|lc<|an (cG M.below (Ag hc))<|ei<|an wR fun g2 w3 M3=>lb 0<|an ⟨rfl,rfl⟩ fun w4 M4=>lb 0<|an rfl<|lb 1<|an rfl<|lb 0<|an (fun _=>rfl)<|lb 1<|an (fun _=>rfl)<|lb 0<|an (fun _=>rfl)<|lb 1<|an (fun _=>rfl)<|ei (x:=bits .and .u32 y.1.perms x.1.perms)<|an (fun _=>rfl)<|an (fun hq=>lb 0<|an rfl<|fun g3 w5 M5=>ap 0 id rfl (M5.slice 0 rfl (k:=14) (n:=1) rfl rfl (by simp[maxLen])) ⟨by unfold maxLen;omega,by omega⟩ fun v4 w6 M6=>an (by omega)<|bk (m+1,v4,N++[(y,gy)]) ⟨rfl,rfl,trivial⟩ (fun M=>⟨(M.only (.cons _ (.cons _ (.refl _))) (.refl _)).cast rfl (by dsimp only;rw[asi,asl];rfl),by omega,SY hy Cq hq,hN.snoc hwy Yh⟩) (by dsimp only;omega)) fun hq=>an (by omega)<|bk (m+1,v,N) ⟨rfl,rfl,trivial⟩ (fun M=>⟨M.only (.cons _ (.refl _)) (.refl _),by omega,Wz hy Cq hq,hN⟩) (by dsimp only;omega)
 obtain rfl:m=l.length:=by simp at h;omega
 rw[ase] at Cq;refine lb 0<|an rfl<|cw M (Pr _ x.1 hxo) fun u w7 M7=>?_
 obtain⟨pa,pc,rfl,-,hpl⟩:=kR (v:=u) (n:=x.1.pairs.length) (M7.r 0 rfl);refine lr (ι:=Nat) (fun m=>[(55,.int .i64 (m:Int))]) (fun m _=>m≤x.1.pairs.length∧((x.1.pairs.take m).all fun p=>(List.range 32).all fun k=>!Ji x (N.map (·.1)) p.1 p.2 k)=true) (fun m=>x.1.pairs.length-m) 0 (an ⟨⟨rfl,trivial⟩,fun M=>⟨M,asg _,rfl⟩⟩ ?_);intro m w8 M8 ⟨hm,hall⟩;refine an (fun h2=>?_) fun h2 M=>⟨rb (Xn Cq (by simp at h2;omega) hall).symm,M.below⟩
 have hlt:m<x.1.pairs.length:=by simp at h2;omega
 obtain⟨p,hp⟩:∃ p,x.1.pairs[m]?=some p:=⟨_,ash hlt⟩;obtain⟨pg,e1,hc⟩:=NC (k:=2) (f:=NA) (M8.r 0 rfl) (fun _=>rfl) hp (by decide) rfl;refine ia<|an ⟨e1,rfl,hlt⟩<|lc<|an hc<|ei<|an abT fun g5 w9 M9=>lb 0<|an ⟨rfl,rfl⟩ fun yq oK=>lr (ι:=Nat) (fun k=>[(10,.int .u32 (mK k))]) (fun k _=>k≤32∧((List.range k).all fun k=>!Ji x (N.map (·.1)) p.1 p.2 k)=true) (fun k=>32-k) 0 (an ⟨⟨rfl,trivial⟩,fun M=>⟨M,by decide,rfl⟩⟩ ?_)
 intro k Gx M11 ⟨hk,Yp⟩;refine an (fun h3=>?_) fun h3=>?_
 ·have Ba:k<32:=by
   rcases Nat.lt_or_ge k 32 with h|h
   ·exact h
   ·rw[show k=32 by omega,Va] at h3;cases h3
  refine lb 1<|an rfl<|ei (x:=bits .and .u32 x.1.perms (mK k))<|an rfl<|lb 1<|an (fun _=>rfl)<|ei (x:=0)<|an (fun _=>⟨rfl,by decide⟩)<|lb 0<|an (fun _=>rfl)<|ei (x:=1)<|an (fun _=>⟨rfl,by decide⟩)<|lb 0<|an (fun _=>rfl)<|cl<|an (fun _=>D5 _ x gx (asj M11.below hxc) base v (N.map (·.1)) (Ld (M11.r 1 rfl) rfl (hN.keep M11.below)) (by rw[Cq];exact asb (List.length_filter_le _ _) hcl) (by rw[Cq];exact fun z hz=>hok z (List.mem_filter.1 hz).1) p.1 p.2 (mK k)) fun JA Gf=>?_
  refine an (fun hb M=>⟨rb (aa1 Cq hp Ba h0 hb).symm,M.below⟩) fun hb=>?_
  refine ei (x:=.int .u32 (mK (k+1)))<|an (fun a w o ho hv=>?_)<|bk (k+1) ⟨rfl,trivial⟩ (fun M=>⟨M,by omega,KG Yp (by rw[show Ji x (N.map (·.1)) p.1 p.2 k=false from hb];rfl)⟩) (by dsimp only;omega);exact(k_ ho (dJ hv) (dX hv) (by decide) (by decide)).trans (by rw[QM k Ba])
 have Ba:k=32:=by
  rcases Nat.lt_or_ge k 32 with h|h
  ·rw[Xy k h] at h3;cases h3
  ·omega
 exact an (by omega)<|bk (m+1) ⟨rfl,trivial⟩ (fun M=>⟨M.only (.cons _ (.refl _)) (.refl _),by omega,Vh hp hall (by rw[← Ba];exact Yp)⟩) (by dsimp only;omega)
theorem Xi{P:Program}{a:Act}{w:World}{o:Oper}{f:FuncId}{cs:Array Operand}{cap:Array Value}(ho:o.op=.makeFunc (.func f) #[] cs)(hc:cs.map a.eval=cap):(execOp a.eval o).run P w=.ok (.value (.func (.func f) #[] cap)) w:=by
 unfold execOp;simp[ho,hc,Instr.makeFunc]
def firstAt{α:Type}(p:α→Bool):List α→Nat→Int
 | [],_=>-1
 | x::l,k=>if p x=true then (k:Int) else firstAt p l (k+1)
theorem Bk{α:Type}{p:α→Bool}:∀ {l:List α} {k:Nat},decide (0≤firstAt p l k)=l.any p
 | [],_=>rfl
 | x::l,k=>by
  rw[firstAt,List.any_cons]
  cases h:p x with
  | true=>rw[if_pos rfl];simp
  | false=>rw[if_neg (by decide),Bk];rfl
theorem LY{α:Type}{p:α→Bool}{l:List α}{m:Nat}{y:α}(hy:l[m]?=some y)(h:firstAt p l 0=firstAt p (l.drop m) m)(hp:p y=true):(m:Int)=firstAt p l 0:=by
 rw[h,List.drop_eq_getElem_cons (asc.1 hy).1,(asc.1 hy).2,firstAt,if_pos hp]
theorem LX{α:Type}{p:α→Bool}{l:List α}{m:Nat}{y:α}(hy:l[m]?=some y)(h:firstAt p l 0=firstAt p (l.drop m) m)(hp:p y=false):firstAt p l 0=firstAt p (l.drop (m+1)) (m+1):=by
 rw[h,List.drop_eq_getElem_cons (asc.1 hy).1,(asc.1 hy).2,firstAt,if_neg (by rw[hp];decide)]
theorem Iw{α:Type}{p:α→Bool}{l:List α}{m:Nat}(hm:m=l.length)(h:firstAt p l 0=firstAt p (l.drop m) m):-1=firstAt p l 0:=by
 subst hm;rw[h,List.drop_length];rfl
theorem WG(a b:List (aj×Int)):(!(a.any fun x=>!iz x b))=ud a b:=by
 unfold ud;rw[List.not_any_eq_all_not];simp
theorem TL(w0:World)(x:aj×Int)(hxo:x.1.Ok)(gx:Nat)(hxc:w0.cell? ⟨gx,0,none⟩=some (.int .u64 x.2))(bx base:Nat)(lv:Value)(l:List (aj×Int))(W5:Whole w0 bx 141 #[lv])(hL:fU w0 base lv l)(hcl:l.length≤1000)(hok:∀ y∈l,y.1.Ok):Calls Tryz.prog 153 #[.agg #[.int .i64 x.1.kind,.int .u64 x.1.src.a,.int .u64 x.1.src.b,.int .u64 x.1.src.c,.int .u64 x.1.src.d,.int .u64 x.1.tgt.a,.int .u64 x.1.tgt.b,.int .u64 x.1.tgt.c,.int .u64 x.1.tgt.d,.bool x.1.self,.int .i64 x.1.cls,.int .u32 x.1.perms,.int .i64 x.1.cond,.slice (some ⟨gx,0,none⟩) 1 1],.pointer (some ⟨bx,0,none⟩)] w0 (fun(r:Ending) (w':World)=>r=.returned (.bool (!iz x l))∧ar6 w0.heap.size w0 w'):=by
 have bS:=hr1 Tryz.prog Tryz.f153 (fun(r:Ending) (w':World)=>r=.returned (.bool (!iz x l))∧ar6 w0.heap.size w0 w') 8 3 rfl;refine en Tryz.func153 rfl Tryz.ntmps153 rfl (vs:=[.agg #[.int .i64 x.1.kind,.int .u64 x.1.src.a,.int .u64 x.1.src.b,.int .u64 x.1.src.c,.int .u64 x.1.src.d,.int .u64 x.1.tgt.a,.int .u64 x.1.tgt.b,.int .u64 x.1.tgt.c,.int .u64 x.1.tgt.d,.bool x.1.self,.int .i64 x.1.cls,.int .u32 x.1.perms,.int .i64 x.1.cond,.slice (some ⟨gx,0,none⟩) 1 1],.pointer (some ⟨bx,0,none⟩)]) rfl fun _ F=>?_
 have M:=Mm.start w0;refine asn fun K1 jd=>ah<|NW (on rfl) rfl (F.u rf) rfl F rfl M fun g1 _ _ F M=>xA (v:=.bool false) F rf rf rf fun _ F=>aso<|jd _ _ ?_
 refine asn fun K2 jy=>ah<|xW F (M.b 0 rfl) rf rf rf GD rf jC rf fun _ F=>kz F rf (cM rf (F.u rf) yw rfl ((cG M.below (CO W5)) 0 _ rfl)) fun _ F=>xC F M rf rf q80 (args2 (F.u rf) (F.u rf)) (xR _ x hxo gx (asj M.below hxc) base lv l (hL.keep M.below) hcl hok) fun _ _ F M=>kz F rf (oD rfl (F.u rf)) fun _ F=>xA F rf rf rf fun _ F=>aso<|jy _ _ ?_
 refine wp_ret<|bS _ _ _ _ F rfl ?_;exact⟨rfl,M.below⟩
theorem TJ(w0:World)(bx base:Nat)(lv:Value)(l:List (aj×Int))(W5:Whole w0 bx 141 #[lv])(hL:fU w0 base lv l)(hcl:l.length≤1000)(hok:∀ y∈l,y.1.Ok)(av:Value)(a1:List (aj×Int))(hA:fU w0 base av a1)(hca:a1.length≤1000)(TX:∀ y∈a1,y.1.Ok):Calls Tryz.prog 224 #[av,.func (.func 153) #[] #[.pointer (some ⟨bx,0,none⟩)]] w0 (fun(r:Ending) (w':World)=>r=.returned (.int .i64 (firstAt (fun x=>!iz x l) a1 0))∧ar6 w0.heap.size w0 w'):=by
 obtain⟨la6,lk6,rfl,hk6,hm6,aag⟩:=ak.form hA (by decide);have bS:=hr1 Tryz.prog Tryz.f224 (fun(r:Ending) (w':World)=>r=.returned (.int .i64 (firstAt (fun x=>!iz x l) a1 0))∧ar6 w0.heap.size w0 w') 19 4 rfl;refine en Tryz.func224 rfl Tryz.ntmps224 rfl (vs:=[.slice la6 a1.length lk6,.func (.func 153) #[] #[.pointer (some ⟨bx,0,none⟩)]]) rfl fun _ F=>?_
 have M:=Mm.start w0;refine asn fun K1 jd=>ah<|xA (v:=.int .i64 0) F rf rf rf fun _ F=>aso<|jd _ _ ?_
 refine asn fun K2 jy=>asn fun K3 qg=>ah<|xM F rf rf rf fun _ F=>kz F rf (gA rfl (F.u rf) yw) fun _ F=>xM (v:=.int .i64 0) F rf rf rf fun _ F=>aso<|qg _ _ ?_
 refine asp<|?_;refine fH (ι:=Nat) (fun m a w=>Fs a 19 [(0,.slice la6 a1.length lk6),(1,.func (.func 153) #[] #[.pointer (some ⟨bx,0,none⟩)]),(7,.int .i64 (a1.length:Int)),(8,.int .i64 (m:Int))]∧Mm w0 w [] []∧m≤a1.length∧firstAt (fun x=>!iz x l) a1 0=firstAt (fun x=>!iz x l) (a1.drop m) m) (fun m=>a1.length-m) 0 ⟨F.sub ⟨rfl,rfl,rfl,rfl,trivial⟩,M,asg _,rfl⟩ ?_
 (repeat clear F);(repeat clear M)
 rintro m _ _ ⟨F,M,hm,hI⟩;refine asn fun K4 qd=>ah<|kz F rf (j5 rfl (F.u rf) (F.u rf)) fun _ F=>aso<|qd _ _ ?_
 refine asn fun K5 p7=>?_
 refine asq (F.e 9 rfl) (fun hc1=>?_) (fun hc1=>?_)
 ·have hd2:=of_decide_eq_true hc1;refine wp_skip<|p7 _ _ ?_;refine asn fun K6 rM=>asp<|asn fun K7 uj=>ah<|xM F rf rf rf fun _ F=>xA F rf rf rf fun _ F=>aso<|uj _ _ ?_
  refine asn fun K8 Bc=>?_
  have agv:m<a1.length:=by omega
  obtain⟨x,hx⟩:∃ x,a1[m]?=some x:=⟨_,ash agv⟩;obtain⟨b6,o6,cs6,rfl,⟨_,rfl,gx,rfl,hwx,hlx⟩,-,hr6⟩:=aag m x hx;have hr6:=Ag hr6
  refine ah<|xM F rf rf rf fun _ F=>xM F rf rf rf fun _ F=>xM F rf rf rf fun _ F=>
   kz F rf (bT (i:=m) rfl (F.u rf) (F.u rf) (by omega) yw jC) fun _ F=>
   kz F rf (gu [.int .i64 x.1.kind,.int .u64 x.1.src.a,.int .u64 x.1.src.b,.int .u64 x.1.src.c,.int .u64 x.1.src.d,.int .u64 x.1.tgt.a,.int .u64 x.1.tgt.b,.int .u64 x.1.tgt.c,.int .u64 x.1.tgt.d,.bool x.1.self,.int .i64 x.1.cls,.int .u32 x.1.perms,.int .i64 x.1.cond,.slice (some ⟨gx,0,none⟩) 1 1] rfl (F.u rf) GD rfl jC (cG M.below hr6)) fun _ F=>
   kc (on rfl) (EW rfl (F.u rf) Tryz.func153 (by kernel_rfl) rfl (args:=#[.agg #[.int .i64 x.1.kind,.int .u64 x.1.src.a,.int .u64 x.1.src.b,.int .u64 x.1.src.c,.int .u64 x.1.src.d,.int .u64 x.1.tgt.a,.int .u64 x.1.tgt.b,.int .u64 x.1.tgt.c,.int .u64 x.1.tgt.d,.bool x.1.self,.int .i64 x.1.cls,.int .u32 x.1.perms,.int .i64 x.1.cond,.slice (some ⟨gx,0,none⟩) 1 1],.pointer (some ⟨bx,0,none⟩)]) (by simp[(F.e 15 rfl)])) (TL _ x (TX x (asa hx)) gx (asj M.below (by simpa using hwx.cell 0)) bx base lv l (Whole.under M.below W5 W5.lt) (hL.keep M.below) hcl hok) rfl F rfl M fun _ _ F M=>
   aso<|
   Bc _ _ ?_
  refine asq (F.e 16 rfl) (fun hc3=>?_) (fun hc3=>?_)
  ·have T6:(iz x l)=false:=by simpa using hc3
   have WR:(!iz x l)=true:=hc3;refine asn fun K9 zx=>ah<|xM F rf rf rf fun _ F=>xA F rf rf rf fun _ F=>aso<|zx _ _ ?_
   refine wp_ret<|bS _ _ _ _ F rfl ?_;exact⟨gQ (LY hx hI WR),M.below⟩
  ·have T5:(iz x l)=true:=by simpa using hc3
   have WR:(!iz x l)=false:=hc3;refine wp_skip<|rM _ _ ?_
   refine ah<|
    ke (on rfl) (fS rfl (F.u rf) rfl) rfl F rfl (congrArg (Value.int .i64) (wrap_i64 (by omega))) fun _ F=>
    xM F rf rf rf fun _ F=>
    aso<|?_
   exact⟨m+1,⟨F.sub ⟨rfl,rfl,rfl,rfl,trivial⟩,M,by omega,LX hx hI WR⟩,by show a1.length-(m+1)<a1.length-m;omega⟩
 ·have hd6:=of_decide_eq_false hc1;refine wp_exit<|jy _ _ ?_;refine asn fun VE mG=>ah<|xA (v:=.int .i64 (-1)) F rf rf rf fun _ F=>aso<|mG _ _ ?_
  refine wp_ret<|bS _ _ _ _ F rfl ?_;exact⟨gQ (Iw (by omega) hI),M.below⟩
theorem TK(w0:World)(bx base:Nat)(lv:Value)(l:List (aj×Int))(W5:Whole w0 bx 141 #[lv])(hL:fU w0 base lv l)(hcl:l.length≤1000)(hok:∀ y∈l,y.1.Ok)(av:Value)(a1:List (aj×Int))(hA:fU w0 base av a1)(hca:a1.length≤1000)(TX:∀ y∈a1,y.1.Ok):Calls Tryz.prog 152 #[av,.func (.func 153) #[] #[.pointer (some ⟨bx,0,none⟩)]] w0 (fun(r:Ending) (w':World)=>r=.returned (.bool (a1.any fun x=>!iz x l))∧ar6 w0.heap.size w0 w'):=by
 have bS:=hr1 Tryz.prog Tryz.f152 (fun(r:Ending) (w':World)=>r=.returned (.bool (a1.any fun x=>!iz x l))∧ar6 w0.heap.size w0 w') 9 4 rfl;refine en Tryz.func152 rfl Tryz.ntmps152 rfl (vs:=[av,.func (.func 153) #[] #[.pointer (some ⟨bx,0,none⟩)]]) rfl fun _ F=>?_
 have M:=Mm.start w0;refine asn fun K1 jd=>ah<|xA (v:=.bool false) F rf rf rf fun _ F=>aso<|jd _ _ ?_
 refine asn fun K2 jy=>ah<|xM F rf rf rf fun _ F=>xM F rf rf rf fun _ F=>xC F M rf rf afx (args2 (F.u rf) (F.u rf)) (TJ _ bx base lv l (Whole.under M.below W5 W5.lt) (hL.keep M.below) hcl hok av a1 (hA.keep M.below) hca TX) fun _ _ F M=>kz F rf (Ol rfl (F.u rf) rfl) fun _ F=>xA F rf rf rf fun _ F=>aso<|jy _ _ ?_
 refine wp_ret<|bS _ _ _ _ F rfl ?_;exact⟨aD Bk,M.below⟩
theorem t_(w0:World)(base:Nat)(lv:Value)(l:List (aj×Int))(hL:fU w0 base lv l)(hcl:l.length≤1000)(hok:∀ y∈l,y.1.Ok)(av:Value)(a1:List (aj×Int))(hA:fU w0 base av a1)(hca:a1.length≤1000)(TX:∀ y∈a1,y.1.Ok):Calls Tryz.prog 79 #[av,lv] w0 (fun(r:Ending) (w':World)=>r=.returned (.bool (ud a1 l))∧ar6 w0.heap.size w0 w'):=by
 obtain⟨gW,gU,rfl,hk5,hm5,LJ⟩:=ak.form hL (by decide);have bS:=hr1 Tryz.prog Tryz.f79 (fun(r:Ending) (w':World)=>r=.returned (.bool (ud a1 l))∧ar6 w0.heap.size w0 w') 9 4 rfl;refine en Tryz.func79 rfl Tryz.ntmps79 rfl (vs:=[av,.slice gW l.length gU]) rfl fun _ F=>?_
 have M:=Mm.start w0;refine asn fun K1 jd=>ah<|kb1 (on rfl) rfl (F.u rf) rfl rfl F rfl M fun g1 _ _ F M=>xA (v:=.bool false) F rf rf rf fun _ F=>aso<|jd _ _ ?_
 refine asn fun K2 jy=>ah<|xM F rf rf rf fun _ F=>
  kz F rf (Xi (cap:=#[.pointer (some ⟨g1,0,none⟩)]) rfl (by simp[(F.e 3 rfl)])) fun _ F=>
  xC F M rf rf afA (args2 (F.u rf) (F.u rf)) (TK _ g1 base _ l (M.b 0 rfl) (hL.keep M.below) hcl hok av a1 (hA.keep M.below) hca TX) fun _ _ F M=>
  kz F rf (oD rfl (F.u rf)) fun _ F=>
  xA F rf rf rf fun _ F=>
  aso<|
  jy _ _ ?_
 refine wp_ret<|bS _ _ _ _ F rfl ?_;exact⟨aD (WG a1 l),M.below⟩
theorem St.aaz{w w':World}{mb:Nat}(h:St [mb] w w'):w.grownBy w' (some mb):=⟨h.os,h.tape,h.output,h.size,fun k hk hne=>h.block k hk fun e=>hne (congrArg some (ar5.1 e))⟩
theorem aV.GF{B:Nat}{w0 w w':World}{bs:List Bx}{rs:List Rw}(M:aV B w0 w bs rs)(i:Nat){mb:Nat}{L L':List (Int×Value)}(hi:bs[i]?=some (mb,9003,dU L))(h:St [mb] w w')(hM:aL w' Tryz.prog 3 mb (L'.map ival)):aV B w0 w' (bs.set i (mb,9003,dU L')) rs:=
 M.turn i hi rfl h.aaz (lU hM) fun _ _ h2=>fZ h2 (M.map i hi)
def BZ(w:World)(base:Nat)(L:List (Int×Value))(act:Int→Int):Prop:=∀ k v,jt L k=some v→bL w base v (act k)
theorem BZ.old{w w':World}{base:Nat}{L:List (Int×Value)}{act:Int→Int}(h:BZ w base L act)(ho:∀ g cs,Whole w g 52 cs→Whole w' g 52 cs):BZ w' base L act:=fun k v hv=>by
 obtain⟨g,e,h1,h2⟩:=h k v hv;exact⟨g,e,ho _ _ h1,h2⟩
theorem BZ.nil(w:World)(base:Nat)(act:Int→Int):BZ w base [] act:=fun k v hv=>by cases hv
theorem bV.old{α:Type}{w w':World}{base:Nat}{N:List ((α×Int)×Nat)}(h:bV w base N)(ho:∀ g cs,Whole w g 52 cs→Whole w' g 52 cs):bV w' base N:=fun z hz=>⟨ho _ _ (h z hz).1,(h z hz).2⟩
theorem bV.nil{α:Type}(w:World)(base:Nat):bV w base ([]:List ((α×Int)×Nat)):=fun z hz=>by cases hz
def CX(z:(bD×Int)×Nat):List Value:=z.1.1.cells
def rF{α:Type}(z:(α×Int)×Nat):List Value:=[.slice (some ⟨z.2,0,none⟩) 1 1]
def Ck(u:Int)(n:Nat)(conds:List aq)(y:bD):Option (bD×Int):=if dR u n conds y.cond=0 then none else some ({ y with cond:=0 },dR u n conds y.cond)
theorem Ze{u:Int}{n m:Nat}{conds:List aq}{l:List bD}{N:List ((bD×Int)×Nat)}{y:bD}(hy:l[m]?=some y)(h:N.map (·.1)=(l.take m).filterMap (Ck u n conds))(hq:decide (dR u n conds y.cond=0)=true):N.map (·.1)=(l.take (m+1)).filterMap (Ck u n conds):=by
 rw[bf hy,asr,← h];simp[Ck,of_decide_eq_true hq]
theorem VX{u:Int}{n m g:Nat}{conds:List aq}{l:List bD}{N:List ((bD×Int)×Nat)}{y:bD}(hy:l[m]?=some y)(h:N.map (·.1)=(l.take m).filterMap (Ck u n conds))(hq:decide (dR u n conds y.cond=0)=false):(N++[((({ y with cond:=0 }:bD),dR u n conds y.cond),g)]).map (fun z:(bD×Int)×Nat=>z.1)=(l.take (m+1)).filterMap (Ck u n conds):=by
 rw[bf hy,asr,asf,← h];simp[Ck,of_decide_eq_false hq]
theorem oB(w0:World)(c0 c1 c2 c3 c4 c5 c6 c7 c8 c9 aS aN aM aR aQ aP aO:Value)(p:aA)(hp:aJ w0 c0 c1 c2 c3 c4 c5 c6 c7 c8 c9 aS aN aM aR aQ aP aO p)(hok:p.Ok)(hn:p.bools.length≤5)(hcl:p.conds.length≤1000)(agH:p.trans.length≤4096):Calls Tryz.prog 73 #[.agg #[c0,c1,c2,c3,c4,c5,c6,c7,c8,c9,aS,aN,aM,aR,aQ,aP,aO]] w0 (fun(r:Ending) (w':World)=>∃ v,r=.returned v∧((∃ v1 v2,∃ N:List ((bD×Int)×Nat),v=.tuple #[v1,v2]∧N.map (·.1)=p.trans.filterMap (Ck (aI p.bools.length) p.bools.length p.conds)∧w'.ownsRow w0.heap.size 84 13 v1 N.length (N.flatMap CX)∧w'.ownsRow w0.heap.size 139 1 v2 N.length (N.flatMap rF)∧bV w' w0.heap.size N)∧ar6 w0.heap.size w0 w')):=by
 obtain⟨gW,gU,rfl,hk5,hm5,LJ⟩:=SliceAt.form hp.bools (by decide);obtain⟨Ts,Ti,rfl,aml,adg,WY⟩:=SliceAt.form hp.trans (by decide);have bS:=Qf Tryz.prog Tryz.f73 (fun(r:Ending) (w':World)=>∃ v,r=.returned v∧((∃ v1 v2,∃ N:List ((bD×Int)×Nat),v=.tuple #[v1,v2]∧N.map (·.1)=p.trans.filterMap (Ck (aI p.bools.length) p.bools.length p.conds)∧w'.ownsRow w0.heap.size 84 13 v1 N.length (N.flatMap CX)∧w'.ownsRow w0.heap.size 139 1 v2 N.length (N.flatMap rF)∧bV w' w0.heap.size N)∧ar6 w0.heap.size w0 w')) 37 2 3 rfl;refine en Tryz.func73 rfl Tryz.ntmps73 rfl (vs:=[.agg #[c0,c1,c2,c3,c4,.slice gW p.bools.length gU,c6,c7,c8,c9,.slice Ts p.trans.length Ti,aN,aM,aR,aQ,aP,aO]]) rfl fun _ F=>?_
 have M:=Mm.start w0;refine asn fun K1 jd=>ah<|NW (on rfl) rfl (F.u rf) rfl F rfl M fun g1 _ _ F M=>xA (v:=.slice none 0 0) F rf rf rf fun _ F=>xA (v:=.slice none 0 0) F rf rf rf fun _ F=>aso<|jd _ _ ?_
 refine asn fun K2 jy=>ah<|xW F (M.b 0 rfl) rf rf rf M_ rf z8 rf fun _ F=>kx (on rfl) (eZ rfl Tryz.func148 X9 rfl (args1 (F.u rf))) (mF _ _ _ _ _ _ _ _ _ _ _ _ _ _ _ _ _ gW p.bools.length gU hn) rfl F rfl M fun tv _ _ hR hB F _=>?_
 obtain⟨tp,mb,rfl,Cb,hMb,Z5,Z7⟩:=hR;have M:=M.En hB (b1:=(tp,304,#[c0,c1,c2,c3,c4,.slice gW p.bools.length gU,c6,c7,c8,c9,.slice Ts p.trans.length Ti,aN,aM,aR,aQ,aP,aO,.int .i64 1,.int .u64 (aI p.bools.length),(.map (some mb))])) (.inl ⟨rfl,Cb⟩) Z5 (b2:=(mb,9003,dU [])) (lU hMb) Z7 (fZ Cb hMb);refine xA F rf rf rf fun _ F=>aso<|jy _ _ ?_
 refine asn fun K3 qg=>?_
 have M:=M.cL 84 13;refine ah<|xA (v:=.slice none 0 0) F rf rf rf fun _ F=>aso<|qg _ _ ?_
 refine asn fun K4 qd=>?_
 have M:=M.cL 139 1;refine ah<|xA (v:=.slice none 0 0) F rf rf rf fun _ F=>aso<|qd _ _ ?_
 refine asn fun K5 p7=>asn fun K6 rM=>ah<|xF 10 F rf rf rf M_ rf afk rf fun _ F=>xL F (M.b 2 rfl) rf rf rf u31 rf rf fun _ F=>kz F rf (gA rfl (F.u rf) u31) fun _ F=>xM (v:=.int .i64 0) F rf rf rf fun _ F=>aso<|rM _ _ ?_
 refine asp<|?_;refine fH (ι:=Nat×Value×Value×List ((bD×Int)×Nat)×List (Int×Value)) (fun|(m,v,v2,N,L),a,w=>Fs a 37 [(4,.pointer (some ⟨tp,0,none⟩)),(5,v),(6,v2),(13,.slice Ts p.trans.length Ti),(14,.int .i64 (p.trans.length:Int)),(15,.int .i64 (m:Int))]∧Mm w0 w [(tp,304,#[c0,c1,c2,c3,c4,.slice gW p.bools.length gU,c6,c7,c8,c9,.slice Ts p.trans.length Ti,aN,aM,aR,aQ,aP,aO,.int .i64 1,.int .u64 (aI p.bools.length),(.map (some mb))]),(mb,9003,dU L)] [⟨v2,139,1,N.length,N.flatMap rF⟩,⟨v,84,13,N.length,N.flatMap CX⟩]∧m≤p.trans.length∧N.map (·.1)=(p.trans.take m).filterMap (Ck (aI p.bools.length) p.bools.length p.conds)∧bV w w0.heap.size N∧BZ w w0.heap.size L (dR (aI p.bools.length) p.bools.length p.conds)) (fun|(m,v,v2,N,L)=>p.trans.length-m) (0,.slice none 0 0,.slice none 0 0,[],[]) ⟨F.sub ⟨rfl,rfl,rfl,rfl,rfl,rfl,trivial⟩,M.only (.cons_cons _ (.cons_cons _ (.cons _ .slnil))) (.cons_cons _ (.cons_cons _ .slnil)),asg _,rfl,bV.nil _ _,BZ.nil _ _ _⟩ ?_
 (repeat clear F);(repeat clear M)
 rintro⟨m,v,v2,N,L⟩ _ _ ⟨F,M,hm,Cq,hN,hL⟩;have MR:=M;have M:=M.Ec;refine asn fun K7 uj=>ah<|kz F rf (j5 rfl (F.u rf) (F.u rf)) fun _ F=>aso<|uj _ _ ?_
 refine asn fun K8 Bc=>?_
 refine asq (F.e 16 rfl) (fun hc2=>?_) (fun hc2=>?_)
 ·have hd3:=of_decide_eq_true hc2;refine wp_skip<|Bc _ _ ?_;refine asn fun K9 zx=>asp<|asn fun VE mG=>?_
  have hlt:m<p.trans.length:=by omega
  obtain⟨y,hy⟩:∃ y,p.trans[m]?=some y:=⟨_,ash hlt⟩;obtain⟨b10,afG,rfl,Yo⟩:=WY m hlt
  have ac7:∀ j uu,[.int .i64 y.kind,.int .u64 y.src.a,.int .u64 y.src.b,.int .u64 y.src.c,.int .u64 y.src.d,.int .u64 y.tgt.a,.int .u64 y.tgt.b,.int .u64 y.tgt.c,.int .u64 y.tgt.d,.int .i64 y.cls,.string y.name,.int .i64 y.res,.int .i64 y.cond][j]?=some uu→w0.cell? ⟨b10,afG+m*13+j,none⟩=some uu:=fun j u hu=>Yo j u (by
   rw[lX bD.dV hy j (asc.1 hu).1];exact hu)
  clear Yo;have pU:=hok.trans y (asa hy);have hct:p.trans.length≤4096:=agH
  refine ah<|
   kz F rf (bT (i:=m) rfl (F.u rf) (F.u rf) (by omega) u31 Sb) fun _ F=>
   kz F rf (gu [.int .i64 y.kind,.int .u64 y.src.a,.int .u64 y.src.b,.int .u64 y.src.c,.int .u64 y.src.d,.int .u64 y.tgt.a,.int .u64 y.tgt.b,.int .u64 y.tgt.c,.int .u64 y.tgt.d,.int .i64 y.cls,.string y.name,.int .i64 y.res,.int .i64 y.cond] rfl (F.u rf) u84 rfl Sb (cG (MR.below.trans M.below) ac7)) fun _ F=>
   Lq (on rfl) rfl Ry rfl F rfl M fun g4 _ _ F M=>
   Lm (on rfl) rfl (F.u rf) (F.u rf) F M 0 rfl Sb rfl rfl rfl fun _ M=>
   aso<|
   mG _ _ ?_
  refine asn fun K11 sE=>ah<|xM F rf rf rf fun _ F=>xF 12 F rf rf rf u84 rf XU rf fun _ F=>xL F (M.b 0 rfl) rf rf rf u3 rf rf fun _ F=>kt (on rfl) (eZ rfl Tryz.func149 SV rfl (args2 (F.u rf) (F.u rf))) (sQ _ w0.heap.size tp mb _ _ _ _ _ _ _ _ _ _ _ _ _ _ _ _ gW p.bools.length gU (aI p.bools.length) p.conds hn (hp.conds.keep (MR.below.trans M.below)) hcl y.cond (hok.trans y (asa hy)).cond ⟨M.b 1 rfl,⟨_,M.map 2 rfl,hL.old M.old⟩,⟨M.lo _ (asa (i:=1) rfl),M.lo _ (asa (i:=2) rfl)⟩⟩) rfl F rfl fun v9 _ w9 hR F=>?_
  obtain⟨⟨gs,rfl,hws,hls⟩,⟨agS,⟨L9,Oa,hL9⟩,-⟩,Rq⟩:=hR;have M:=M.GF 2 rfl Rq Oa;have hN:=hN.old M.old;have MR:=MR.comp M;have M:=M.Ec;have hL:BZ _ _ _ _:=hL9;refine xA F rf rf rf fun _ F=>aso<|sE _ _ ?_
  refine asn fun K12 sC=>asn fun K13 ru=>ah<|xM F rf rf rf fun _ F=>
   xC F M rf rf afB (args1 (F.u rf)) (Aw _ gs 1 _ (by simpa using(M.old _ _ hws).cell 0)) fun _ _ F M=>
   aso<|
   ru _ _ ?_
  refine asq (F.e 24 rfl) (fun hc5=>?_) (fun hc5=>?_)
  ·have hd6:=of_decide_eq_true hc5;have WR:decide (dR (aI p.bools.length) p.bools.length p.conds y.cond=0)=true:=hc5;refine wp_exit<|zx _ _ ?_
   refine ah<|
    ke (on rfl) (fS rfl (F.u rf) rfl) rfl F rfl (congrArg (Value.int .i64) (wrap_i64 (by omega))) fun _ F=>
    xM F rf rf rf fun _ F=>
    aso<|?_
   exact⟨(m+1,v,v2,N,L9),⟨F.sub ⟨rfl,rfl,rfl,rfl,rfl,rfl,trivial⟩,MR.comp (M.only (.cons _ (.cons_cons _ (.cons_cons _ .slnil))) (.cons_cons _ (.cons_cons _ .slnil))),by omega,Ze hy Cq WR,hN.old M.old,hL.old M.old⟩,by show p.trans.length-(m+1)<p.trans.length-m;omega⟩
  ·have hd7:=of_decide_eq_false hc5;have WR:decide (dR (aI p.bools.length) p.bools.length p.conds y.cond=0)=false:=hc5;refine wp_skip<|sC _ _ ?_;refine asn fun K14 wk=>ah<|xF 12 F rf rf rf u84 rf XU rf fun _ F=>ks (on rfl) rfl (F.u rf) rfl F M 0 (cs':=#[.int .i64 y.kind,.int .u64 y.src.a,.int .u64 y.src.b,.int .u64 y.src.c,.int .u64 y.src.d,.int .u64 y.tgt.a,.int .u64 y.tgt.b,.int .u64 y.tgt.c,.int .u64 y.tgt.d,.int .i64 y.cls,.string y.name,.int .i64 y.res,.int .i64 0]) rfl rfl rfl XU rfl rfl rfl rfl fun _ M=>aso<|wk _ _ ?_
   have hlN:N.length≤4096:=by
    have h:=congrArg List.length Cq;rw[ar9] at h;rw[h];exact asb (List.length_filterMap_le _ _) (asb (List.length_take_le _ _) (asb (Nat.le_of_lt hlt) hct))
   refine ah<|xM F rf rf rf fun _ F=>xW F (M.b 0 rfl) rf rf rf u84 rf Sb rf fun _ F=>
    kl (on rfl) rfl u31 Sb Ry rfl (pv:=#[(0,.agg #[.int .i64 y.kind,.int .u64 y.src.a,.int .u64 y.src.b,.int .u64 y.src.c,.int .u64 y.src.d,.int .u64 y.tgt.a,.int .u64 y.tgt.b,.int .u64 y.tgt.c,.int .u64 y.tgt.d,.int .i64 y.cls,.string y.name,.int .i64 y.res,.int .i64 0])]) (by simp[(F.e 27 rfl)]) (cells:=#[.int .i64 y.kind,.int .u64 y.src.a,.int .u64 y.src.b,.int .u64 y.src.c,.int .u64 y.src.d,.int .u64 y.tgt.a,.int .u64 y.tgt.b,.int .u64 y.tgt.c,.int .u64 y.tgt.d,.int .i64 y.cls,.string y.name,.int .i64 y.res,.int .i64 0]) (by kernel_rfl) rfl F rfl M fun g8 _ _ F M=>
    kp (on rfl) rfl u31 acX rfl M 1 rfl (F.u rf) (F.u rf) (M.slice 0 rfl rfl rfl (by simp[maxLen])) ⟨by unfold maxLen;omega,by omega⟩ rfl F rfl fun v9 _ _ F M=>
    xM F rf rf rf fun _ F=>
    xM F rf rf rf fun _ F=>
    xS F M rf rf rf ab4 ab9 abQ rf rf fun g10 _ _ F M=>
    kp (on rfl) rfl ab4 ZR rfl M 0 rfl (F.u rf) (F.u rf) (M.slice 0 rfl rfl rfl (by simp[maxLen])) ⟨by unfold maxLen;omega,by omega⟩ rfl F rfl fun v11 _ _ F M=>
    xA F rf rf rf fun _ F=>
    xA F rf rf rf fun _ F=>
    aso<|
    zx _ _ ?_
   refine ah<|
    ke (on rfl) (fS rfl (F.u rf) rfl) rfl F rfl (congrArg (Value.int .i64) (wrap_i64 (by omega))) fun _ F=>
    xM F rf rf rf fun _ F=>
    aso<|?_
   exact⟨(m+1,v9,v11,N++[(({ y with cond:=0 },dR (aI p.bools.length) p.bools.length p.conds y.cond),gs)],L9),⟨F.sub ⟨rfl,rfl,rfl,rfl,rfl,rfl,trivial⟩,(MR.comp (M.only (.cons _ (.cons _ (.cons _ (.cons_cons _ (.cons_cons _ .slnil))))) (.cons_cons _ (.cons_cons _ .slnil)))).cast rfl (by rw[asi,asl,asl];rfl),by omega,VX hy Cq WR,(hN.old M.old).snoc (M.old _ _ hws) hls,hL.old M.old⟩,by show p.trans.length-(m+1)<p.trans.length-m;omega⟩
 ·have amv:=of_decide_eq_false hc2;refine wp_exit<|p7 _ _ ?_;refine asn fun K15 um=>ah<|xM F rf rf rf fun _ F=>xM F rf rf rf fun _ F=>xA F rf rf rf fun _ F=>xA F rf rf rf fun _ F=>aso<|um _ _ ?_
  refine wp_ret<|bS _ _ _ _ _ F rfl rfl ?_;exact⟨_,rfl,⟨_,_,N,rfl,(by rw[Cq,List.take_of_length_le (by omega)]),M.r 1 rfl,M.r 0 rfl,hN⟩,(MR.below.trans M.below)⟩
section
variable {P:Program} {ops:Array Oper} {Q':Exit→Act→World→Prop} {a:Act} {w:World} {o:Oper} {d N:Nat} {g:Good}
theorem dxS{S:World→World→Prop}(hw:Region.wanted o (yielded ops a.tmps)=true){f:FuncId}{args:Array Value}(hr:(execOp a.eval o).run P w=.ok (.enter f args) w)
 (hc:Calls P f args w fun e w'=>∃ v,e=.returned v∧(g v w'∧S w w')) (hd:o.dst=some d) (hf:Fr a N) (hN:Nat.blt d N=true)
 (hE:∀ v a' w',S w w'→g v w'→Put a (o.dst.getD 0) v a'→Q' .normal a' w'):wpList P ops Q' [o] a w:=
 j_ hw hr hc hd hf (by simpa using hN) fun u a' w' h p=>aso (hE u a' w' h.2 h.1 (by rw[hd];exact p))
end
def F4(base tp mb:Nat)(c0 c1 c2 c3 c4 c5 c6 c7 c8 c9 aS aN aM aR aQ aP aO:Value)(u:Int)(act:Int→Int)(w w':World):Prop:=St [mb] w w'∧(fF w base tp mb c0 c1 c2 c3 c4 c5 c6 c7 c8 c9 aS aN aM aR aQ aP aO u act→fF w' base tp mb c0 c1 c2 c3 c4 c5 c6 c7 c8 c9 aS aN aM aR aQ aP aO u act)
section
variable {base tp mb:Nat} {c0 c1 c2 c3 c4 c5 c6 c7 c8 c9 aS aN aM aR aQ aP aO:Value} {u:Int} {act:Int→Int}
theorem Kl(w w':World)(h:ar6 w.heap.size w w'):F4 base tp mb c0 c1 c2 c3 c4 c5 c6 c7 c8 c9 aS aN aM aR aQ aP aO u act w w':=⟨gJ _ _ _ h,fun hT=>hT.keep h⟩
theorem Kk(a b c:World)(h:F4 base tp mb c0 c1 c2 c3 c4 c5 c6 c7 c8 c9 aS aN aM aR aQ aP aO u act a b)(k:F4 base tp mb c0 c1 c2 c3 c4 c5 c6 c7 c8 c9 aS aN aM aR aQ aP aO u act b c):F4 base tp mb c0 c1 c2 c3 c4 c5 c6 c7 c8 c9 aS aN aM aR aQ aP aO u act a c:=⟨fJ _ _ _ _ h.1 k.1,fun hT=>k.2 (h.2 hT)⟩
def OJ(base mb:Nat)(x:Int):Good:=fun v u=>∃ g,v=.slice (some ⟨g,0,none⟩) 1 1∧Whole u g 52 #[.int .u64 x]∧base≤g∧g≠mb
def aek(base mb:Nat)(y:aj)(x:Int):Good:=fun v u=>∃ g,v=.agg #[.int .i64 y.kind,.int .u64 y.src.a,.int .u64 y.src.b,.int .u64 y.src.c,.int .u64 y.src.d,.int .u64 y.tgt.a,.int .u64 y.tgt.b,.int .u64 y.tgt.c,.int .u64 y.tgt.d,.bool y.self,.int .i64 y.cls,.int .u32 y.perms,.int .i64 y.cond,.slice (some ⟨g,0,none⟩) 1 1]∧Whole u g 52 #[.int .u64 x]∧base≤g∧g≠mb
def SlG(ws:World)(base mb:Nat)(y:aj)(x:Int):Good:=fun v u=>∃ b g,v=.slice (some ⟨b,0,none⟩) 1 1∧Whole u b 146 #[.int .i64 y.kind,.int .u64 y.src.a,.int .u64 y.src.b,.int .u64 y.src.c,.int .u64 y.src.d,.int .u64 y.tgt.a,.int .u64 y.tgt.b,.int .u64 y.tgt.c,.int .u64 y.tgt.d,.bool y.self,.int .i64 y.cls,.int .u32 y.perms,.int .i64 y.cond,.slice (some ⟨g,0,none⟩) 1 1]∧ws.heap.size≤b∧b≠mb∧Whole u g 52 #[.int .u64 x]∧base≤g∧g≠mb
theorem Qv{g mb:Nat}(h:g≠mb):g∉[mb]:=fun e=>h (ar5.1 e)
theorem Li{base':Nat}{x:Int}:wN (F4 base tp mb c0 c1 c2 c3 c4 c5 c6 c7 c8 c9 aS aN aM aR aQ aP aO u act) (OJ base' mb x):=fun _ _ _ ⟨g,e,h,k,n⟩ hS=>⟨g,e,hS.1.whole h (Qv n),k,n⟩
theorem P4{base':Nat}{x:Int}{y:aj}:wN (F4 base tp mb c0 c1 c2 c3 c4 c5 c6 c7 c8 c9 aS aN aM aR aQ aP aO u act) (aek base' mb y x):=fun _ _ _ ⟨g,e,h,k,n⟩ hS=>⟨g,e,hS.1.whole h (Qv n),k,n⟩
theorem Tn{ws:World}{base':Nat}{x:Int}{y:aj}:wN (F4 base tp mb c0 c1 c2 c3 c4 c5 c6 c7 c8 c9 aS aN aM aR aQ aP aO u act) (SlG ws base' mb y x):=fun _ _ _ ⟨b,g,e,h1,k1,n1,h,k,n⟩ hS=>⟨b,g,e,hS.1.whole h1 (Qv n1),k1,n1,hS.1.whole h (Qv n),k,n⟩
theorem VG{w:World}{v:Value}{x:Int}(h:bL w base v x)(hT:fF w base tp mb c0 c1 c2 c3 c4 c5 c6 c7 c8 c9 aS aN aM aR aQ aP aO u act):OJ base mb x v w:=by
 obtain⟨g,e,hw,hl⟩:=h;obtain⟨-,⟨L,hM,-⟩,-⟩:=hT;exact⟨g,e,hw,hl,fZ hw hM⟩
end
theorem aV.aa9{B:Nat}{w0 w:World}{bs:List Bx}{rs:List Rw}(M:aV B w0 w bs rs){g:Nat}{t:TypeId}{cs:Array Value}(h:Whole w g t cs)(hB:B≤g)(hf:∀ b∈bs,b.1≠g)(hr:∀ r∈rs,r.v.ownBlock≠some g)(ht:Nat.blt t 9000=true:=by rfl):aV B w0 w ((g,t,cs)::bs) rs:=by
 refine⟨M.below,M.le,M.old,?_,?_,?_,M.row,?_,M.vH⟩
 ·intro b hb;rcases ar7.1 hb with rfl|hb
  ·exact .inl ⟨ht,h⟩
  ·exact M.box b hb
 ·intro b hb;rcases ar7.1 hb with rfl|hb
  ·exact hB
  ·exact M.lo b hb
 ·rw[List.map_cons,List.nodup_cons];refine⟨fun h=>?_,M.nd⟩;obtain⟨b,hb,e⟩:=ar8.1 h;exact hf b hb e
 ·intro r hr' b hb;rcases ar7.1 hb with rfl|hb
  ·exact hr r hr'
  ·exact M.far r hr' b hb
theorem aV.VW{B:Nat}{w0 w w':World}{bs:List Bx}{rs:List Rw}(M:aV B w0 w bs rs)(i:Nat){mb:Nat}{L L':List (Int×Value)}(hi:bs[i]?=some (mb,9003,dU L))(h:St [mb] w w')(hM:aL w' Tryz.prog 3 mb (L'.map ival))
 {g:Nat} {t:TypeId} {cs:Array Value} (hg:Whole w' g t cs) (hs:w.heap.size≤g) (ht:Nat.blt t 9000=true:=by rfl):aV B w0 w' ((g,t,cs)::bs.set i (mb,9003,dU L')) rs:=by
 refine(M.GF i hi h hM).aa9 hg (asb M.big hs) (fun b hb=>?_) (fun r hr e=>?_) ht
 ·rcases List.mem_or_eq_of_mem_set hb with hb|rfl
  ·have:=(M.box b hb).lt;omega
  ·have:=(M.box _ (asa hi)).lt;simp only at this ⊢;omega
 ·have:=((M.row r hr).lt g e).2;omega
theorem Kv{u:Int}{n m g:Nat}{conds:List aq}{l:List aj}{N:List ((aj×Int)×Nat)}{y:aj}(hy:l[m]?=some y)(h:N.map (·.1)=(l.take m).map fun y=>(y,dR u n conds (EF y))):(N++[((y,dR u n conds (EF y)),g)]).map (fun z:(aj×Int)×Nat=>z.1)=(l.take (m+1)).map fun y=>(y,dR u n conds (EF y)):=by
 rw[bf hy,asf,asf,← h];simp
theorem Ql(w0:World)(base tp mb:Nat)(c0 c1 c2 c3 c4 c6 c7 c8 c9 aS aN aM aR aQ aP aO:Value)(gW:Option Addr)(nB gU:Nat)(u:Int)(conds:List aq)(hn:nB≤5)(hE:lG w0 c8 conds)(hcl:conds.length≤1000)(q:aj)(hk:iU q.cond)(hTT:fF w0 base tp mb c0 c1 c2 c3 c4 (.slice gW nB gU) c6 c7 c8 c9 aS aN aM aR aQ aP aO u (dR u nB conds)):Calls Tryz.prog 151 #[.pointer (some ⟨tp,0,none⟩),.agg #[.int .i64 q.kind,.int .u64 q.src.a,.int .u64 q.src.b,.int .u64 q.src.c,.int .u64 q.src.d,.int .u64 q.tgt.a,.int .u64 q.tgt.b,.int .u64 q.tgt.c,.int .u64 q.tgt.d,.bool q.self,.int .i64 q.cls,.int .u32 q.perms,.int .i64 q.cond]] w0 (fun(r:Ending) (w':World)=>∃ v,r=.returned v∧(OJ base mb (dR u nB conds (EF q)) v w'∧F4 base tp mb c0 c1 c2 c3 c4 (.slice gW nB gU) c6 c7 c8 c9 aS aN aM aR aQ aP aO u (dR u nB conds) w0 w')):=
 (Qm w0 base tp mb _ _ _ _ _ _ _ _ _ _ _ _ _ _ _ _ gW nB gU u conds hn hE hcl q hk hTT).mono fun _ _ ⟨v,e,h1,h2,h3⟩=>⟨v,e,VG h1 h2,h3,fun _=>h2⟩
theorem AF(w0:World)(c0 c1 c2 c3 c4 c5 c6 c7 c8 c9 aS aN aM aR aQ aP aO:Value)(p:aA)(hp:aJ w0 c0 c1 c2 c3 c4 c5 c6 c7 c8 c9 aS aN aM aR aQ aP aO p)(hok:p.Ok)(hn:p.bools.length≤5)(hcl:p.conds.length≤1000)(hcr:p.rules.length≤4096):Calls Tryz.prog 78 #[.agg #[c0,c1,c2,c3,c4,c5,c6,c7,c8,c9,aS,aN,aM,aR,aQ,aP,aO]] w0 (fun(r:Ending) (w':World)=>∃ v,r=.returned v∧((∃ N:List ((aj×Int)×Nat),N.map (·.1)=(p.rules.map fun y=>(y,(dR (aI p.bools.length) p.bools.length p.conds (EF y))))∧w'.ownsRow w0.heap.size 146 14 v N.length (N.flatMap lV)∧bV w' w0.heap.size N)∧ar6 w0.heap.size w0 w')):=by
 obtain⟨gW,gU,rfl,hk5,hm5,LJ⟩:=SliceAt.form hp.bools (by decide);obtain⟨Ya,Vv,rfl,hk9,hm9,Ua⟩:=SliceAt.form hp.rules (by decide);have bS:=hr1 Tryz.prog Tryz.f78 (fun(r:Ending) (w':World)=>∃ v,r=.returned v∧((∃ N:List ((aj×Int)×Nat),N.map (·.1)=(p.rules.map fun y=>(y,(dR (aI p.bools.length) p.bools.length p.conds (EF y))))∧w'.ownsRow w0.heap.size 146 14 v N.length (N.flatMap lV)∧bV w' w0.heap.size N)∧ar6 w0.heap.size w0 w')) 26 2 rfl;refine en Tryz.func78 rfl Tryz.ntmps78 rfl (vs:=[.agg #[c0,c1,c2,c3,c4,.slice gW p.bools.length gU,c6,c7,c8,.slice Ya p.rules.length Vv,aS,aN,aM,aR,aQ,aP,aO]]) rfl fun _ F=>?_
 have M:=Mm.start w0;refine asn fun K1 jd=>ah<|NW (on rfl) rfl (F.u rf) rfl F rfl M fun g1 _ _ F M=>xA (v:=.slice none 0 0) F rf rf rf fun _ F=>aso<|jd _ _ ?_
 refine asn fun K2 jy=>ah<|xW F (M.b 0 rfl) rf rf rf M_ rf z8 rf fun _ F=>kx (on rfl) (eZ rfl Tryz.func148 X9 rfl (args1 (F.u rf))) (mF _ _ _ _ _ _ _ _ _ _ _ _ _ _ _ _ _ gW p.bools.length gU hn) rfl F rfl M fun tv _ _ hR hB F _=>?_
 obtain⟨tp,mb,rfl,Cb,hMb,Z5,Z7⟩:=hR;have M:=M.En hB (b1:=(tp,304,#[c0,c1,c2,c3,c4,.slice gW p.bools.length gU,c6,c7,c8,.slice Ya p.rules.length Vv,aS,aN,aM,aR,aQ,aP,aO,.int .i64 1,.int .u64 (aI p.bools.length),(.map (some mb))])) (.inl ⟨rfl,Cb⟩) Z5 (b2:=(mb,9003,dU [])) (lU hMb) Z7 (fZ Cb hMb);refine xA F rf rf rf fun _ F=>aso<|jy _ _ ?_
 refine asn fun K3 qg=>?_
 have M:=M.cL 146 14;refine ah<|xA (v:=.slice none 0 0) F rf rf rf fun _ F=>aso<|qg _ _ ?_
 refine asn fun K4 qd=>asn fun K5 p7=>ah<|xF 9 F rf rf rf M_ rf afl rf fun _ F=>xL F (M.b 2 rfl) rf rf rf u30 rf rf fun _ F=>kz F rf (gA rfl (F.u rf) u30) fun _ F=>xM (v:=.int .i64 0) F rf rf rf fun _ F=>aso<|p7 _ _ ?_
 refine asp<|?_;refine fH (ι:=Nat×Value×List ((aj×Int)×Nat)×List (Int×Value)) (fun|(m,v,N,L),a,w=>Fs a 26 [(3,.pointer (some ⟨tp,0,none⟩)),(4,v),(10,.slice Ya p.rules.length Vv),(11,.int .i64 (p.rules.length:Int)),(12,.int .i64 (m:Int))]∧Mm w0 w [(tp,304,#[c0,c1,c2,c3,c4,.slice gW p.bools.length gU,c6,c7,c8,.slice Ya p.rules.length Vv,aS,aN,aM,aR,aQ,aP,aO,.int .i64 1,.int .u64 (aI p.bools.length),(.map (some mb))]),(mb,9003,dU L)] [⟨v,146,14,N.length,N.flatMap lV⟩]∧m≤p.rules.length∧N.map (·.1)=((p.rules.take m).map fun y=>(y,(dR (aI p.bools.length) p.bools.length p.conds (EF y))))∧bV w w0.heap.size N∧BZ w w0.heap.size L (dR (aI p.bools.length) p.bools.length p.conds)) (fun|(m,v,N,L)=>p.rules.length-m) (0,.slice none 0 0,[],[]) ⟨F.sub ⟨rfl,rfl,rfl,rfl,rfl,trivial⟩,M.only (.cons_cons _ (.cons_cons _ (.cons _ .slnil))) (.cons_cons _ .slnil),asg _,rfl,bV.nil _ _,BZ.nil _ _ _⟩ ?_
 (repeat clear F);(repeat clear M)
 rintro⟨m,v,N,L⟩ _ _ ⟨F,M,hm,Cq,hN,hL⟩;have MR:=M;have M:=M.Ec;refine asn fun K6 rM=>ah<|kz F rf (j5 rfl (F.u rf) (F.u rf)) fun _ F=>aso<|rM _ _ ?_
 refine asn fun K7 uj=>?_
 refine asq (F.e 13 rfl) (fun hc2=>?_) (fun hc2=>?_)
 ·have hd3:=of_decide_eq_true hc2;refine wp_skip<|uj _ _ ?_;refine asn fun K8 Bc=>asp<|asn fun K9 zx=>?_
  have hlt:m<p.rules.length:=by omega
  obtain⟨y,hy⟩:∃ y,p.rules[m]?=some y:=⟨_,ash hlt⟩;obtain⟨b9,ob9,rfl,adv⟩:=Ua m hlt
  have aga:∀ j uu,[.int .i64 y.kind,.int .u64 y.src.a,.int .u64 y.src.b,.int .u64 y.src.c,.int .u64 y.src.d,.int .u64 y.tgt.a,.int .u64 y.tgt.b,.int .u64 y.tgt.c,.int .u64 y.tgt.d,.bool y.self,.int .i64 y.cls,.int .u32 y.perms,.int .i64 y.cond][j]?=some uu→w0.cell? ⟨b9,ob9+m*13+j,none⟩=some uu:=fun j u hu=>adv j u (by
   rw[lX aj.dV hy j (asc.1 hu).1];exact hu)
  clear adv;have pU:=hok.rules y (asa hy)
  have hlN:N.length≤4096:=by
   have h:=congrArg List.length Cq;rw[ar9,ar9] at h;rw[h];exact asb (List.length_take_le _ _) (asb (Nat.le_of_lt hlt) hcr)
  refine ah<|
   kz F rf (bT (i:=m) rfl (F.u rf) (F.u rf) (by omega) u30 rS) fun _ F=>
   kz F rf (gu [.int .i64 y.kind,.int .u64 y.src.a,.int .u64 y.src.b,.int .u64 y.src.c,.int .u64 y.src.d,.int .u64 y.tgt.a,.int .u64 y.tgt.b,.int .u64 y.tgt.c,.int .u64 y.tgt.d,.bool y.self,.int .i64 y.cls,.int .u32 y.perms,.int .i64 y.cond] rfl (F.u rf) VT rfl rS (cG (MR.below.trans M.below) aga)) fun _ F=>
   Lq (on rfl) rfl oH rfl F rfl M fun g4 _ _ F M=>
   Lm (on rfl) rfl (F.u rf) (F.u rf) F M 0 rfl rS rfl rfl rfl fun _ M=>
   aso<|
   zx _ _ ?_
  have hT8:fF _ w0.heap.size tp mb c0 c1 c2 c3 c4 (.slice gW p.bools.length gU) c6 c7 c8 (.slice (some ⟨b9,ob9,none⟩) p.rules.length Vv) aS aN aM aR aQ aP aO (aI p.bools.length) (dR (aI p.bools.length) p.bools.length p.conds):=⟨M.b 1 rfl,⟨_,M.map 2 rfl,hL.old M.old⟩,⟨M.lo _ (asa (i:=1) rfl),M.lo _ (asa (i:=2) rfl)⟩⟩;have agn:∀ k∈[mb],w0.heap.size≤k:=fun k hk=>by rw[ar5.1 hk];exact hT8.lo.2
  refine rdS (F4 w0.heap.size tp mb c0 c1 c2 c3 c4 (.slice gW p.bools.length gU) c6 c7 c8 (.slice (some ⟨b9,ob9,none⟩) p.rules.length Vv) aS aN aM aR aQ aP aO (aI p.bools.length) (dR (aI p.bools.length) p.bools.length p.conds)) Kl Kk 7 [16,17,18,19,20,21,22] [kr (v),kr (.agg #[.int .i64 y.kind,.int .u64 y.src.a,.int .u64 y.src.b,.int .u64 y.src.c,.int .u64 y.src.d,.int .u64 y.tgt.a,.int .u64 y.tgt.b,.int .u64 y.tgt.c,.int .u64 y.tgt.d,.bool y.self,.int .i64 y.cls,.int .u32 y.perms,.int .i64 y.cond]),kr (.pointer (some ⟨tp,0,none⟩)),kr (.agg #[.int .i64 y.kind,.int .u64 y.src.a,.int .u64 y.src.b,.int .u64 y.src.c,.int .u64 y.src.d,.int .u64 y.tgt.a,.int .u64 y.tgt.b,.int .u64 y.tgt.c,.int .u64 y.tgt.d,.bool y.self,.int .i64 y.cls,.int .u32 y.perms,.int .i64 y.cond]),(OJ w0.heap.size mb (dR (aI p.bools.length) p.bools.length p.conds (EF y))),(aek w0.heap.size mb y (dR (aI p.bools.length) p.bools.length p.conds (EF y))),(SlG M.wd w0.heap.size mb y (dR (aI p.bools.length) p.bools.length p.conds (EF y)))] (by kernel_rfl) (by kernel_rfl) (by kernel_rfl) rfl (by decide) rfl rfl F ⟨qW _ _,qW _ _,qW _ _,qW _ _,Li,P4,Tn,trivial⟩ ⟨?_,?_,?_,?_,?_,?_,?_,trivial⟩ ?_
  ·exact fun a w Q' hf hi H G hK hE=>dv (on rfl) (ef rfl (G 4 _ rfl (F.g 4 rfl)).ev) rfl hf rfl hK rfl
  ·exact fun a w Q' hf hi H G hK hE=>dv (on rfl) (zA rfl (G 6 _ rfl (F.g 6 rfl)).ev VT rfl (hi.1.whole (M.b 0 rfl) (Qv (fZ (M.b 0 rfl) (M.map 2 rfl)))) rS rfl) rfl hf rfl hK rfl
  ·exact fun a w Q' hf hi H G hK hE=>dv (on rfl) (ef rfl (G 3 _ rfl (F.g 3 rfl)).ev) rfl hf rfl hK rfl
  ·exact fun a w Q' hf hi H G hK hE=>dv (on rfl) (zA rfl (G 6 _ rfl (F.g 6 rfl)).ev VT rfl (hi.1.whole (M.b 0 rfl) (Qv (fZ (M.b 0 rfl) (M.map 2 rfl)))) rS rfl) rfl hf rfl hK rfl
  ·exact fun a w Q' hf hi H G hK hE=>dxS (on rfl) (eZ rfl Tryz.func151 acC rfl (args2 (iA (H 2 ⟨.data,by simp,rfl⟩ _ _ rfl rfl)).ev (iA (H 3 ⟨.data,by simp,rfl⟩ _ _ rfl rfl)).ev)) (Ql _ w0.heap.size tp mb _ _ _ _ _ _ _ _ _ _ _ _ _ _ _ _ gW p.bools.length gU (aI p.bools.length) p.conds hn (hp.conds.keep ((MR.below.trans M.below).trans (hi.1.below M.big agn))) hcl y (hok.rules y (asa hy)).cond (hi.2 hT8)) rfl hf rfl hE
  ·intro a w Q' hf hi H G hK hE;obtain⟨_,h20,Xb,rfl,hg8,WV,Z4⟩:=H 4 ⟨.data,by simp,rfl⟩ _ _ rfl rfl;exact dv (on rfl) (ux rfl (pv:=#[(0,.agg #[.int .i64 y.kind,.int .u64 y.src.a,.int .u64 y.src.b,.int .u64 y.src.c,.int .u64 y.src.d,.int .u64 y.tgt.a,.int .u64 y.tgt.b,.int .u64 y.tgt.c,.int .u64 y.tgt.d,.bool y.self,.int .i64 y.cls,.int .u32 y.perms,.int .i64 y.cond]),(1,.slice (some ⟨Xb,0,none⟩) 1 1)]) (by simp[(iA (H 1 ⟨.data,by simp,rfl⟩ _ _ rfl rfl)).ev,h20.ev]) (cells:=#[.int .i64 y.kind,.int .u64 y.src.a,.int .u64 y.src.b,.int .u64 y.src.c,.int .u64 y.src.d,.int .u64 y.tgt.a,.int .u64 y.tgt.b,.int .u64 y.tgt.c,.int .u64 y.tgt.d,.bool y.self,.int .i64 y.cls,.int .u32 y.perms,.int .i64 y.cond,.slice (some ⟨Xb,0,none⟩) 1 1]) (by kernel_rfl)) rfl hf rfl hK ⟨Xb,rfl,hg8,WV,Z4⟩
  ·intro a w Q' hf hi H G hK hE;obtain⟨_,h21,Xb,rfl,hg8,WV,Z4⟩:=H 5 ⟨.data,by simp,rfl⟩ _ _ rfl rfl;exact dn (f:=fun n=>.slice (some ⟨n,0,none⟩) 1 1) (on rfl) (oq rfl yw jC wR (by decide) (by decide) (pv:=#[(0,.agg #[.int .i64 y.kind,.int .u64 y.src.a,.int .u64 y.src.b,.int .u64 y.src.c,.int .u64 y.src.d,.int .u64 y.tgt.a,.int .u64 y.tgt.b,.int .u64 y.tgt.c,.int .u64 y.tgt.d,.bool y.self,.int .i64 y.cls,.int .u32 y.perms,.int .i64 y.cond,.slice (some ⟨Xb,0,none⟩) 1 1])]) (by simp[h21.ev]) (cells:=#[.int .i64 y.kind,.int .u64 y.src.a,.int .u64 y.src.b,.int .u64 y.src.c,.int .u64 y.src.d,.int .u64 y.tgt.a,.int .u64 y.tgt.b,.int .u64 y.tgt.c,.int .u64 y.tgt.d,.bool y.self,.int .i64 y.cls,.int .u32 y.perms,.int .i64 y.cond,.slice (some ⟨Xb,0,none⟩) 1 1]) (by kernel_rfl)) rfl hf rfl hK (fun b w' n=>⟨b,Xb,rfl,n.whole,n.at_▸hi.1.size,by have:=n.at_;have:=(M.map 2 rfl).lt;have:=hi.1.size;omega,Whole.under n.below hg8 hg8.lt,WV,Z4⟩)
  (repeat clear F);intro _ _ JC F D
  obtain⟨_,h,rfl⟩:=D 0 _ _ rfl rfl;have F:=F.add h;obtain⟨_,h,b8,Xb,rfl,hb8,agO,-,hg8,WV,-⟩:=D 6 _ _ rfl rfl;have F:=F.add h;obtain⟨agS,⟨L9,Oa,hL9⟩,-⟩:=JC.2 hT8;have M:=M.VW 2 rfl JC.1 Oa hb8 agO;have hN:=hN.old M.old;have MR:=MR.comp M;have M:=M.Ec;have hL:BZ _ _ _ _:=hL9;clear D JC;intro Qt hQt;refine kp (on rfl) rfl yw TH rfl M 0 rfl (F.u rf) (F.u rf) (M.slice 0 rfl rfl rfl (by simp[maxLen])) ⟨by unfold maxLen;omega,by omega⟩ rfl F rfl fun v5 _ _ F M=>aso (hQt _ _ ?_)
  intro Qt hQt;refine xA F rf rf rf fun _ F=>aso (hQt _ _ ?_)
  refine Bc _ _ ?_
  refine ah<|
   ke (on rfl) (fS rfl (F.u rf) rfl) rfl F rfl (congrArg (Value.int .i64) (wrap_i64 (by omega))) fun _ F=>
   xM F rf rf rf fun _ F=>
   aso<|?_
  exact⟨(m+1,v5,N++[((y,(dR (aI p.bools.length) p.bools.length p.conds (EF y))),Xb)],L9),⟨F.sub ⟨rfl,rfl,rfl,rfl,rfl,trivial⟩,(MR.comp (M.only (.cons _ (.cons _ (.cons_cons _ (.cons_cons _ .slnil)))) (.cons_cons _ .slnil))).cast rfl (by rw[asi,asl];rfl),by omega,Kv hy Cq,(hN.old M.old).snoc (M.old _ _ hg8) WV,hL.old M.old⟩,by show p.rules.length-(m+1)<p.rules.length-m;omega⟩
 ·have hd6:=of_decide_eq_false hc2;refine wp_exit<|qd _ _ ?_;refine asn fun VE mG=>ah<|xM F rf rf rf fun _ F=>xA F rf rf rf fun _ F=>aso<|mG _ _ ?_
  refine wp_ret<|bS _ _ _ _ F rfl ?_;exact⟨_,rfl,⟨N,(by rw[Cq,List.take_of_length_le (by omega)]),M.r 0 rfl,hN⟩,(MR.below.trans M.below)⟩
theorem Lc{s:ay}{k:Nat}:k∈elems s↔k<256∧s.has k=true:=by
 unfold elems eY;rw[List.mem_filter,List.mem_range]
theorem bI{r:aj}{s o:Nat}(hs:s<256)(ho:o<256):(s,o)∈r.pairs↔r.src.has s=true∧(r.tgt.has o||r.self&&decide (s=o))=true:=by
 unfold aj.pairs aj.eA;simp only[List.mem_flatMap,ar8,Prod.mk.injEq,Lc];constructor
 ·rintro⟨a,⟨-,ha⟩,b,⟨-,hb⟩,rfl,rfl⟩;refine⟨ha,?_⟩;unfold aj.tgts at hb
  cases hq:r.self with
  | false=>rw[hq] at hb;simpa using hb
  | true=>
   rw[hq,if_pos rfl] at hb;unfold ay.with at hb;rw[if_pos ⟨by omega,by omega⟩,Int.toNat_natCast,ay.has_add _ hs ho] at hb;rcases Bool.or_eq_true_iff.1 hb with h|h
   ·have:b=a:=by simpa using h
    subst this;simp
   ·simp[h]
 ·rintro⟨h1,h2⟩;refine⟨s,⟨hs,h1⟩,o,⟨ho,?_⟩,rfl,rfl⟩;unfold aj.tgts
  cases hq:r.self with
  | false=>rw[hq] at h2;simpa using h2
  | true=>
   rw[if_pos rfl]
   unfold ay.with
   rw[if_pos ⟨by omega,by omega⟩,Int.toNat_natCast,ay.has_add _ hs ho];rw[hq] at h2;rcases Bool.or_eq_true_iff.1 h2 with h|h
   ·simp[h]
   ·have:s=o:=by simpa using h
    subst this;simp
theorem iX{r:aj}{p:Nat×Nat}(h:p∈r.pairs):p.1<256∧p.2<256:=by
 unfold aj.pairs aj.eA at h;obtain⟨s,hs,hp⟩:=List.mem_flatMap.1 h;obtain⟨t,ht,rfl⟩:=ar8.1 hp;simp[elems,eY] at hs ht;exact⟨hs.1,ht.1⟩
def ib(x:Int)(r:Nat):Bool:=x.toNat.testBit r
def sS(x:Int):Prop:=0≤x∧x<18446744073709551616
def nw(x:Int):Prop:=0≤x∧x<4294967296
theorem yM(n:Int):IntKind.u64.wrap n=n%18446744073709551616:=by simp[IntKind.wrap,IntKind.bits,IntKind.signed]
theorem dB(op:BinOp)(a b:Int):sS (bits op .u64 a b):=by
 unfold bits;simp only[yM];constructor<;>omega
theorem mO(op:BinOp)(a b:Int):nw (bits op .u32 a b):=by
 unfold bits;simp only[IntKind.wrap_u32];constructor<;>omega
theorem xD{x:Int}(h:sS x):(BitVec.ofInt 64 x).toNat=x.toNat:=by
 obtain⟨a,rfl⟩:=Int.eq_ofNat_of_zero_le h.1;rw[BitVec.ofInt_natCast,BitVec.toNat_ofNat];have:=h.2;simp only[Int.toNat_natCast];exact Nat.mod_eq_of_lt (by omega)
theorem j4(op:BinOp){a b:Int}(ha:sS a)(hb:sS b)(r:Nat):ib (bits op .u64 a b) r=match op with|.and=>ib a r&&ib b r|.or=>ib a r||ib b r|.xor=>ib a r ^^ ib b r|_=>ib a r&&!ib b r:=by
 have key:∀ v:BitVec 64,ib (IntKind.u64.wrap (v.toNat:Int)) r=v.getLsbD r:=by
  intro v;have:=v.isLt;unfold ib;rw[yM,Int.emod_eq_of_lt (by omega) (by omega),Int.toNat_natCast];rfl
 have ga:(BitVec.ofInt 64 a).getLsbD r=ib a r:=by unfold BitVec.getLsbD;rw[xD ha];rfl
 have gb:(BitVec.ofInt 64 b).getLsbD r=ib b r:=by unfold BitVec.getLsbD;rw[xD hb];rfl
 have anf:ib b r=true→r<64:=fun h=>by rw[← gb] at h;exact BitVec.lt_of_getLsbD h
 have aaA:ib a r=true→r<64:=fun h=>by rw[← ga] at h;exact BitVec.lt_of_getLsbD h
 unfold bits;show ib (IntKind.u64.wrap ((BitVec.toNat (match op with|.and=>BitVec.ofInt 64 a&&&BitVec.ofInt 64 b|.or=>BitVec.ofInt 64 a|||BitVec.ofInt 64 b|.xor=>BitVec.ofInt 64 a ^^^ BitVec.ofInt 64 b|_=>BitVec.ofInt 64 a&&&~~~BitVec.ofInt 64 b):Nat):Int)) r=_;rw[key];cases op<;>simp only[BitVec.getLsbD_and,BitVec.getLsbD_or,BitVec.getLsbD_xor,BitVec.getLsbD_not,ga,gb] <;>
 ·cases h:ib a r<;>simp;intro _;exact aaA h
theorem Ey(r:Nat):ib 18446744073709551615 r=decide (r<64):=by
 unfold ib;rw[show(18446744073709551615:Int).toNat=2^64-1 from rfl,Nat.testBit_two_pow_sub_one]
theorem WL(n r:Nat):ib (2^n-1) r=decide (r<n):=by
 unfold ib
 have:((2:Int)^n-1).toNat=2^n-1:=by
  rw[show((2:Int)^n-1)=((2^n-1:Nat):Int) by rw[Int.natCast_sub (Nat.two_pow_pos n)];simp];exact Int.toNat_natCast _
 rw[this,Nat.testBit_two_pow_sub_one]
theorem AZ{x y:Int}(hx:0≤x)(hy:0≤y)(h:∀ r,ib x r=ib y r):x=y:=by
 have:=Nat.eq_of_testBit_eq (x:=x.toNat) (y:=y.toNat) h;omega
theorem gj(r:Nat):ib 0 r=false:=by unfold ib;simp
theorem VF(n:Int):IntKind.u32.wrap n=n%4294967296:=by simp[IntKind.wrap,IntKind.bits,IntKind.signed]
theorem rL{x:Int}(h:nw x):(BitVec.ofInt 32 x).toNat=x.toNat:=by
 obtain⟨a,rfl⟩:=Int.eq_ofNat_of_zero_le h.1;rw[BitVec.ofInt_natCast,BitVec.toNat_ofNat];have:=h.2;simp only[Int.toNat_natCast];exact Nat.mod_eq_of_lt (by omega)
theorem uh(op:BinOp){a b:Int}(ha:nw a)(hb:nw b)(r:Nat):ib (bits op .u32 a b) r=match op with|.and=>ib a r&&ib b r|.or=>ib a r||ib b r|.xor=>ib a r ^^ ib b r|_=>ib a r&&!ib b r:=by
 have key:∀ v:BitVec 32,ib (IntKind.u32.wrap (v.toNat:Int)) r=v.getLsbD r:=by
  intro v;have:=v.isLt;unfold ib;rw[VF,Int.emod_eq_of_lt (by omega) (by omega),Int.toNat_natCast];rfl
 have ga:(BitVec.ofInt 32 a).getLsbD r=ib a r:=by unfold BitVec.getLsbD;rw[rL ha];rfl
 have gb:(BitVec.ofInt 32 b).getLsbD r=ib b r:=by unfold BitVec.getLsbD;rw[rL hb];rfl
 have aaA:ib a r=true→r<32:=fun h=>by rw[← ga] at h;exact BitVec.lt_of_getLsbD h
 unfold bits;show ib (IntKind.u32.wrap ((BitVec.toNat (match op with|.and=>BitVec.ofInt 32 a&&&BitVec.ofInt 32 b|.or=>BitVec.ofInt 32 a|||BitVec.ofInt 32 b|.xor=>BitVec.ofInt 32 a ^^^ BitVec.ofInt 32 b|_=>BitVec.ofInt 32 a&&&~~~BitVec.ofInt 32 b):Nat):Int)) r=_;rw[key];cases op<;>simp only[BitVec.getLsbD_and,BitVec.getLsbD_or,BitVec.getLsbD_xor,BitVec.getLsbD_not,ga,gb] <;>
 ·cases h:ib a r<;>simp;intro _;exact aaA h
theorem TP(k r:Nat):ib ((2:Int)^k) r=decide (k=r):=by
 unfold ib;rw[show((2:Int)^k).toNat=2^k by rw[show((2:Int)^k)=((2^k:Nat):Int) by simp];exact Int.toNat_natCast _,Nat.testBit_two_pow]
theorem Ew{x:Int}(h:0≤x):x=0↔∀ r,ib x r=false:=⟨fun e r=>by rw[e];exact gj r,fun H=>AZ h (Int.le_refl _) fun r=>by rw[H r,gj]⟩
theorem WM{x:Int}(h:nw x){r:Nat}(hr:ib x r=true):r<32:=by
 refine Classical.byContradiction fun hn=>?_
 unfold ib at hr;have h2:x.toNat<2^r:=Nat.lt_of_lt_of_le (show x.toNat<2^32 by have:=h.2;have:=h.1;omega) (Nat.pow_le_pow_right (by decide) (by omega));rw[Nat.testBit_lt_two_pow h2] at hr;cases hr
theorem Xx(k:Nat):nw (mK k):=by
 unfold mK;split
 ·rename_i h;refine⟨Int.pow_nonneg (by decide),?_⟩;have h2:(2:Nat)^k<2^32:=Nat.pow_lt_pow_right (by decide) h;rw[show((2:Int)^k)=((2^k:Nat):Int) by simp];omega
 ·exact⟨Int.le_refl _,by decide⟩
theorem FW{p:Int}(hp:nw p){k:Nat}(hk:k<32):decide (bits .and .u32 p (mK k)=0)=!ib p k:=by
 have h:=uh .and hp (Xx k);have hb:∀ r,ib (mK k) r=decide (k=r):=fun r=>by unfold mK;rw[if_pos hk];exact TP k r
 cases e:ib p k with
 | true=>
  rw[decide_eq_false];rfl;intro h0;have h1:=h k;rw[h0,gj,e,hb] at h1;simp at h1
 | false=>
  rw[decide_eq_true];rfl;refine(Ew (mO _ _ _).1).2 fun r=>?_
  rw[h r,hb];by_cases hkr:k=r
  ·subst hkr;simp[e]
  ·simp[hkr]
def Gv(l:List (aj×Int))(kind cls:Int)(s t k r:Nat):Prop:=∃ y∈l,y.1.kind=kind∧y.1.cls=cls∧ib y.1.perms k=true∧lI y.1 s t=true∧ib y.2 r=true
structure OQ (l:List (aj×Int)):Prop where
 perms:∀ y∈l,nw y.1.perms
 zP:∀ y∈l,sS y.2
theorem GR{s t:Int}{k:Nat}(hk:k<32):∀ (l:List (aj×Int)) (x:Int),OQ l→sS x→sS (l.foldl (vv s t (mK k)) x)∧∀ r,ib (l.foldl (vv s t (mK k)) x) r=(ib x r&&l.all fun y=>!(ib y.1.perms k&&lI y.1 s t&&ib y.2 r))
 | [],x,_,hx=>⟨hx,fun r=>by simp⟩
 | y::l,x,hl,hx=>by
  have hl':OQ l:=⟨fun z hz=>hl.perms z (by simp[hz]),fun z hz=>hl.zP z (by simp[hz])⟩;have hy:=hl.perms y (by simp);have hw:=hl.zP y (by simp);rw[List.foldl_cons]
  have e:vv s t (mK k) x y=if (ib y.1.perms k&&lI y.1 s t)=true then bits .andNot .u64 x y.2 else x:=by
   unfold vv;rw[FW hy hk];cases ib y.1.perms k<;>cases lI y.1 s t<;>rfl
  have hx':sS (vv s t (mK k) x y):=by rw[e];split;exact dB _ _ _;exact hx
  obtain⟨h1,h2⟩:=GR hk l _ hl' hx';refine⟨h1,fun r=>?_⟩;rw[h2 r,e,List.all_cons];split
  ·rename_i hc;rw[j4 .andNot hx hw r,hc,Bool.true_and,← Bool.and_assoc]
  ·rename_i hc;rw[show(ib y.1.perms k&&lI y.1 s t)=false by simpa using hc];simp
theorem Ng{l:List (aj×Int)}{x:Int}(hl:OQ l)(hx:sS x){s t:Int}{k:Nat}(hk:k<32):O9 x l s t (mK k)=true↔∀ r,ib x r=true→∃ y∈l,ib y.1.perms k=true∧lI y.1 s t=true∧ib y.2 r=true:=by
 obtain⟨h1,h2⟩:=GR (s:=s) (t:=t) hk l x hl hx;unfold O9;rw[decide_eq_true_iff,Ew h1.1];constructor
 ·intro H r hr;have h:=H r;rw[h2 r,hr,Bool.true_and,List.all_eq_false] at h;obtain⟨y,hy,hn⟩:=h;refine⟨y,hy,?_⟩;simpa[asu,and_assoc] using hn
 ·intro H r;rw[h2 r]
  cases e:ib x r with
  | false=>rfl
  | true=>
   obtain⟨y,hy,a1,a2,a3⟩:=H r e;rw[Bool.true_and,List.all_eq_false];exact⟨y,hy,by simp[a1,a2,a3]⟩
theorem Xc(r:aj){s t:Nat}(hs:s<256)(ht:t<256):lI r s t=(r.src.has s&&(r.tgt.has t||r.self&&decide (s=t))):=by
 have e1:∀ (a:ay) (n:Nat),n<256→a.mem (n:Int)=a.has n:=fun a n hn=>by
  unfold ay.mem;rw[Int.toNat_natCast,decide_eq_true (by omega:(0:Int)≤n∧(n:Int)<256),Bool.true_and]
 have e2:decide ((s:Int)=(t:Int))=decide (s=t):=decide_eq_decide.2 (by omega);unfold lI;rw[e1 _ _ hs,e1 _ _ ht,e2]
theorem kL{r:aj}{s t:Nat}(hs:s<256)(ht:t<256):lI r s t=true↔(s,t)∈r.pairs:=by
 rw[Xc r hs ht,bI hs ht,asu]
theorem Wy{x y:aj}(hx:nw x.perms)(hy:nw y.perms)(h1:y.kind=x.kind)(h2:y.cls=x.cls){k:Nat}(hk1:ib x.perms k=true)(hk2:ib y.perms k=true):kU x y=true:=by
 unfold kU;rw[decide_eq_true h1,decide_eq_true h2,decide_eq_false];rfl;intro h0;have h:=uh .and hy hx k;rw[h0,gj,hk1,hk2] at h;cases h
theorem E1{x:aj×Int}{l:List (aj×Int)}(hx:nw x.1.perms)(hw:sS x.2)(hl:OQ l):iz x l=true↔∀ s t k r:Nat,s<256→t<256→lI x.1 s t=true→ib x.1.perms k=true→ib x.2 r=true→Gv l x.1.kind x.1.cls s t k r:=by
 have hf:OQ (l.filter fun y=>kU x.1 y.1):=⟨fun y hy=>hl.perms y (List.mem_filter.1 hy).1,fun y hy=>hl.zP y (List.mem_filter.1 hy).1⟩;unfold iz;rw[Bool.or_eq_true,decide_eq_true_iff];constructor
 ·intro H s t k r hs ht hg hk hr;rcases H with H|H
  ·rw[H,gj] at hr;cases hr
  ·have Ba:=WM hx hk;have h:=asd.1 (asd.1 H (s,t) ((kL hs ht).1 hg)) k (List.mem_range.2 Ba);unfold Ji at h;rw[FW hx Ba,hk] at h;obtain⟨y,hy,a1,a2,a3⟩:=(Ng hf hw Ba).1 (by simpa using h) r hr;obtain⟨b1,b2⟩:=List.mem_filter.1 hy;unfold kU at b2;simp only[asu,decide_eq_true_iff] at b2;exact⟨y,b1,b2.1.1,b2.1.2,a1,a2,a3⟩
 ·intro H;refine .inr (asd.2 fun p hp=>asd.2 fun k hk=>?_);have Ba:=List.mem_range.1 hk;obtain⟨hs,ht⟩:=iX hp;unfold Ji;rw[FW hx Ba]
  cases e:ib x.1.perms k with
  | false=>rfl
  | true=>
   have:O9 x.2 (l.filter fun y=>kU x.1 y.1) p.1 p.2 (mK k)=true:=(Ng hf hw Ba).2 fun r hr=>by
    obtain⟨y,hy,a1,a2,a3,a4,a5⟩:=H p.1 p.2 k r hs ht ((kL hs ht).2 hp) e hr;exact⟨y,List.mem_filter.2 ⟨hy,Wy hx (hl.perms y hy) a1 a2 e a3⟩,a3,a4,a5⟩
   rw[this];rfl
theorem zn{a b:List (aj×Int)}(ha:OQ a)(hb:OQ b):ud a b=true↔∀ (kind cls:Int) (s t k r:Nat),s<256→t<256→Gv a kind cls s t k r→Gv b kind cls s t k r:=by
 unfold ud;rw[asd];constructor
 ·rintro H kind cls s t k r hs ht ⟨y,hy,rfl,rfl,a3,a4,a5⟩;exact(E1 (ha.perms y hy) (ha.zP y hy) hb).1 (H y hy) s t k r hs ht a4 a3 a5
 ·intro H x hx;exact(E1 (ha.perms x hx) (ha.zP x hx) hb).2 fun s t k r hs ht hg hk hr=>H _ _ s t k r hs ht ⟨x,hx,rfl,rfl,hk,hg,hr⟩
def Cr(n r:Nat)(op a:Int)(l:List Bool):Bool:=
 if cQ n op a l.length=true then false else if op=1 then r.testBit a.toNat else if op=2 then !(l.getD 0 false) else
  if op=3 then l.getD 0 false&&l.getD 1 false else if op=4 then l.getD 0 false||l.getD 1 false else if op=6 then !(l.getD 0 false ^^ l.getD 1 false) else l.getD 0 false ^^ l.getD 1 false
mutual
def nD(n r:Nat):aq→Bool
 | .node op a _ _ _ _ kids=>Cr n r op a (VD n r kids)
def VD(n r:Nat):List aq→List Bool
 | []=>[]
 | k::l=>nD n r k::VD n r l
end
theorem mH(n r:Nat)(e:aq):nD n r e=Cr n r e.op e.a (VD n r e.kids):=by cases e;rw[nD];rfl
theorem yO{n:Nat}(h:n≤5):sS (aI n):=by
 unfold sS aI;rcases five h with rfl|rfl|rfl|rfl|rfl|rfl<;>decide
theorem ug(n r:Nat):ib (aI n) r=decide (r<2^n):=WL (2^n) r
theorem zR:sS 18446744073709551615:=by unfold sS;decide
theorem mN:sS 0:=by unfold sS;decide
theorem KX(u x:Int):sS (notM u x):=dB _ _ _
theorem vY{n:Nat}(hn:n≤5){x:Int}(hx:sS x)(r:Nat):ib (notM (aI n) x) r=(decide (r<2^n)&&!ib x r):=by
 have h6:=nt6 hn;unfold notM;rw[j4 .and (dB _ _ _) (yO hn),j4 .xor zR hx,Ey,ug];by_cases h:r<2^n
 ·simp[h,show r<64 by omega]
 ·simp[h]
theorem BL{i:Int}{k:Nat}(hk:k<64):jA i k=k.testBit i.toNat:=by
 unfold jA
 have e:((0*64+(k:Int))/2^i.toNat)=((k/2^i.toNat:Nat):Int):=by
  rw[show(0*64+(k:Int))=(k:Int) by omega,Int.natCast_ediv];simp
 have hd:k/2^i.toNat<64:=Nat.lt_of_le_of_lt (Nat.div_le_self _ _) hk;have hb:=(bits_nat .i64 63 (by decide) (fun n h0 h1=>by rw[IntKind.wrap_i64];omega) (k/2^i.toNat) 1 (by omega) (by decide)).1;rw[e];have h1:((1:Nat):Int)=1:=rfl;rw[h1] at hb;rw[hb,Nat.and_one_is_mod,Nat.testBit_eq_decide_div_mod_eq];exact decide_eq_decide.2 (by omega)
theorem C4{k:Nat}(h:k<64):∃ m:Nat,(2:Int)^k=(m:Int)∧m<18446744073709551616:=
 ⟨2^k,by simp,Nat.pow_lt_pow_right (by decide) h⟩
theorem qZ(i:Int):∀ k,sS (eu i k)
 | 0=>mN
 | k+1=>by
  unfold eu;split
  ·exact dB _ _ _
  ·exact qZ i k
theorem vZ(i:Int)(adi:∀ k:Nat,k<64→jA i k=k.testBit i.toNat):∀ k,k≤64→∀ r,ib (eu i k) r=(decide (r<k)&&r.testBit i.toNat)
 | 0,_,r=>by unfold eu;rw[gj];simp
 | k+1,hk,r=>by
  have ih:=vZ i adi k (by omega) r;have hb:=adi k (by omega)
  have hp:IntKind.u64.wrap (1*2^((k:Int)).toNat)=(2:Int)^k:=by
   rw[yM,Int.toNat_natCast,Int.one_mul];obtain⟨m,e,hm⟩:=C4 (by omega:k<64);rw[e];omega
  have hw:sS ((2:Int)^k):=by
   obtain⟨m,e,hm⟩:=C4 (by omega:k<64);unfold sS;rw[e];omega
  unfold eu;rw[hb,hp];split
  ·rename_i hc;rw[j4 .or (qZ i k) hw,ih,TP];by_cases e:k=r
   ·subst e;simp[hc]
   ·have:decide (r<k+1)=decide (r<k):=decide_eq_decide.2 (by omega);simp[e,this]
  ·rename_i hc;rw[ih];by_cases e:r=k
   ·subst e;simp[show r.testBit i.toNat=false by simpa using hc]
   ·have:decide (r<k+1)=decide (r<k):=decide_eq_decide.2 (by omega);rw[this]
theorem Xv(u i:Int):sS (xV u i):=dB _ _ _
theorem WO{n:Nat}(hn:n≤5)(i:Int)(r:Nat):ib (xV (aI n) i) r=(decide (r<2^n)&&r.testBit i.toNat):=by
 have h6:=nt6 hn;unfold xV;rw[j4 .and (qZ i 64) (yO hn),vZ i (fun k hk=>BL hk) 64 (Nat.le_refl _),ug];by_cases h:r<2^n
 ·simp[h,show r<64 by omega]
 ·simp[h]
theorem aa2{u op x y:Int}:sS (CD u op x y):=by
 unfold CD;split
 ·exact dB _ _ _
 ·split
  ·exact dB _ _ _
  ·split<;>exact dB _ _ _
theorem rQ{n:Nat}(hn:n≤5):∀ e:aq,sS (bJ (aI n) n e)∧∀ r,ib (bJ (aI n) n e) r=(decide (r<2^n)&&nD n r e):=by
 refine aq.ind fun e ih=>?_
 have hlen:∀ l:List aq,(mP (aI n) n l).length=l.length:=fun l=>by induction l with
  | nil=>rw[mP];rfl
  | cons k l h=>rw[mP,List.length_cons,h,List.length_cons]
 have adh:∀ (r:Nat) (l:List aq),(VD n r l).length=l.length:=fun r l=>by induction l with
  | nil=>rw[VD];rfl
  | cons k l h=>rw[VD,List.length_cons,h,List.length_cons]
 have hget:∀ (l:List aq),(∀ k∈l,sS (bJ (aI n) n k)∧∀ r,ib (bJ (aI n) n k) r=(decide (r<2^n)&&nD n r k))→∀ i,sS ((mP (aI n) n l).getD i 0)∧∀ r,ib ((mP (aI n) n l).getD i 0) r=(decide (r<2^n)&&(VD n r l).getD i false):=by
  intro l
  induction l with
  | nil=>intro _ i;rw[mP];exact⟨mN,fun r=>by rw[VD];simp[gj]⟩
  | cons k l h=>
   intro H i;rw[mP]
   cases i with
   | zero=>exact⟨(H k (by simp)).1,fun r=>by rw[VD];exact(H k (by simp)).2 r⟩
   | succ i=>
    have:=h (fun k hk=>H k (by simp[hk])) i;exact⟨this.1,fun r=>by rw[VD];exact this.2 r⟩
 have h0:=hget e.kids ih 0;have h1:=hget e.kids ih 1;rw[tg];unfold J_;constructor
 ·split
  ·exact mN
  ·split
   ·exact Xv _ _
   ·split
    ·exact KX _ _
    ·exact aa2
 ·intro r;rw[mH];unfold Cr;rw[hlen,adh];split
  ·rw[gj];simp
  ·split
   ·exact WO hn e.a r
   ·split
    ·rw[vY hn h0.1,h0.2];by_cases hr:r<2^n<;>simp[hr]
    ·unfold CD;split
     ·rw[j4 .and h0.1 h1.1,h0.2,h1.2];by_cases hr:r<2^n<;>simp[hr]
     ·split
      ·rw[j4 .or h0.1 h1.1,h0.2,h1.2];by_cases hr:r<2^n<;>simp[hr]
      ·split
       ·rw[show bits .and .u64 (bits .xor .u64 18446744073709551615 (bits .xor .u64 ((mP (aI n) n e.kids).getD 0 0) ((mP (aI n) n e.kids).getD 1 0))) (aI n)=notM (aI n) (bits .xor .u64 ((mP (aI n) n e.kids).getD 0 0) ((mP (aI n) n e.kids).getD 1 0)) from rfl,vY hn (dB _ _ _),j4 .xor h0.1 h1.1,h0.2,h1.2];by_cases hr:r<2^n<;>simp[hr]
       ·rw[j4 .xor h0.1 h1.1,h0.2,h1.2];by_cases hr:r<2^n<;>simp[hr]
def uV(n:Nat)(conds:List aq)(k:Int)(r:Nat):Bool:=
 if 0<k∧k≤conds.length then (match conds[(k-1).toNat]? with|some e=>nD n r e|none=>false)
 else if k<0∧0-(conds.length:Int)≤k then !(match conds[(0-k-1).toNat]? with|some e=>nD n r e|none=>false)
 else true
theorem Mn{n:Nat}(hn:n≤5)(conds:List aq)(k:Int):sS (dR (aI n) n conds k)∧∀ r,ib (dR (aI n) n conds k) r=(decide (r<2^n)&&uV n conds k r):=by
 unfold dR uV;by_cases h1:0<k∧k≤conds.length
 ·rw[if_pos h1]
  cases h:conds[(k-1).toNat]? with
  | some e=>exact⟨(rQ hn e).1,fun r=>by rw[if_pos h1];exact(rQ hn e).2 r⟩
  | none=>exact⟨mN,fun r=>by rw[if_pos h1,gj];exact(Bool.and_false _).symm⟩
 ·rw[if_neg h1];by_cases h2:k<0∧0-(conds.length:Int)≤k
  ·rw[if_pos h2];refine⟨KX _ _,fun r=>?_⟩;rw[if_neg h1,if_pos h2]
   cases h:conds[(0-k-1).toNat]? with
   | some e=>
    show ib (notM (aI n) (bJ (aI n) n e)) r=(decide (r<2^n)&&!nD n r e);rw[vY hn (rQ hn e).1,(rQ hn e).2];by_cases hr:r<2^n<;>simp[hr]
   | none=>
    show ib (notM (aI n) 0) r=(decide (r<2^n)&&!false);rw[vY hn mN,gj]
  ·rw[if_neg h2];refine⟨KX _ _,fun r=>?_⟩;rw[if_neg h1,if_neg h2,vY hn mN,gj];simp
def zm(T C:Nat)(r:aj)(p:Nat×Nat):Nat:=(((r.kind-1).toNat*T+p.1)*T+p.2)*C+r.cls.toNat
def Am(at_:Nat)(v:Int)(out:List Int):List Int:=out.set at_ (bits .or .u32 (out.getD at_ 0) v)
def Al(T C:Nat)(r:aj)(out:List Int)(l:List (Nat×Nat)):List Int:=l.foldl (fun o p=>Am (zm T C r p) r.perms o) out
def eH(T C:Nat)(on:aj→Bool)(out:List Int)(l:List aj):List Int:=l.foldl (fun o r=>if on r=true then Al T C r o r.pairs else o) out
structure RV (T C:Nat) (r:aj):Prop where
 kind:1≤r.kind∧r.kind≤4
 cls:0≤r.cls∧r.cls<C
 perms:nw r.perms
 pairs:∀ p∈r.pairs,p.1<T∧p.2<T
theorem G4(i:Nat)(v:Int)(o:List Int):(Am i v o).length=o.length:=List.length_set ..
theorem Ak(T C:Nat)(r:aj):∀ (l:List (Nat×Nat)) (o:List Int),(Al T C r o l).length=o.length
 | [],_=>rfl
 | p::l,o=>by
  show(Al T C r (Am (zm T C r p) r.perms o) l).length=_;rw[Ak T C r l,G4]
theorem nZ(T C:Nat)(on:aj→Bool):∀ (l:List aj) (o:List Int),(eH T C on o l).length=o.length
 | [],_=>rfl
 | r::l,o=>by
  show(eH T C on (if on r=true then Al T C r o r.pairs else o) l).length=_;rw[nZ T C on l];split
  ·exact Ak ..
  ·rfl
theorem Wk{i:Nat}{v:Int}{o:List Int}(hv:nw v)(ho:∀ x∈o,nw x)(hi:i<o.length):(∀ x∈Am i v o,nw x)∧∀ j k,ib ((Am i v o).getD j 0) k=(ib (o.getD j 0) k||(decide (i=j)&&ib v k)):=by
 have hg:nw (o.getD i 0):=by rw[asv,ash hi];exact ho _ (List.getElem_mem hi)
 constructor
 ·intro x hx;rcases List.mem_or_eq_of_mem_set hx with hx|rfl
  ·exact ho x hx
  ·exact mO _ _ _
 ·intro j k;by_cases e:i=j
  ·subst e;rw[show(Am i v o).getD i 0=bits .or .u32 (o.getD i 0) v by unfold Am;rw[asv,List.getElem?_set_self hi];rfl,uh .or hg hv];simp
  ·rw[show(Am i v o).getD j 0=o.getD j 0 by unfold Am;rw[asv,List.getElem?_set_ne e,← asv]];simp[e]
theorem acU{T C:Nat}{r:aj}(h:RV T C r){p:Nat×Nat}(hp:p∈r.pairs):zm T C r p<4*T*T*C:=by
 obtain⟨h1,h2⟩:=h.pairs p hp;have hk:(r.kind-1).toNat≤3:=by have:=h.kind;omega
 have hc:r.cls.toNat<C:=by have:=h.cls;omega
 unfold zm;generalize (r.kind-1).toNat=K at hk ⊢;generalize r.cls.toNat=c at hc ⊢
 have e1:K*T+p.1+1≤4*T:=by
  have:K*T≤3*T:=asw T hk;omega
 have e2:(K*T+p.1)*T+p.2+1≤4*T*T:=by
  have:=asw T e1;rw[Nat.add_mul,Nat.one_mul] at this;omega
 have e3:=asw C e2;rw[Nat.add_mul,Nat.one_mul] at e3;omega
theorem Tx{T C K c s t K' c' s' t':Nat}(hc:c<C)(hc':c'<C)(hs:s<T)(hs':s'<T)(ht:t<T)(ht':t'<T)(h:((K*T+s)*T+t)*C+c=((K'*T+s')*T+t')*C+c'):K=K'∧s=s'∧t=t'∧c=c':=by
 have key:∀ {x y a b m:Nat},a<m→b<m→x*m+a=y*m+b→x=y∧a=b:=by
  intro x y a b m ha hb e;have e1:(x*m+a)/m=x:=by rw[Nat.mul_comm,Nat.mul_add_div (by omega),Nat.div_eq_of_lt ha];omega
  have e2:(y*m+b)/m=y:=by rw[Nat.mul_comm,Nat.mul_add_div (by omega),Nat.div_eq_of_lt hb];omega
  have hx:x=y:=by rw[← e1,e,e2]
  subst hx;exact⟨rfl,by omega⟩
 obtain⟨h1,h2⟩:=key hc hc' h;obtain⟨h3,h4⟩:=key ht ht' h1;obtain⟨h5,h6⟩:=key hs hs' h3;exact⟨h5,h6,h4,h2⟩
theorem Nz{T C:Nat}{r:aj}(hv:nw r.perms):∀ (l:List (Nat×Nat)) (o:List Int),(∀ x∈o,nw x)→(∀ p∈l,zm T C r p<o.length)→(∀ x∈Al T C r o l,nw x)∧∀ j k,ib ((Al T C r o l).getD j 0) k=(ib (o.getD j 0) k||(l.any fun p=>decide (zm T C r p=j))&&ib r.perms k)
 | [],o,ho,_=>⟨ho,fun j k=>by show ib (o.getD j 0) k=_;simp⟩
 | p::l,o,ho,hl=>by
  obtain⟨h1,h2⟩:=Wk hv ho (hl p (by simp));obtain⟨h3,h4⟩:=Nz hv l (Am (zm T C r p) r.perms o) h1 (fun q hq=>by rw[G4];exact hl q (by simp[hq]));refine⟨h3,fun j k=>?_⟩;show ib ((Al T C r (Am (zm T C r p) r.perms o) l).getD j 0) k=_;rw[h4,h2,List.any_cons];cases ib (o.getD j 0) k<;>cases decide (zm T C r p=j)<;>cases ib r.perms k<;>simp
theorem wm{T C:Nat}{on:aj→Bool}:∀ (l:List aj) (o:List Int),(∀ r∈l,RV T C r)→(∀ x∈o,nw x)→o.length=4*T*T*C→(∀ x∈eH T C on o l,nw x)∧∀ j k,ib ((eH T C on o l).getD j 0) k=(ib (o.getD j 0) k||l.any fun r=>(on r&&r.pairs.any fun p=>decide (zm T C r p=j))&&ib r.perms k)
 | [],o,_,ho,_=>⟨ho,fun j k=>by show ib (o.getD j 0) k=_;simp⟩
 | r::l,o,hl,ho,hn=>by
  have hr:=hl r (by simp);have hl':∀ r∈l,RV T C r:=fun q hq=>hl q (by simp[hq])
  cases e:on r with
  | false=>
   obtain⟨h3,h4⟩:=wm l o hl' ho hn;have e':eH T C on o (r::l)=eH T C on o l:=by show eH T C on (if on r=true then _ else o) l=_;rw[e];rfl
   rw[e'];refine⟨h3,fun j k=>?_⟩;rw[h4,List.any_cons,e];simp
  | true=>
   obtain⟨h1,h2⟩:=Nz (T:=T) (C:=C) hr.perms r.pairs o ho (fun p hp=>by rw[hn];exact acU hr hp);obtain⟨h3,h4⟩:=wm (on:=on) l (Al T C r o r.pairs) hl' h1 (by rw[Ak];exact hn);have e':eH T C on o (r::l)=eH T C on (Al T C r o r.pairs) l:=by show eH T C on (if on r=true then _ else o) l=_;rw[e];rfl
   rw[e'];refine⟨h3,fun j k=>?_⟩;rw[h4,h2,List.any_cons,e];simp[Bool.or_assoc]
def dF(T C:Nat)(on:aj→Bool)(l:List aj):List Int:=eH T C on (List.replicate (4*T*T*C) 0) l
theorem je(T C:Nat)(on:aj→Bool)(l:List aj):(dF T C on l).length=4*T*T*C:=by unfold dF;rw[nZ,List.length_replicate]
theorem Wh(n j:Nat):(List.replicate n (0:Int)).getD j 0=0:=by
 rw[asv,List.getElem?_replicate];split<;>rfl
theorem jf{T C:Nat}{on:aj→Bool}{l:List aj}(hl:∀ r∈l,RV T C r):(∀ x∈dF T C on l,nw x)∧∀ j k,ib ((dF T C on l).getD j 0) k=l.any fun r=>(on r&&r.pairs.any fun p=>decide (zm T C r p=j))&&ib r.perms k:=by
 obtain⟨h1,h2⟩:=wm (on:=on) l (List.replicate (4*T*T*C) 0) hl (fun x hx=>by rw[(List.mem_replicate.1 hx).2];exact⟨Int.le_refl _,by decide⟩) List.length_replicate;refine⟨h1,fun j k=>?_⟩;unfold dF;rw[h2,Wh,gj,Bool.false_or]
theorem wu{T C:Nat}{on on':aj→Bool}{l l':List aj}(hl:∀ r∈l,RV T C r)(hl':∀ r∈l',RV T C r):dF T C on l=dF T C on' l' ↔
 ∀ (kind cls:Int) (s t k:Nat),s<256→t<256→((∃ r∈l,on r=true∧r.kind=kind∧r.cls=cls∧ib r.perms k=true∧lI r s t=true)↔∃ r∈l',on' r=true∧r.kind=kind∧r.cls=cls∧ib r.perms k=true∧lI r s t=true):=by
 obtain⟨a1,a2⟩:=jf (on:=on) hl;obtain⟨b1,b2⟩:=jf (on:=on') hl'
 have look:∀ {on:aj→Bool} {l:List aj},(∀ r∈l,RV T C r)→∀ {x:aj} {s t:Nat},RV T C x→s<256→t<256→s<T→t<T→∀ k,((l.any fun r=>(on r&&r.pairs.any fun p=>decide (zm T C r p=zm T C x (s,t)))&&ib r.perms k)=true↔∃ r∈l,on r=true∧r.kind=x.kind∧r.cls=x.cls∧ib r.perms k=true∧lI r s t=true):=by
  intro on l hl x s t hx hs ht hsT htT k;rw[List.any_eq_true];constructor
  ·rintro⟨r,hr,h⟩;simp only[asu,List.any_eq_true,decide_eq_true_iff] at h;obtain⟨⟨h1,p,hp,h2⟩,h3⟩:=h;have hv:=hl r hr;obtain⟨g1,g2⟩:=hv.pairs p hp;have c1:=hv.cls;have c2:=hx.cls;have k1:=hv.kind;have k2:=hx.kind;obtain⟨e1,e2,e3,e4⟩:=Tx (by omega) (by omega) g1 hsT g2 htT h2;refine⟨r,hr,h1,by omega,by omega,h3,?_⟩;rw[kL hs ht];have:p=(s,t):=Prod.ext e2 e3
   rwa [← this]
  ·rintro⟨r,hr,h1,h2,h3,h4,h5⟩;refine⟨r,hr,?_⟩;rw[h1,h4,Bool.true_and,Bool.and_true,List.any_eq_true];exact⟨(s,t),(kL hs ht).1 h5,decide_eq_true (by unfold zm;rw[h2,h3])⟩
 constructor
 ·intro H kind cls s t k hs ht
  have one:∀ {on on':aj→Bool} {l l':List aj},(∀ r∈l,RV T C r)→(∀ r∈l',RV T C r)→dF T C on l=dF T C on' l'→(∃ r∈l,on r=true∧r.kind=kind∧r.cls=cls∧ib r.perms k=true∧lI r s t=true)→∃ r∈l',on' r=true∧r.kind=kind∧r.cls=cls∧ib r.perms k=true∧lI r s t=true:=by
   rintro on on' l l' hl hl' H ⟨r,hr,h1,rfl,rfl,h4,h5⟩;have hv:=hl r hr;obtain⟨g1,g2⟩:=hv.pairs _ ((kL hs ht).1 h5);refine(look hl' hv hs ht g1 g2 k).1 ?_;rw[← (jf hl').2,← H,(jf hl).2];exact(look hl hv hs ht g1 g2 k).2 ⟨r,hr,h1,rfl,rfl,h4,h5⟩
  exact⟨one hl hl' H,one hl' hl H.symm⟩
 ·intro H;refine List.ext_getElem? fun j=>?_
  have el:∀ {o:List Int} {j:Nat},j<o.length→o[j]?=some (o.getD j 0):=fun hj=>by rw[asv,ash hj];rfl
  by_cases hj:j<4*T*T*C
  ·rw[el (by rw[je];exact hj),el (by rw[je];exact hj)];congr 1;have m1:nw ((dF T C on l).getD j 0):=a1 _ (asa (el (by rw[je];exact hj)));have m2:nw ((dF T C on' l').getD j 0):=b1 _ (asa (el (by rw[je];exact hj)));refine AZ m1.1 m2.1 fun k=>?_
   rw[a2,b2]
   have one:∀ {on on':aj→Bool} {l l':List aj},(∀ r∈l,RV T C r)→(∀ r∈l',RV T C r) →
    (∀ (kind cls:Int) (s t k:Nat),s<256→t<256→(∃ r∈l,on r=true∧r.kind=kind∧r.cls=cls∧ib r.perms k=true∧lI r s t=true)→∃ r∈l',on' r=true∧r.kind=kind∧r.cls=cls∧ib r.perms k=true∧lI r s t=true) →
    (l.any fun r=>(on r&&r.pairs.any fun p=>decide (zm T C r p=j))&&ib r.perms k)=true→(l'.any fun r=>(on' r&&r.pairs.any fun p=>decide (zm T C r p=j))&&ib r.perms k)=true:=by
    intro on on' l l' hl hl' H h;obtain⟨r,hr,h⟩:=List.any_eq_true.1 h;simp only[asu,List.any_eq_true,decide_eq_true_iff] at h;obtain⟨⟨h1,p,hp,rfl⟩,h3⟩:=h;have hv:=hl r hr;obtain⟨g1,g2⟩:=hv.pairs p hp;obtain⟨q1,q2⟩:=iX hp;exact(look hl' hv q1 q2 g1 g2 k).2 (H _ _ _ _ _ q1 q2 ⟨r,hr,h1,rfl,rfl,h3,(kL q1 q2).2 hp⟩)
   rw[asx];exact⟨one hl hl' fun kind cls s t k hs ht=>(H kind cls s t k hs ht).1,one hl' hl fun kind cls s t k hs ht=>(H kind cls s t k hs ht).2⟩
  ·rw[List.getElem?_eq_none (by rw[je];omega),List.getElem?_eq_none (by rw[je];omega)]
def XW(nB:Nat)(conds:List aq)(l:List aj):List (aj×Int):=l.map fun y=>(y,dR (aI nB) nB conds (EF y))
theorem KA{nB:Nat}(hn:nB≤5){conds:List aq}{l:List aj}(hl:∀ r∈l,nw r.perms):OQ (XW nB conds l):=by
 constructor
 ·intro y hy;obtain⟨r,hr,rfl⟩:=ar8.1 hy;exact hl r hr
 ·intro y hy;obtain⟨r,hr,rfl⟩:=ar8.1 hy;exact(Mn hn _ _).1
theorem pN{nB:Nat}(hn:nB≤5){conds:List aq}{l:List aj}(h4:∀ r∈l,r.kind=4→r.cond=0){kind cls:Int}{s t k n:Nat}:Gv (XW nB conds l) kind cls s t k n↔n<2^nB∧∃ r∈l,uV nB conds r.cond n=true∧r.kind=kind∧r.cls=cls∧ib r.perms k=true∧lI r s t=true:=by
 have hg:∀ r∈l,EF r=r.cond:=fun r hr=>by
  unfold EF;split
  ·rename_i h;exact(h4 r hr h).symm
  ·rfl
 constructor
 ·rintro⟨y,hy,h1,h2,h3,h5,h6⟩;obtain⟨r,hr,rfl⟩:=ar8.1 hy;rw[(Mn hn _ _).2,hg r hr,asu,decide_eq_true_iff] at h6;exact⟨h6.1,r,hr,h6.2,h1,h2,h3,h5⟩
 ·rintro⟨hn2,r,hr,h0,h1,h2,h3,h5⟩;exact⟨_,ar8.2 ⟨r,hr,rfl⟩,h1,h2,h3,h5,by rw[(Mn hn _ _).2,hg r hr,h0,decide_eq_true hn2];rfl⟩
theorem S_{T C nB:Nat}(hn:nB≤5){ca cb:List aq}{la lb:List aj}(ha:∀ r∈la,RV T C r)(hb:∀ r∈lb,RV T C r)(ha4:∀ r∈la,r.kind=4→r.cond=0)(hb4:∀ r∈lb,r.kind=4→r.cond=0):
 (∀ n,n<2^nB→dF T C (fun r=>uV nB ca r.cond n) la=dF T C (fun r=>uV nB cb r.cond n) lb)↔(ud (XW nB ca la) (XW nB cb lb)=true∧ud (XW nB cb lb) (XW nB ca la)=true):=by
 have oa:=KA hn (conds:=ca) fun r hr=>(ha r hr).perms
 have ob:=KA hn (conds:=cb) fun r hr=>(hb r hr).perms
 rw[zn oa ob,zn ob oa];constructor
 ·intro H
  exact⟨fun kind cls s t k n hs ht h=>by
   rw[pN hn ha4] at h;rw[pN hn hb4]
   exact⟨h.1,((wu ha hb).1 (H n h.1) kind cls s t k hs ht).1 h.2⟩,fun kind cls s t k n hs ht h=>by
   rw[pN hn hb4] at h;rw[pN hn ha4];exact⟨h.1,((wu ha hb).1 (H n h.1) kind cls s t k hs ht).2 h.2⟩⟩
 ·rintro⟨H1,H2⟩ n hn2;refine(wu ha hb).2 fun kind cls s t k hs ht=>⟨fun h=>?_,fun h=>?_⟩
  ·have:=H1 kind cls s t k n hs ht ((pN hn ha4).2 ⟨hn2,h⟩);exact((pN hn hb4).1 this).2
  ·have:=H2 kind cls s t k n hs ht ((pN hn hb4).2 ⟨hn2,h⟩);exact((pN hn ha4).1 this).2
def iP{α:Type}(l:List α)(o:List Nat)(m:Nat):List α:=(List.range l.length).filterMap fun k=>if (o.contains k||decide (k=m))=true then none else l[k]?
def iu(l:List (aj×Int)):Nat→List Nat
 | 0=>[]
 | m+1=>match l[m]? with
  | some x=>if iz x (iP l (iu l m) m)=true then iu l m++[m] else iu l m
  | none=>iu l m
theorem pO(l:List (aj×Int)):∀ m,∀ k∈iu l m,k<m
 | 0,k,h=>by cases h
 | m+1,k,h=>by
  unfold iu at h;split at h
  ·split at h
   ·rcases ar4.1 h with h|h
    ·have:=pO l m k h;omega
    ·rw[ar5.1 h];omega
   ·have:=pO l m k h;omega
  ·have:=pO l m k h;omega
theorem sw{α:Type}{l:List α}{o:List Nat}{m:Nat}{y:α}:y∈iP l o m↔∃ k,k∉o∧k≠m∧l[k]?=some y:=by
 unfold iP;rw[List.mem_filterMap];constructor
 ·rintro⟨k,hk,h⟩;split at h
  ·cases h
  ·rename_i hc;simp only[Bool.or_eq_true,List.contains_eq_mem,decide_eq_true_iff,not_or] at hc;exact⟨k,by simpa using hc.1,hc.2,h⟩
 ·rintro⟨k,h1,h2,h3⟩;refine⟨k,List.mem_range.2 (asc.1 h3).1,?_⟩;rw[if_neg (by simp[h1,h2])];exact h3
def jZ{α:Type}(l:List α)(o:List Nat):List α:=(List.range l.length).filterMap fun k=>if o.contains k=true then none else l[k]?
theorem mem_left{α:Type}{l:List α}{o:List Nat}{y:α}:y∈jZ l o↔∃ k,k∉o∧l[k]?=some y:=by
 unfold jZ;rw[List.mem_filterMap];constructor
 ·rintro⟨k,hk,h⟩;split at h
  ·cases h
  ·rename_i hc;exact⟨k,by simpa using hc,h⟩
 ·rintro⟨k,h1,h3⟩;refine⟨k,List.mem_range.2 (asc.1 h3).1,?_⟩;rw[if_neg (by simpa using h1)];exact h3
theorem Tk{α β:Type}(f:α→β)(l:List α)(o:List Nat):jZ (l.map f) o=(jZ l o).map f:=by
 unfold jZ;rw[ar9,List.map_filterMap];congr 1
 funext k
 split
 ·rfl
 ·rw[ar_]
def jW(a b:List (aj×Int)):Prop:=∀ (kind cls:Int) (s t k r:Nat),s<256→t<256→(Gv a kind cls s t k r↔Gv b kind cls s t k r)
theorem OQ.sub{l l':List (aj×Int)}(h:OQ l)(hs:∀ y∈l',y∈l):OQ l':=⟨fun y hy=>h.perms y (hs y hy),fun y hy=>h.zP y (hs y hy)⟩
theorem Hs{α:Type}{l:List α}{o:List Nat}:∀ y∈jZ l o,y∈l:=fun y hy=>by
 obtain⟨k,-,h⟩:=mem_left.1 hy;exact asa h
theorem Ao{α:Type}{l:List α}{o:List Nat}{m:Nat}:∀ y∈iP l o m,y∈l:=fun y hy=>by
 obtain⟨k,-,-,h⟩:=sw.1 hy;exact asa h
theorem U6{l:List (aj×Int)}(hl:OQ l){o:List Nat}{m:Nat}{x:aj×Int}(hx:l[m]?=some x)(hm:m∉o):iz x (iP l o m)=true↔jW (jZ l (o++[m])) (jZ l o):=by
 have hxm:=asa hx;rw[E1 (hl.perms x hxm) (hl.zP x hxm) (hl.sub Ao)]
 have e:∀ y,y∈jZ l (o++[m])↔y∈iP l o m:=fun y=>by
  rw[mem_left,sw];constructor
  ·rintro⟨k,h1,h2⟩;exact⟨k,fun h=>h1 (ar4.2 (.inl h)),fun h=>h1 (ar4.2 (.inr (ar5.2 h))),h2⟩
  ·rintro⟨k,h1,h2,h3⟩;exact⟨k,fun h=>(ar4.1 h).elim h1 fun h=>h2 (ar5.1 h),h3⟩
 constructor
 ·intro H kind cls s t k r hs ht;constructor
  ·rintro⟨y,hy,h⟩;obtain⟨j,h1,h2⟩:=mem_left.1 hy;exact⟨y,mem_left.2 ⟨j,fun h=>h1 (ar4.2 (.inl h)),h2⟩,h⟩
  ·rintro⟨y,hy,h1,h2,h3,h4,h5⟩;obtain⟨j,g1,g2⟩:=mem_left.1 hy;by_cases ej:j=m
   ·subst ej;obtain rfl:x=y:=asy (hx.symm.trans g2);obtain⟨z,hz,h⟩:=H s t k r hs ht h4 h3 h5;exact⟨z,(e z).2 hz,by rw[← h1,← h2];exact h⟩
   ·exact⟨y,(e y).2 (sw.2 ⟨j,g1,ej,g2⟩),h1,h2,h3,h4,h5⟩
 ·intro H s t k r hs ht hg hk hr;obtain⟨z,hz,h⟩:=(H x.1.kind x.1.cls s t k r hs ht).2 ⟨x,mem_left.2 ⟨m,hm,hx⟩,rfl,rfl,hk,hg,hr⟩;exact⟨z,(e z).1 hz,h⟩
theorem jW.refl(a:List (aj×Int)):jW a a:=fun _ _ _ _ _ _ _ _=>Iff.rfl
theorem jW.trans{a b c:List (aj×Int)}(h:jW a b)(h':jW b c):jW a c:=fun _ _ _ _ _ _ hs ht=>(h _ _ _ _ _ _ hs ht).trans (h' _ _ _ _ _ _ hs ht)
theorem jW.symm{a b:List (aj×Int)}(h:jW a b):jW b a:=fun _ _ _ _ _ _ hs ht=>(h _ _ _ _ _ _ hs ht).symm
theorem Tj{α:Type}(l:List α):jZ l []=l:=by
 have key:∀ (n:Nat),n≤l.length→(List.range n).filterMap (fun k=>if ([]:List Nat).contains k=true then none else l[k]?)=l.take n:=by
  intro n
  induction n with
  | zero=>intro _;rfl
  | succ n ih=>
   intro hn;rw[List.range_succ,asr,ih (by omega),List.take_add_one];rfl
 unfold jZ;rw[key l.length (Nat.le_refl _),ase]
theorem tQ{l:List (aj×Int)}(hl:OQ l):∀ m,jW (jZ l (iu l m)) l
 | 0=>by unfold iu;rw[Tj];exact .refl _
 | m+1=>by
  unfold iu;split
  ·rename_i x hx;split
   ·rename_i hc;exact((U6 hl hx (fun h=>Nat.lt_irrefl _ (pO l m m h))).1 hc).trans (tQ hl m)
   ·exact tQ hl m
  ·exact tQ hl m
def oG(w:World)(v:Value)(s:List Bool):Prop:=SliceAt w v 1 s.length (s.map Value.bool)
theorem oG.keep{w w':World}{v:Value}{s:List Bool}(h:oG w v s)(hb:ar6 w.heap.size w w'):oG w' v s:=SliceAt.keep h hb
def Vd(s:List Bool)(n:Int):Bool:=decide (0≤n)&&(s[n.toNat]?).getD false
def Xl(n:Nat)(s:List Bool):List Bool:=(List.range n).map fun(i:Nat)=>Vd s (i:Int)
def oU(s:List Bool)(op a:Int)(l:List Bool):Bool:=
 if op=1 then Vd s a else if l.length=0 then false else if op=2 then !(l.getD 0 false) else if op=3 then l.getD 0 false&&l.getD 1 false else
  if op=4 then l.getD 0 false||l.getD 1 false else if op=6 then l.getD 0 false == l.getD 1 false else !(l.getD 0 false == l.getD 1 false)
mutual
def wV(s:List Bool):aq→Bool
 | .node op a _ _ _ _ kids=>oU s op a (J9 s kids)
def J9(s:List Bool):List aq→List Bool
 | []=>[]
 | k::l=>wV s k::J9 s l
end
theorem zT(s:List Bool)(e:aq):wV s e=oU s e.op e.a (J9 s e.kids):=by cases e;rw[wV];rfl
def MU(n:Nat)(conds:List aq)(s:List Bool):List Bool:=conds.map (wV (Xl n s))
def Wr(n:Nat)(conds:List aq)(s:List Bool)(k:Int):Bool:=
 if 0<k∧k≤conds.length then ((MU n conds s)[(k-1).toNat]?).getD false else if k<0∧0-(conds.length:Int)≤k then !((MU n conds s)[(0-k-1).toNat]?).getD false else decide (k=0)
def KV(n r:Nat):List Bool:=(List.range n).map fun i=>r.testBit i
def fI(e:aq):Bool:=
 if e.op=2∨e.op=3∨e.op=4 then (((((decide ((e.kids.length:Int)=m_ e.op)&&decide (e.a=0))&&decide (e.rel=0))&&decide (e.b=0))&&decide ((e.names.length:Int)=0))&&decide (e.set=ay.zero))
 else if e.op=8 then ((decide ((e.kids.length:Int)=0)&&decide ((e.names.length:Int)=0))&&decide (e.set=ay.zero))
 else if e.op=9 then (((decide ((e.kids.length:Int)=0)&&decide (e.rel=0))&&decide (e.b=0))&&decide ((e.names.length:Int)=0))
 else false
theorem LZ(w0:World)(cs:List Value)(e:aq)(h:bh w0 cs e):Calls Tryz.prog 245 #[.agg cs.toArray] w0 (fun(r:Ending) (w':World)=>r=.returned (.bool (fI e))∧ar6 w0.heap.size w0 w'):=by
 obtain⟨nv,kv,rfl,NY,hk⟩:=h.open;obtain⟨_,_,rfl,-⟩:=aH.get NY;obtain⟨_,_,rfl,-,H9,-⟩:=ak.form hk (by decide);refine bX [] (fn:=Tryz.f245) Tryz.func245 rfl Tryz.ntmps245 rfl<|fun g1 w1 M1=>lb 0<|an rfl<|an (fun h=>an (fun _=>?_) fun h'=>by rw[h] at h';cases h') fun h1=>an (fun h=>an (fun _=>?_) fun h'=>by rw[h] at h';cases h') fun h2=>an (fun h=>?_) fun h3=>an (fun h4=>lb 0<|an rfl<|lb 0<|an (fun _=>rfl)<|lb 0<|an (fun _=>rfl)<|ei (x:=.agg #[.int .u64 0,.int .u64 0,.int .u64 0,.int .u64 0])<|an (fun _=>bd (by kernel_rfl))<|ei<|an (fun _=>⟨yF,fun w=>mM e.set w⟩)<|fun M=>⟨rb ?_,M.below⟩) fun h4=>an (fun h5=>lb 0<|an rfl<|lb 0<|an (fun _=>rfl)<|lb 0<|an (fun _=>rfl)<|lb 0<|an (fun _=>rfl)<|fun M=>⟨rb ?_,M.below⟩) fun h5 M=>⟨rb ?_,M.below⟩
 rotate_left 3
 ·simp only[decide_eq_true_eq,decide_eq_false_iff_not] at h1 h2 h3 h4;unfold fI;rw[if_neg (by omega),if_pos h4]
 ·simp only[decide_eq_true_eq,decide_eq_false_iff_not] at h1 h2 h3 h4 h5;unfold fI;rw[if_neg (by omega),if_neg h4,if_pos h5]
 ·simp only[decide_eq_false_iff_not] at h1 h2 h3 h4 h5;unfold fI;rw[if_neg (by omega),if_neg h4,if_neg h5]
 all_goals
  refine dr (by kernel_rfl)<|lb 0<|an rfl<|lb 0<|an rfl<|cl<|an (fun w' hb M=>(Hy _ _).mono fun _ _ ⟨h1,h2⟩=>⟨h1,h2▸Below.refl _ _⟩)<|lb 0<|an (fun _=>rfl)<|lb 0<|an (fun _=>rfl)<|lb 0<|an (fun _=>rfl)<|lb 0<|an (fun _=>rfl)<|lb 0<|an (fun _=>rfl)<|ei (x:=.agg #[.int .u64 0,.int .u64 0,.int .u64 0,.int .u64 0])<|an (fun _=>bd (by kernel_rfl))<|ei<|an (fun _=>⟨yF,fun w=>mM e.set w⟩)<|fun w2 hb2 M2 M=>⟨rb ?_,M.below⟩
  simp only[decide_eq_true_eq] at h;unfold fI;rw[if_pos (by omega)]
def kq(nU nR nT k:Nat):Int:=if k%5=0 then (nU:Int) else if k%5=1 then (nR:Int) else if k%5=2 then (nT:Int) else -1
theorem KU(w:World)(c0 c1 c2 c3 c4 c5 c6 c7 c8 c9 aS aN aM aR aQ aP aO:Value)(p:aA)(hp:aJ w c0 c1 c2 c3 c4 c5 c6 c7 c8 c9 aS aN aM aR aQ aP aO p)(k:Nat)(hk:k<1000):Calls Tryz.prog 247 #[.agg #[c0,c1,c2,c3,c4,c5,c6,c7,c8,c9,aS,aN,aM,aR,aQ,aP,aO],.int .i64 (k:Int)] w fun e w'=>e=.returned (.int .i64 (kq p.users.length p.roles.length p.types.length k))∧ar6 w.heap.size w w':=by
 obtain⟨a1,k1,rfl,hk1,hm1⟩:=aJ.f1 hp;obtain⟨n1,hn1⟩:∃ n,n=p.types.length:=⟨_,rfl⟩;have N1:=asz hn1;rw[← hn1] at hk1 hm1 ⊢;clear hn1;obtain⟨a3,k3,rfl,hk3,hm3⟩:=aJ.f3 hp;obtain⟨n3,hn3⟩:∃ n,n=p.roles.length:=⟨_,rfl⟩;have N3:=asz hn3;rw[← hn3] at hk3 hm3 ⊢;clear hn3;obtain⟨a4,k4,rfl,hk4,hm4⟩:=aJ.f4 hp;obtain⟨n4,hn4⟩:∃ n,n=p.users.length:=⟨_,rfl⟩;have N4:=asz hn4;rw[← hn4] at hk4 hm4 ⊢;clear hn4;clear hp;unfold kq;obtain⟨wo,i_⟩:∃ wo,wo=(w).alloc (.cells #[c0,.slice a1 n1 k1,c2,.slice a3 n3 k3,.slice a4 n4 k4,c5,c6,c7,c8,c9,aS,aN,aM,aR,aQ,aP,aO] 39):=⟨_,rfl⟩;have W0:=asz (show Whole wo w.heap.size 39 #[c0,.slice a1 n1 k1,c2,.slice a3 n3 k3,.slice a4 n4 k4,c5,c6,c7,c8,c9,aS,aN,aM,aR,aQ,aP,aO] by rw[i_];exact(Whole.new w 39 _));have yc:=asz (show ar6 w.heap.size w wo by rw[i_];exact((Below.refl _ w).alloc (Nat.le_refl _) _));have kp1:wo.cell? ⟨w.heap.size,1,none⟩=some (.slice a1 n1 k1):=W0.out.cell 1;have kp3:wo.cell? ⟨w.heap.size,3,none⟩=some (.slice a3 n3 k3):=W0.out.cell 3;have kp4:wo.cell? ⟨w.heap.size,4,none⟩=some (.slice a4 n4 k4):=W0.out.cell 4;by_cases h0:k%5=0
 ·rw[if_pos h0]
  go_enter Tryz.func247,Tryz.ntmps247
  go_upto_region 1 with(fail)
  rw[← i_];clear i_
  go_wp2_with fail
  go_ret
  exact⟨rfl,yc.out⟩
 ·rw[if_neg h0];by_cases h1:k%5=1
  ·rw[if_pos h1]
   go_enter Tryz.func247,Tryz.ntmps247
   go_upto_region 1 with(fail)
   rw[← i_];clear i_
   go_wp2_with fail
   go_ret
   exact⟨rfl,yc.out⟩
  ·rw[if_neg h1];by_cases h2:k%5=2
   ·rw[if_pos h2]
    go_enter Tryz.func247,Tryz.ntmps247
    go_upto_region 1 with(fail)
    rw[← i_];clear i_
    go_wp2_with fail
    go_ret
    exact⟨rfl,yc.out⟩
   ·rw[if_neg h2];have g0:¬ ((k%5:Nat):Int)=0:=by omega
    have g1:¬ ((k%5:Nat):Int)=1:=by omega
    have g2:¬ ((k%5:Nat):Int)=2:=by omega
    go_enter Tryz.func247,Tryz.ntmps247
    go_upto_region 1 with(fail)
    rw[← i_];clear i_
    go_wp2_with fail
    go_ret
    exact⟨rfl,yc.out⟩
def BJ(er:Int)(ka kb:Nat):Int:=if 3≤ka%5∧3≤kb%5 then 0 else if ¬ ka%5=kb%5 then 13 else if (1:Int)<er then 13 else 0
def nk(n:Nat)(e:aq):Int:=if aX e.a (n:Int)=false then 3 else if aX e.b (n:Int)=false then 3 else if aX e.rel 5=false then 3 else BJ e.rel e.a.toNat e.b.toNat
theorem BM(w:World)(i n:Int):Calls Tryz.prog 113 #[.int .i64 i,.int .i64 n] w fun e w'=>e=.returned (.bool (aX i n))∧ar6 w.heap.size w w':=(fB w i n).mono fun _ _ ⟨h1,h2⟩=>⟨h1,h2▸ar6.refl _ _⟩
theorem Zu{P:Program}{a:Act}{w:World}{o:Oper}{ty yt:TypeId}{x y:Operand}{m:Int}(hm:0≤m)(ho:o.op=.binOp .rem ty x y yt)(hx:a.eval x=.int .i64 m)(hy:a.eval y=.int .i64 5):(execOp a.eval o).run P w=.ok (.value (.int .i64 ((m.toNat%5:Nat):Int))) w:=by
 unfold execOp;simp[ho,hx,hy,eqGuard,binOp,Op.intDiv];rw[Int.tmod_eq_emod_of_nonneg hm];omega
theorem Ed(w:World)(cs:List Value)(e:aq)(h:bh w cs e)(n:Nat):Calls Tryz.prog 246 #[.agg cs.toArray,.int .i64 (n:Int)] w fun r w'=>r=.returned (.int .i64 (nk n e))∧ar6 w.heap.size w w':=by
 obtain⟨nv,kv,rfl,-,-⟩:=h.open;refine bX [] (fn:=Tryz.f246) Tryz.func246 rfl Tryz.ntmps246 rfl<|fun g1 w1 M1=>lb 0<|an rfl<|cl<|an (BM _ e.a n) fun w2 M2=>lb 0<|an (fun _=>rfl)<|cl<|an (fun _=>BM _ e.b n) fun w3 M3=>lb 0<|an (fun _=>rfl)<|cl<|an (fun _=>BM _ e.rel 5) fun w4 M4=>an (fun h M=>⟨ri ?_,M.below⟩) fun h=>?_
 ·unfold nk;cases h1:aX e.a (n:Int)<;>cases h2:aX e.b (n:Int)<;>cases h3:aX e.rel 5<;>simp_all
 simp only[Bool.or_eq_false_iff,Bool.not_eq_false'] at h;obtain⟨⟨h1,h2⟩,h3⟩:=h;have hc:nk n e=BJ e.rel e.a.toNat e.b.toNat:=by unfold nk;rw[h1,h2,h3];rfl
 rw[hc];have a0:0≤e.a:=by unfold aX at h1;rw[asu,decide_eq_true_eq] at h1;exact h1.1
 have b0:0≤e.b:=by unfold aX at h2;rw[asu,decide_eq_true_eq] at h2;exact h2.1
 unfold BJ;refine dr (by kernel_rfl)<|lb 0<|an rfl<|ei<|an (fun a w o ho hv=>Zu a0 ho (dJ hv) (dX hv))<|lb 0<|an rfl<|ei<|an (fun a w o ho hv=>Zu b0 ho (dJ hv) (dX hv))<|fun w5 hb5 M5=>an (fun h4 M=>⟨ri (if_pos ?_),M.below⟩) fun h4=>?_
 ·rw[asu,decide_eq_true_eq,decide_eq_true_eq] at h4;omega
 rw[if_neg (by rw[Bool.and_eq_false_iff,decide_eq_false_iff_not,decide_eq_false_iff_not] at h4;omega)];refine lb 0<|an (fun _=>rfl)<|an (fun h5 M=>⟨ri ?_,M.below⟩) fun h5 M=>⟨ri ?_,M.below⟩
 ·by_cases e1:e.a.toNat%5=e.b.toNat%5
  ·rw[if_neg (by omega),if_pos];simp[e1] at h5;omega
  ·rw[if_pos e1]
 ·simp at h5;rw[if_neg (by omega),if_neg (by omega)]
theorem aq.Ok.set'{e:aq}(h:e.Ok):e.set.Ok:=by cases h;assumption
theorem aq.Ok.Yc{e:aq}(h:e.Ok):∀ k∈e.kids,k.Ok:=by cases h;assumption
def eM(nU nR nT N:Nat)(e:aq):Option Int:=
 if fI e=false then some 2
 else if e.op=8 then some (nk N e)
 else if e.op=9 then
  (if aX e.a (N:Int)=false then some 3
   else if kq nU nR nT e.a.toNat<0 then some 13
   else if e.set.within (ay.all (kq nU nR nT e.a.toNat).toNat)=false then some 3
   else if cN e.set=false then some 2 else none)
 else none
mutual
def iR(nU nR nT N:Nat):aq→Int
 | .node op a rel b names set kids=>match eM nU nR nT N (.node op a rel b names set kids) with
  | some r=>r
  | none=>nh nU nR nT N kids
def nh(nU nR nT N:Nat):List aq→Int
 | []=>0
 | k::l=>if iR nU nR nT N k=0 then nh nU nR nT N l else iR nU nR nT N k
end
theorem om{nU nR nT N:Nat}{e:aq}{r:Int}(h:eM nU nR nT N e=some r):iR nU nR nT N e=r:=by
 cases e;rw[iR,h]
theorem sG{nU nR nT N:Nat}{e:aq}(h:eM nU nR nT N e=none):iR nU nR nT N e=nh nU nR nT N e.kids:=by
 cases e;rw[iR,h];rfl
theorem Br{nU nR nT N:Nat}{l:List aq}{k:Nat}{y:aq}(h:l[k]?=some y):nh nU nR nT N (l.drop k)=if iR nU nR nT N y=0 then nh nU nR nT N (l.drop (k+1)) else iR nU nR nT N y:=by
 obtain⟨hk,rfl⟩:=asc.1 h;rw[List.drop_eq_getElem_cons hk,nh]
theorem PG{nU nR nT:Nat}(k:Nat){B:Nat}(h1:nU≤B)(h2:nR≤B)(h3:nT≤B):kq nU nR nT k≤(B:Int):=by
 unfold kq;split
 ·omega
 ·split
  ·omega
  ·split<;>omega
theorem ql(N:Nat)(hN:N≤100):∀ e:aq,e.Ok→∀ (w0:World) (cs:List Value) (c0 c1 c2 c3 c4 c5 c6 c7 c8 c9 aS aN aM aR aQ aP aO:Value) (p:aA),aJ w0 c0 c1 c2 c3 c4 c5 c6 c7 c8 c9 aS aN aM aR aQ aP aO p→p.Ok→bh w0 cs e→Calls Tryz.prog 197 #[.agg #[c0,c1,c2,c3,c4,c5,c6,c7,c8,c9,aS,aN,aM,aR,aQ,aP,aO],.agg cs.toArray,.int .i64 (N:Int)] w0 (RI w0 (iR p.users.length p.roles.length p.types.length N e)):=by
 refine aq.ind fun e ih=>?_
 intro he w0 cs c0 c1 c2 c3 c4 c5 c6 c7 c8 c9 aS aN aM aR aQ aP aO p hp hok h;have hU:=hok.Zb;have hR:=hok.Sn;have hT:=hok.vq;obtain⟨_,_,_,_,_,_,_,_,_,_,_,_,_,_,_,_,_,_,_,_,_,_,_,_,_,_,_,_,_,_,_,_,_,_,rfl,rfl,rfl,rfl,rfl,rfl,rfl,rfl,rfl,rfl,rfl,rfl,rfl,rfl,rfl,rfl,rfl⟩:=hp.open;obtain⟨nv,kv,rfl,NY,hk⟩:=h.open;obtain⟨_,_,rfl,-⟩:=aH.get NY;obtain⟨_,_,rfl,-,H9,-⟩:=ak.form hk (by decide);have out:∀ r:Int,eM p.users.length p.roles.length p.types.length N e=some r→iR p.users.length p.roles.length p.types.length N e=r:=fun r h=>om h
 have hs:eM p.users.length p.roles.length p.types.length N e=none→iR p.users.length p.roles.length p.types.length N e=nh p.users.length p.roles.length p.types.length N e.kids:=sG;unfold eM at out hs;refine bX [] (fn:=Tryz.f197) Tryz.func197 rfl Tryz.ntmps197 rfl<|fun g1 w1 M1=>fun g2 w2 M2=>lb 0<|an rfl<|cl<|an (LZ _ _ e (h.keep M2.below)) fun w3 M3=>an (fun h1 M=>⟨ri (out _ (if_pos (by simpa using h1))),M.below⟩) fun h1=>?_
 rw[if_neg (by simpa using h1)] at out hs;refine lb 0<|an rfl<|an (fun h2=>lb 0<|an rfl<|cl<|an (Ed _ _ e (h.keep M3.below) N) fun w4 M4 M=>⟨ri (out _ (if_pos (by simpa using h2))),M.below⟩) fun h2=>?_
 rw[if_neg (by simpa using h2)] at out hs;refine lb 0<|an rfl<|an (fun h3=>?_) fun h3=>?_
 focus
  rw[if_pos (by simpa using h3)] at out hs;refine lb 0<|an rfl<|cl<|an ((fB _ _ _).mono fun _ _ ⟨h1,h2⟩=>⟨h1,h2▸Below.refl _ _⟩) fun w5 M5=>an (fun h4 M=>⟨ri (out _ (if_pos (by simpa using h4))),M.below⟩) fun h4=>?_
  rw[if_neg (by simpa using h4)] at out hs;have hb:0≤e.a∧e.a<(N:Int):=by simpa[aX] using h4
  have hea:((e.a.toNat:Nat):Int)=e.a:=by omega
  have hle:=PG (nU:=p.users.length) (nR:=p.roles.length) (nT:=p.types.length) e.a.toNat (B:=140737488355328) hU hR hT;refine lb 1<|an rfl<|lb 0<|an rfl<|cl<|an (hea▸KU _ _ _ _ _ _ _ _ _ _ _ _ _ _ _ _ _ _ p (hp.keep M5.below) e.a.toNat (by omega) :) fun w6 M6=>an (fun h5 M=>⟨ri (out _ (if_pos (by simpa using h5))),M.below⟩) fun h5=>?_
  rw[if_neg (by simpa using h5)] at out hs;have hnn:((kq p.users.length p.roles.length p.types.length e.a.toNat).toNat:Int)=kq p.users.length p.roles.length p.types.length e.a.toNat:=by simp at h5;omega
  refine lb 0<|an rfl<|cl<|an (hnn▸fK _ e.set he.set' (kq p.users.length p.roles.length p.types.length e.a.toNat).toNat (by omega) :) fun w7 M7=>an (fun h6 M=>⟨ri (out _ (if_pos (by simpa using h6))),M.below⟩) fun h6=>?_
  rw[if_neg (by simpa using h6)] at out hs;refine an (fun h7 M=>⟨ri (out _ (if_pos (by simpa using h7))),M.below⟩) fun h7=>?_
  rw[if_neg (by simpa using h7)] at out hs;replace hs:=hs rfl
 rotate_left 1
 focus
  replace hs:=hs (if_neg (by simpa using h3))
 all_goals
  refine lr (ι:=Nat) (fun m=>[(10,.int .i64 (m:Int))]) (fun m _=>m≤e.kids.length∧nh p.users.length p.roles.length p.types.length N e.kids=nh p.users.length p.roles.length p.types.length N (e.kids.drop m)) (fun m=>e.kids.length-m) 0 (an ⟨⟨rfl,trivial⟩,fun M=>⟨M,asg _,rfl⟩⟩ ?_);rintro m w M ⟨hm,hinv⟩;refine lb 0<|an rfl<|an (fun h9=>?_) fun h9 M=>⟨ri (by rw[hs,hinv,show m=e.kids.length by simp at h9;omega,List.drop_length];rfl),M.below⟩
  have hlt:m<e.kids.length:=by simp at h9;omega
  obtain⟨y,hy⟩:∃ y,e.kids[m]?=some y:=⟨_,ash hlt⟩;obtain⟨b,o,_,e1,hE,hc⟩:=ak.elt hk (by decide) hy;obtain⟨nv',kv',rfl,hn',hk'⟩:=hE.open;obtain⟨_,_,rfl,-⟩:=aH.get hn';obtain⟨_,_,rfl,-⟩:=ak.form hk' (by decide);exact dr (by kernel_rfl)<|lb 1<|an rfl<|lb 0<|an rfl<|ia<|an ⟨e1,rfl,hlt⟩<|lc<|an (cG M.below hc)<|cl<|an (fun w' hb M'=>ih y (asa hy) (he.Yc y (asa hy)) w' _ _ _ _ _ _ _ _ _ _ _ _ _ _ _ _ _ _ p (hp.keep M'.below) hok (hE.keep M'.below)) fun w5 hb5 M5=>an (fun h4 M=>⟨ri (by rw[hs,hinv,Br hy,if_neg (by simpa using h4)]),M.below⟩) fun h4=>an (by omega)<|bk (m+1) ⟨rfl,trivial⟩ (fun M=>⟨M,by omega,by rw[hinv,Br hy,if_pos (by simpa using h4)]⟩) (by dsimp only;omega)
def eO(nU nR nT:Nat)(v:Bool)(e:aq):Int:=if (12:Int)<bq 13 e then 4 else if v=true then iR nU nR nT 15 e else iR nU nR nT 10 e
theorem B0(e:aq)(he:e.Ok)(w0:World)(cs:List Value)(c0 c1 c2 c3 c4 c5 c6 c7 c8 c9 aS aN aM aR aQ aP aO:Value)(p:aA)(hp:aJ w0 c0 c1 c2 c3 c4 c5 c6 c7 c8 c9 aS aN aM aR aQ aP aO p)(hok:p.Ok)(h:bh w0 cs e)(v:Bool):Calls Tryz.prog 115 #[.agg #[c0,c1,c2,c3,c4,c5,c6,c7,c8,c9,aS,aN,aM,aR,aQ,aP,aO],.agg cs.toArray,.bool v] w0 (RI w0 (eO p.users.length p.roles.length p.types.length v e)):=by
 obtain⟨nv,kv,rfl,-,-⟩:=h.open;have bS:=hr1 Tryz.prog Tryz.f115 (RI w0 (eO p.users.length p.roles.length p.types.length v e)) 17 6 rfl;refine en Tryz.func115 rfl Tryz.ntmps115 rfl (vs:=[.agg #[c0,c1,c2,c3,c4,c5,c6,c7,c8,c9,aS,aN,aM,aR,aQ,aP,aO],.agg #[.int .i64 e.op,.int .i64 e.a,.int .i64 e.rel,.int .i64 e.b,nv,.int .u64 e.set.a,.int .u64 e.set.b,.int .u64 e.set.c,.int .u64 e.set.d,kv],.bool v]) rfl fun _ F=>?_
 have M:=Mm.start w0;refine asn fun K1 jd=>ah<|NW (on rfl) rfl (F.u rf) rfl F rfl M fun g1 _ _ F M=>NW (on rfl) rfl (F.u rf) rfl F rfl M fun g2 _ _ F M=>xA (v:=.int .i64 0) F rf rf rf fun _ F=>aso<|jd _ _ ?_
 refine asn fun K2 jy=>asn fun K3 qg=>ah<|xW F (M.b 0 rfl) rf rf rf MZ rf q8 rf fun _ F=>xC F M rf rf q39 (args1 (F.u rf)) (ox _ _ e (bh.keep M.below h)) fun _ _ F M=>kz F rf (IG rfl (F.u rf) rfl) fun _ F=>aso<|qg _ _ ?_
 refine asq (F.e 9 rfl) (fun hc3=>?_) (fun hc3=>?_)
 ·have T6:=of_decide_eq_true hc3;refine asn fun K4 qd=>ah<|xA (v:=.int .i64 4) F rf rf rf fun _ F=>aso<|qd _ _ ?_
  refine wp_ret<|bS _ _ _ _ F rfl ?_;exact⟨gQ (by unfold eO;refine Eq.symm ?_;repeat (first|with_reducible rfl|assumption|(with_reducible refine Eq.trans (if_pos ?_) ?_;focus (first|assumption|(refine rE ?_;assumption)|(refine rD ?_;assumption)|omega|(simp[T6];done)))|(with_reducible refine Eq.trans (if_neg ?_) ?_;focus (first|assumption|(refine rE ?_;assumption)|(refine rD ?_;assumption)|omega|(simp[T6];done)))|omega)),M.below⟩
 ·have T5:=of_decide_eq_false hc3;refine wp_skip<|jy _ _ ?_;refine asn fun K5 p7=>asn fun K6 rM=>ah<|xM F rf rf rf fun _ F=>aso<|rM _ _ ?_
  refine asq (F.e 10 rfl) (fun wj=>?_) (fun wj=>?_)
  ·refine asn fun K7 uj=>ah<|xW F (M.b 1 rfl) rf rf rf M_ rf z8 rf fun _ F=>xW F (M.b 0 rfl) rf rf rf MZ rf q8 rf fun _ F=>
    xC F M rf rf acj (YQ (F.u rf) (F.u rf) rfl) (ql 15 (by decide) e he _ _ _ _ _ _ _ _ _ _ _ _ _ _ _ _ _ _ _ p (hp.keep M.below) hok (bh.keep M.below h)) fun _ _ F M=>
    xA F rf rf rf fun _ F=>
    aso<|
    uj _ _ ?_
   refine wp_ret<|bS _ _ _ _ F rfl ?_;exact⟨gQ (by unfold eO;refine Eq.symm ?_;repeat (first|with_reducible rfl|assumption|(with_reducible refine Eq.trans (if_pos ?_) ?_;focus (first|assumption|(refine rE ?_;assumption)|(refine rD ?_;assumption)|omega|(simp[T5];done)))|(with_reducible refine Eq.trans (if_neg ?_) ?_;focus (first|assumption|(refine rE ?_;assumption)|(refine rD ?_;assumption)|omega|(simp[T5,wj];done)))|omega)),M.below⟩
  ·refine wp_skip<|p7 _ _ ?_
   refine asn fun K8 Bc=>ah<|xW F (M.b 1 rfl) rf rf rf M_ rf z8 rf fun _ F=>xW F (M.b 0 rfl) rf rf rf MZ rf q8 rf fun _ F=>
    xC F M rf rf acj (YQ (F.u rf) (F.u rf) rfl) (ql 10 (by decide) e he _ _ _ _ _ _ _ _ _ _ _ _ _ _ _ _ _ _ _ p (hp.keep M.below) hok (bh.keep M.below h)) fun _ _ F M=>
    xA F rf rf rf fun _ F=>
    aso<|
    Bc _ _ ?_
   refine wp_ret<|bS _ _ _ _ F rfl ?_;exact⟨gQ (by unfold eO;refine Eq.symm ?_;repeat (first|with_reducible rfl|assumption|(with_reducible refine Eq.trans (if_pos ?_) ?_;focus (first|assumption|(refine rE ?_;assumption)|(refine rD ?_;assumption)|omega|(simp[T5,wj];done)))|(with_reducible refine Eq.trans (if_neg ?_) ?_;focus (first|assumption|(refine rE ?_;assumption)|(refine rD ?_;assumption)|omega|(simp[T5,wj];done)))|omega)),M.below⟩
def nI(ok ig vc cd:Bool):Bool:=!ok||!ig||!vc||!cd
def qL(sa sb:Bool)(r:aj):Bool:=!sa||(!sb&&!r.self)||decide (r.perms=0)||(decide (r.kind=4)&&!(decide (r.cond=0)))
def xu(nT nC:Nat)(cl:List iB)(r:aj):Int:=
 if r.kind<1 then 13 else if 4<r.kind then 13
 else if nI (r.src.within (ay.all nT)) (r.tgt.within (ay.all nT)) (eS cl r.cls r.perms) (jL nC r.cond)=true then 3
 else if qL (cN r.src) (cN r.tgt) r=true then 2 else 0
def j7(p:aA)(i:Nat):Int:=match p.conds[i]? with
 | some e=>cC p.bools.length e
 | none=>0
def tK(p:aA)(i:Nat):Int:=match p.rules[i]? with
 | some r=>xu p.types.length p.conds.length p.classes r
 | none=>0
def fL(p:aA):Int:=if 64<p.conds.length then 4 else if aG (j7 p) p.conds.length 0=0 then (if 4096<p.rules.length then 4 else aG (tK p) p.rules.length 0) else aG (j7 p) p.conds.length 0
theorem G3{p:aA}(h1:¬ 64<p.conds.length)(h2:¬ aG (j7 p) p.conds.length 0=0):fL p=aG (j7 p) p.conds.length 0:=by
 unfold fL;rw[if_neg h1,if_neg h2]
theorem G2{p:aA}(h1:¬ 64<p.conds.length)(h2:aG (j7 p) p.conds.length 0=0)(h3:4096<p.rules.length):fL p=4:=by
 unfold fL;rw[if_neg h1,if_pos h2,if_pos h3]
theorem G1{p:aA}(h1:¬ 64<p.conds.length)(h2:aG (j7 p) p.conds.length 0=0)(h3:¬ 4096<p.rules.length):fL p=aG (tK p) p.rules.length 0:=by
 unfold fL;rw[if_neg h1,if_pos h2,if_neg h3]
theorem Pq(w:World)(c0 c1 c2 c3 c4 c5 c6 c7 c8 c9 aS aN aM aR aQ aP aO:Value)(p:aA)(hp:aJ w c0 c1 c2 c3 c4 c5 c6 c7 c8 c9 aS aN aM aR aQ aP aO p)(hok:p.Ok):Calls Tryz.prog 46 #[.agg #[c0,c1,c2,c3,c4,c5,c6,c7,c8,c9,aS,aN,aM,aR,aQ,aP,aO]] w fun e w'=>e=.returned (.int .i64 (fL p))∧ar6 w.heap.size w w':=by
 obtain⟨_,_,_,_,_,_,_,_,_,_,_,_,_,_,_,_,_,_,_,_,_,_,_,_,_,_,_,_,_,_,_,_,_,_,rfl,rfl,rfl,rfl,rfl,rfl,rfl,rfl,rfl,rfl,rfl,rfl,rfl,rfl,rfl,rfl,rfl⟩:=hp.open;have Cb:=hok.vq;refine bX [] (fn:=Tryz.f46) Tryz.func46 rfl Tryz.ntmps46 rfl<|fun g1 w1 M1=>lb 0<|an rfl<|an (fun h M=>⟨ri (if_pos (by simp at h;omega)),M.below⟩) fun h=>?_
 have h1:¬ 64<p.conds.length:=by simp at h;omega
 refine lr (ι:=Nat) (fun m=>[(3,.int .i64 (m:Int))]) (fun m _=>m≤p.conds.length∧aG (j7 p) p.conds.length 0=aG (j7 p) (p.conds.length-m) m) (fun m=>p.conds.length-m) 0 (an ⟨⟨rfl,trivial⟩,fun M=>⟨M,asg _,by rw[Nat.sub_zero]⟩⟩ ?_);rintro m w2 M ⟨hm,hinv⟩;refine lb 0<|an rfl<|an (fun h2=>?_) fun h2=>?_
 ·have hlt:m<p.conds.length:=by simp at h2;omega
  obtain⟨y,hy⟩:∃ y,p.conds[m]?=some y:=⟨_,ash hlt⟩;obtain⟨b,o,_,e,hE,hc⟩:=ak.elt hp.conds (by decide) hy;obtain⟨nv,kv,rfl,hn,hk⟩:=hE.open;obtain⟨_,_,rfl,-⟩:=aH.get hn;obtain⟨_,_,rfl,-⟩:=ak.form hk (by decide);have hcf:j7 p m=cC p.bools.length y:=by unfold j7;rw[hy]
  exact dr (by kernel_rfl)<|lb 0<|an rfl<|lb 0<|an rfl<|ia<|an ⟨e,rfl,hlt⟩<|lc<|an (cG M.below hc)<|cl<|an (fun w' hb' M'=>CJ y _ _ _ _ _ _ _ _ _ _ _ _ _ _ _ _ _ _ _ p (hp.keep M'.below) (hE.keep M'.below)) fun w2 hb2 M2=>an (fun h3 M=>⟨ri (by
   have h3:j7 p m≠0:=by rw[hcf];simpa using h3
   rw[G3 h1 (by rw[hinv,bZ hlt h3];exact h3),hinv,bZ hlt h3,hcf]),M.below⟩) fun h3=>an (by omega)<|bk (m+1) ⟨rfl,trivial⟩ (fun M=>⟨M,by omega,hinv.trans (bG hlt (by rw[hcf];simpa using h3))⟩) (by dsimp only;omega)
 have hz:aG (j7 p) p.conds.length 0=0:=by rw[hinv,show m=p.conds.length by simp at h2;omega,bY]
 clear hinv h2 hm h;refine lb 0<|an rfl<|an (fun h M=>⟨ri (G2 h1 hz (by simp at h;omega)),M.below⟩) fun h=>?_
 rw[G1 h1 hz (by simp at h;omega)];have hr:¬ 4096<p.rules.length:=by simp at h;omega
 clear h M;refine lr (ι:=Nat) (fun m=>[(5,.int .i64 (m:Int))]) (fun i _=>i≤p.rules.length∧aG (tK p) p.rules.length 0=aG (tK p) (p.rules.length-i) i) (fun i=>p.rules.length-i) 0 (an ⟨⟨rfl,trivial⟩,fun M=>⟨M,asg _,by rw[Nat.sub_zero]⟩⟩ ?_);rintro i w M ⟨hi,hinv⟩;refine lb 0<|an rfl<|an (fun h2=>?_) fun h2 M=>⟨ri (by rw[hinv,show i=p.rules.length by simp at h2;omega,bY]),M.below⟩
 have hlt:i<p.rules.length:=by simp at h2;omega
 obtain⟨r,hy⟩:∃ y,p.rules[i]?=some y:=⟨_,ash hlt⟩;have okr:=hok.rules r (asa hy);obtain⟨b,o,e,hc⟩:=SliceAt.elt hp.rules (fun _=>rfl) (by decide) hy hlt;have hcf:tK p i=xu p.types.length p.conds.length p.classes r:=by unfold tK;rw[hy]
 have out:∀ v:Int,xu p.types.length p.conds.length p.classes r=v→v≠0→aG (tK p) p.rules.length 0=v:=fun v h1 h2=>by rw[hinv,bZ hlt (by rw[hcf,h1];exact h2),hcf,h1]
 unfold xu at hcf out;refine lb 0<|an rfl<|ia<|an ⟨e,rfl,hlt⟩<|lc<|an (cG M.below hc)<|ei<|an oH fun g2 w3 M3=>lb 0<|an ⟨rfl,rfl⟩ fun w4 M4=>lb 0<|an rfl<|lb 0<|an (fun _=>rfl)<|an (fun h M=>⟨ri (out 13 ?_ (by decide)),M.below⟩) fun h=>?_
 ·by_cases h5:r.kind<1
  ·rw[if_pos h5]
  ·rw[if_neg h5,if_pos (by simp at h;omega)]
 rw[if_neg (by simp at h;omega),if_neg (by simp at h;omega)] at hcf out;refine lb 0<|an rfl<|lb 1<|an rfl<|cl<|an (fK _ r.src okr.src _ Cb) fun w5 M5=>lb 0<|an rfl<|lb 1<|an rfl<|cl<|an (fK _ r.tgt okr.tgt _ Cb) fun w6 M6=>lb 1<|an (fun _=>rfl)<|lb 0<|an (fun _=>rfl)<|lb 0<|an (fun _=>rfl)<|cl<|an (fun _=>zS _ _ _ _ _ _ _ _ _ _ _ _ _ _ _ _ _ _ p (hp.keep M6.below) r.cls r.perms okr.perms) fun w7 M7=>lb 1<|an (fun _=>rfl)<|lb 0<|an (fun _=>rfl)<|cl<|an (fun _=>I5 _ _ _ _ _ _ _ _ _ _ _ _ _ _ _ _ _ _ p (hp.keep M7.below) _) fun w8 M8=>an (fun h3 M=>⟨ri (out 3 ?_ (by decide)),M.below⟩) fun h3=>?_
 ·clear out hcf;cases h6:r.src.within (ay.all p.types.length)<;>cases h7:r.tgt.within (ay.all p.types.length)<;>cases h8:eS p.classes r.cls r.perms<;>cases h9:jL p.conds.length r.cond<;>simp_all [nI]
 rw[if_neg (by clear out hcf;cases h6:r.src.within (ay.all p.types.length)<;>cases h7:r.tgt.within (ay.all p.types.length)<;>cases h8:eS p.classes r.cls r.perms<;>cases h9:jL p.conds.length r.cond<;>simp_all [nI])] at hcf out;exact lb 0<|an (fun _=>rfl)<|lb 0<|an (fun _=>rfl)<|lb 0<|an (fun _=>rfl)<|lb 0<|an (fun _=>rfl)<|an (fun h4 M=>⟨ri (out 2 (if_pos h4) (by decide)),M.below⟩) fun h4=>an (by omega)<|bk (i+1) ⟨rfl,trivial⟩ (fun M=>⟨M.only (.cons _ (.refl _)) (.refl _),by omega,hinv.trans (bG hlt (by rw[hcf,if_neg (fun e=>by rw[show qL (cN r.src) (cN r.tgt) r=false from h4] at e;cases e)]))⟩) (by dsimp only;omega)
def atI(l:List Int)(i:Nat):Int:=match l[i]? with
 | some x=>x
 | none=>0
def oh(l:List Int):Int:=aG (atI l) l.length 0
theorem jK{l:List Int}:oh l=0↔∀ x∈l,x=0:=by
 unfold oh;rw[cH];constructor
 ·intro h x hx;obtain⟨i,hi⟩:=List.getElem?_of_mem hx;have:=h i (asg _) (by have:=(asc.1 hi).1;omega);unfold atI at this;rw[hi] at this;exact this
 ·intro h i _ hi;unfold atI;rw[ash (by omega:i<l.length)];exact h _ (List.getElem_mem _)
theorem Qq(w:World)(v:Value)(l:List Int)(h:SliceAt w v 1 l.length (l.map jN)):Calls Tryz.prog 40 #[v] w fun e w'=>e=.returned (.int .i64 (oh l))∧w=w':=by
 obtain⟨a,c,rfl,hac,H9,HA⟩:=h.form (by decide);have H1:=asz HA;clear HA h;unfold oh;obtain⟨n,hn⟩:∃ n,n=l.length:=⟨_,rfl⟩;have HN:=asz hn;rw[← hn] at H1 hac H9 ⊢;clear hn
 go_enter Tryz.func40,Tryz.ntmps40
 go_wp2_with fail
 go_loopw [3] (fun i wr=>wr=w∧∃ k:Nat,k≤n∧i=.int .i64 k∧Hid (aG (atI l) n 0=aG (atI l) (n-k) k)) (fun i _=>n-(intOf i).toNat)
 case atStart=>exact⟨rfl,0,asg _,rfl,asz (by rw[Nat.sub_zero])⟩
 case round=>
  obtain⟨rfl,k,hk,rfl,hinv⟩:=hrel;by_cases hlt:k<n
  ·obtain⟨x,hx⟩:∃ x,l[k]?=some x:=⟨_,ash (by rw[← HN.out];exact hlt)⟩;obtain⟨b,off,rfl,hc⟩:=H1.out k hlt
   have k0:wr.cell? ⟨b,off+k,none⟩=some (.int .i64 x):=by
    have h:=hc 0 (.int .i64 x) (by simp[hx,jN])
    rwa [Nat.mul_one] at h
   have HF:=asz (show atI l k=x by unfold atI;rw[hx]);clear hx hc;by_cases hx0:x=0
   ·subst hx0
    go_wp2_with fail
    go_roundw
    case rel=>exact⟨by first|trivial|rfl,k+1,by omega,by go_num,asz (hinv.out.trans (bG hlt HF.out))⟩
    case measure=>simp[intOf];omega
   ·have d0:(x != 0)=true:=by simp[hx0]
    have HX0:=asz hx0;clear hx0
    go_wp2_with fail
    go_ret
    exact⟨gQ (by rw[hinv.out,bZ hlt (by rw[HF.out];exact HX0.out),HF.out]),rfl⟩
  ·obtain rfl:n=k:=by omega
   go_wp2_with fail
   go_ret
   exact⟨gQ (by rw[hinv.out,bY]),rfl⟩
def ahK(w:World)(base:Nat)(v:Value)(l:List ByteArray):Prop:=w.ownsRow base 9 1 v l.length (l.flatMap aT)
theorem GS(l:List ByteArray):∀ u∈l.flatMap aT,u.oneCell'=true:=by
 intro u hu;obtain⟨s,-,hs⟩:=List.mem_flatMap.1 hu;rw[ar5.1 hs];rfl
theorem SliceAt.Au{w:World}{g:Nat}{t:TypeId}{cs:Array Value}{k n:Nat}(h:Whole w g t cs)(hl:cs.toList.length=n*k)(h1:cs.toList.all (·.oneCell')=true)(hn:n≤maxLen):
 SliceAt w (.slice (some ⟨g,0,none⟩) n n) k n cs.toList:=
 ⟨hl,hn,fun u hu=>asd.1 h1 u hu,.inr ⟨_,n,rfl,Nat.le_refl _,fun j u hu=>by rw[Addr.add_lit,Nat.zero_add,h.cell];simpa using hu⟩⟩
def zD(nT:Nat)(before:List ByteArray)(y:kH):Int:=
 if bE [y.name] before=0 then
  (if y.kind<1 then 13 else if 3<y.kind then 13
   else if (!(y.src.within (ay.all nT))||!(y.tgt.within (ay.all nT)))=true then 3
   else if (!(cN y.src)||!(cN y.tgt))=true then 2 else 0)
 else bE [y.name] before
def ou(p:aA)(i:Nat):Int:=match p.asserts[i]? with
 | some y=>zD p.types.length ((p.asserts.take i).map (·.name)) y
 | none=>0
def qB(p:aA):Int:=if 64<p.asserts.length then 4 else aG (ou p) p.asserts.length 0
theorem Jj(w:World)(c0 c1 c2 c3 c4 c5 c6 c7 c8 c9 aS aN aM aR aQ aP aO:Value)(p:aA)(hp:aJ w c0 c1 c2 c3 c4 c5 c6 c7 c8 c9 aS aN aM aR aQ aP aO p)(hok:p.Ok):Calls Tryz.prog 51 #[.agg #[c0,c1,c2,c3,c4,c5,c6,c7,c8,c9,aS,aN,aM,aR,aQ,aP,aO]] w fun e w'=>e=.returned (.int .i64 (qB p))∧ar6 w.heap.size w w':=by
 obtain⟨_,_,_,_,_,_,_,_,_,_,_,_,_,_,_,_,_,_,_,_,_,_,_,_,_,_,_,_,_,_,_,_,_,_,rfl,rfl,rfl,rfl,rfl,rfl,rfl,rfl,rfl,rfl,rfl,rfl,rfl,rfl,rfl,rfl,rfl⟩:=hp.open;have Cb:=hok.vq;refine bX [] (fn:=Tryz.f51) Tryz.func51 rfl Tryz.ntmps51 rfl<|fun g1 w1 M1=>lb 0<|an rfl<|an (fun h M=>⟨ri (if_pos (by simp at h;omega)),M.below⟩) fun h=>?_
 have hr:¬ 64<p.asserts.length:=by simp at h;omega
 rw[show qB p=aG (ou p) p.asserts.length 0 from if_neg hr];refine lq (ι:=Nat×Value) (fun(m,u)=>[(3,u),(4,.int .i64 (m:Int))]) (fun(m,u)=>[⟨u,9,1,m,((p.asserts.take m).map (·.name)).flatMap aT⟩]) (fun(m,u) _=>m≤p.asserts.length∧aG (ou p) p.asserts.length 0=aG (ou p) (p.asserts.length-m) m) (fun(m,u)=>p.asserts.length-m) (0,.slice none 0 0) (an ⟨⟨rfl,rfl,trivial⟩,fun M=>⟨M.cL 9 1,asg _,by rw[Nat.sub_zero]⟩⟩ ?_);rintro⟨m,u⟩ w M ⟨hm,hinv⟩;refine lb 0<|an rfl<|an (fun h2=>?_) fun h2 M=>⟨ri (by rw[hinv,show m=p.asserts.length by simp at h2;omega,bY]),M.below⟩
 have hlt:m<p.asserts.length:=by simp at h2;omega
 obtain⟨y,hy⟩:∃ y,p.asserts[m]?=some y:=⟨_,ash hlt⟩;have pU:=hok.asserts y (asa hy);obtain⟨b,o,e,hc⟩:=SliceAt.elt hp.asserts (fun _=>rfl) (by decide) hy hlt;have hcf:ou p m=zD p.types.length ((p.asserts.take m).map (·.name)) y:=by unfold ou;rw[hy]
 have out:∀ v:Int,zD p.types.length ((p.asserts.take m).map (·.name)) y=v→v≠0→aG (ou p) p.asserts.length 0=v:=fun v h1 h2=>by rw[hinv,bZ hlt (by rw[hcf,h1];exact h2),hcf,h1]
 unfold zD at hcf out;refine lb 0<|an rfl<|ia<|an ⟨e,rfl,hlt⟩<|lc<|an (cG M.below hc)<|ei<|an abR fun g2 w2 M2=>lb 0<|an ⟨rfl,rfl⟩ fun w3 M3=>lb 0<|an rfl<|fun g3 w4 M4=>cl<|an (eG _ _ _ [y.name] ((p.asserts.take m).map (·.name)) (M4.slice 0 rfl rfl rfl (by simp[maxLen])) (iD (M4.r 0 rfl) (by simp;omega) rfl) (by simpa using pU.name)) fun w5 M5=>an (fun h3 M=>⟨ri (out _ (if_neg (by simpa using h3)) (by simpa using h3)),M.below⟩) fun h3=>?_
 replace h3:bE [y.name] ((p.asserts.take m).map (·.name))=0:=by simpa using h3
 rw[if_pos h3] at hcf out;refine lb 1<|an rfl<|fun g4 w6 M6=>ap 0 id rfl (M6.slice 0 rfl rfl rfl (by simp[maxLen])) ⟨by unfold maxLen;omega,by omega⟩ fun v5 w7 M7=>lb 2<|an rfl<|lb 2<|an (fun _=>rfl)<|an (fun h M=>⟨ri (out 13 ?_ (by decide)),M.below⟩) fun h=>?_
 ·by_cases h5:y.kind<1
  ·rw[if_pos h5]
  ·rw[if_neg h5,if_pos (by simp at h;omega)]
 rw[if_neg (by simp at h;omega),if_neg (by simp at h;omega)] at hcf out;refine lb 2<|an rfl<|lb 3<|an rfl<|cl<|an (fK _ y.src pU.src _ Cb) fun w8 M8=>lb 2<|an rfl<|lb 3<|an rfl<|cl<|an (fK _ y.tgt pU.tgt _ Cb) fun w9 M9=>an (fun h4 M=>⟨ri (out 3 (if_pos h4) (by decide)),M.below⟩) fun h4=>?_
 rw[if_neg (fun e=>by rw[h4] at e;cases e)] at hcf out;exact an (fun h5 M=>⟨ri (out 2 (if_pos h5) (by decide)),M.below⟩) fun h5=>an (by omega)<|bk (m+1,v5) ⟨rfl,rfl,trivial⟩ (fun M=>⟨(M.only (.cons _ (.cons _ (.cons _ (.refl _)))) (.refl _)).cast rfl (by dsimp only;rw[qR hy]),by omega,hinv.trans (bG hlt (by rw[hcf,if_neg (fun e=>by rw[h5] at e;cases e)]))⟩) (by dsimp only;omega)
deriving instance DecidableEq for aj
def MX(x:Int):List Value:=[.int .u64 x]
theorem nH(x y:ByteArray):(x.toList == y.toList)=decide (x=y):=by
 rw[asx,decide_eq_true_eq,beq_iff_eq];exact⟨fun h=>by rw[ByteArray.toList_eq,ByteArray.toList_eq] at h;exact ByteArray.ext (Array.toList_inj.1 h),fun h=>by rw[h]⟩
section
variable {α:Type} [DecidableEq α] {l1 l2:List α} {m:Nat} {x y:α}
theorem f_(h:¬ l1.length=l2.length):false=decide (l1=l2):=(decide_eq_false fun e=>h (by rw[e])).symm
theorem iZ(hx:l1[m]?=some x)(hy:l2[m]?=some y)(h:decide (x=y)=false):false=decide (l1=l2):=by
 refine(decide_eq_false fun e=>?_).symm;rw[e,hy] at hx;exact of_decide_eq_false h (asy hx).symm
theorem iY(hx:l1[m]?=some x)(hy:l2[m]?=some y)(h:l1.take m=l2.take m)(hq:decide (x=y)=true):l1.take (m+1)=l2.take (m+1):=by
 rw[bf hx,bf hy,h,of_decide_eq_true hq]
theorem gh(hm:m=l1.length)(hl:l1.length=l2.length)(h:l1.take m=l2.take m):true=decide (l1=l2):=by
 subst hm;rw[ase,hl,ase] at h;exact(decide_eq_true h).symm
end
theorem YB(x y:bD)(w:World):(Op.equalIn 10000 84 (.agg #[.int .i64 x.kind,.int .u64 x.src.a,.int .u64 x.src.b,.int .u64 x.src.c,.int .u64 x.src.d,.int .u64 x.tgt.a,.int .u64 x.tgt.b,.int .u64 x.tgt.c,.int .u64 x.tgt.d,.int .i64 x.cls,.string x.name,.int .i64 x.res,.int .i64 x.cond]) (.agg #[.int .i64 y.kind,.int .u64 y.src.a,.int .u64 y.src.b,.int .u64 y.src.c,.int .u64 y.src.d,.int .u64 y.tgt.a,.int .u64 y.tgt.b,.int .u64 y.tgt.c,.int .u64 y.tgt.d,.int .i64 y.cls,.string y.name,.int .i64 y.res,.int .i64 y.cond])).run Tryz.prog w=.ok (decide (x=y)) w:=by
 rw[show(10000:Nat)=9997+3 from rfl,adS];congr 1;rw[asx];obtain⟨JZ,⟨JY,JX,JW,JV⟩,⟨JU,JT,JR,JQ⟩,RQ,uZ,abV,Y3⟩:=x;obtain⟨JO,⟨JN,JM,JL,JK⟩,⟨JJ,JI,JH,JG⟩,RK,uW,abU,Y0⟩:=y;simp only[decide_eq_true_eq,ay.mk.injEq,bD.mk.injEq,Int.natCast_inj,and_assoc]
theorem xO(w0:World)(v1 v2:Value)(l1 l2:List bD)(h1:SliceAt w0 v1 13 l1.length (l1.flatMap bD.cells))(h2:SliceAt w0 v2 13 l2.length (l2.flatMap bD.cells)):Calls Tryz.prog 74 #[v1,v2] w0 (fun(r:Ending) (w':World)=>r=.returned (.bool (decide (l1=l2)))∧ar6 w0.heap.size w0 w'):=by
 obtain⟨_,_,rfl,-,hm1,-⟩:=h1.form (by decide);obtain⟨_,_,rfl,-⟩:=h2.form (by decide);refine bX [] (fn:=Tryz.f74) Tryz.func74 rfl Tryz.ntmps74 rfl<|an (fun h M=>⟨aD (f_ (by simp at h;omega)),M.below⟩) fun h=>lr (ι:=Nat) (fun m=>[(13,.int .i64 (m:Int))]) (fun m _=>m≤l1.length∧l1.take m=l2.take m) (fun m=>l1.length-m) 0 (an ⟨⟨rfl,trivial⟩,fun M=>⟨M,asg _,rfl⟩⟩ ?_)
 have hl:l1.length=l2.length:=by simp at h;omega
 rintro m w M ⟨hm,ht⟩;refine an (fun h3=>?_) fun h3 M=>⟨aD (gh (by simp at h3;omega) hl ht),M.below⟩
 have hlt:m<l1.length:=by simp at h3;omega
 obtain⟨x,y,_,_,_,_,hx,hy,e1,e2⟩:=dH (f:=bD.cells) (k:=13) (fun _=>rfl) (by decide) h1 h2 rfl rfl hlt hl M.below;exact dr (by kernel_rfl)<|ia<|an ⟨e1.1,rfl,hlt⟩<|lc<|an e1.2<|ia<|an ⟨e2.1,rfl,hl▸hlt⟩<|lc<|an e2.2<|ei<|an ⟨adV,YB x y⟩<|fun w hb M=>an (fun h M=>⟨aD (iZ hx hy (by simpa using h)),M.below⟩) fun h=>an (by omega)<|bk (m+1) ⟨rfl,trivial⟩ (fun M=>⟨M,by omega,iY hx hy ht (by simpa using h)⟩) (by dsimp only;omega)
theorem qm(w0:World)(v1 v2:Value)(l1 l2:List Int)(h1:SliceAt w0 v1 1 l1.length (l1.flatMap MX))(h2:SliceAt w0 v2 1 l2.length (l2.flatMap MX)):Calls Tryz.prog 77 #[v1,v2] w0 (fun(r:Ending) (w':World)=>r=.returned (.bool (decide (l1=l2)))∧ar6 w0.heap.size w0 w'):=by
 obtain⟨_,_,rfl,-,hm1,-⟩:=h1.form (by decide);obtain⟨_,_,rfl,-⟩:=h2.form (by decide);refine bX [] (fn:=Tryz.f77) Tryz.func77 rfl Tryz.ntmps77 rfl<|an (fun h M=>⟨aD (f_ (by simp at h;omega)),M.below⟩) fun h=>lr (ι:=Nat) (fun m=>[(13,.int .i64 (m:Int))]) (fun m _=>m≤l1.length∧l1.take m=l2.take m) (fun m=>l1.length-m) 0 (an ⟨⟨rfl,trivial⟩,fun M=>⟨M,asg _,rfl⟩⟩ ?_)
 have hl:l1.length=l2.length:=by simp at h;omega
 rintro m w M ⟨hm,ht⟩;refine an (fun h3=>?_) fun h3 M=>⟨aD (gh (by simp at h3;omega) hl ht),M.below⟩
 have hlt:m<l1.length:=by simp at h3;omega
 obtain⟨x,y,_,_,_,_,hx,hy,e1,e2⟩:=dH (f:=MX) (k:=1) (fun _=>rfl) (by decide) h1 h2 rfl rfl hlt hl M.below;exact dr (by kernel_rfl)<|ia<|an ⟨e1.1,rfl,hlt⟩<|lc (x:=.int .u64 x)<|an (e1.2 0 _ rfl)<|ia<|an ⟨e2.1,rfl,hl▸hlt⟩<|lc (x:=.int .u64 y)<|an (e2.2 0 _ rfl)<|fun w hb M=>an (fun h M=>⟨aD (iZ hx hy (by simpa using h)),M.below⟩) fun h=>an (by omega)<|bk (m+1) ⟨rfl,trivial⟩ (fun M=>⟨M,by omega,iY hx hy ht (by simpa using h)⟩) (by dsimp only;omega)
theorem UH(x y:aj)(w:World):(Op.equalIn 10000 56 (.agg #[.int .i64 x.kind,.int .u64 x.src.a,.int .u64 x.src.b,.int .u64 x.src.c,.int .u64 x.src.d,.int .u64 x.tgt.a,.int .u64 x.tgt.b,.int .u64 x.tgt.c,.int .u64 x.tgt.d,.bool x.self,.int .i64 x.cls,.int .u32 x.perms,.int .i64 x.cond]) (.agg #[.int .i64 y.kind,.int .u64 y.src.a,.int .u64 y.src.b,.int .u64 y.src.c,.int .u64 y.src.d,.int .u64 y.tgt.a,.int .u64 y.tgt.b,.int .u64 y.tgt.c,.int .u64 y.tgt.d,.bool y.self,.int .i64 y.cls,.int .u32 y.perms,.int .i64 y.cond])).run Tryz.prog w=.ok (decide (x=y)) w:=by
 rw[show(10000:Nat)=9997+3 from rfl,adU];congr 1;rw[asx];obtain⟨JZ,⟨JY,JX,JW,JV⟩,⟨JU,JT,JR,JQ⟩,afb,RQ,aev,Y3⟩:=x;obtain⟨JO,⟨JN,JM,JL,JK⟩,⟨JJ,JI,JH,JG⟩,ae9,RK,aeo,Y0⟩:=y;simp only[decide_eq_true_eq,aj.mk.injEq,ay.mk.injEq,Int.natCast_inj,and_assoc]
theorem ET(w0:World)(v1 v2:Value)(l1 l2:List aj)(h1:SliceAt w0 v1 13 l1.length (l1.flatMap aj.cells))(h2:SliceAt w0 v2 13 l2.length (l2.flatMap aj.cells)):Calls Tryz.prog 141 #[v1,v2] w0 (fun(r:Ending) (w':World)=>r=.returned (.bool (decide (l1=l2)))∧ar6 w0.heap.size w0 w'):=by
 obtain⟨_,_,rfl,-,hm1,-⟩:=h1.form (by decide);obtain⟨_,_,rfl,-⟩:=h2.form (by decide);refine bX [] (fn:=Tryz.f141) Tryz.func141 rfl Tryz.ntmps141 rfl<|an (fun h M=>⟨aD (f_ (by simp at h;omega)),M.below⟩) fun h=>lr (ι:=Nat) (fun m=>[(13,.int .i64 (m:Int))]) (fun m _=>m≤l1.length∧l1.take m=l2.take m) (fun m=>l1.length-m) 0 (an ⟨⟨rfl,trivial⟩,fun M=>⟨M,asg _,rfl⟩⟩ ?_)
 have hl:l1.length=l2.length:=by simp at h;omega
 rintro m w M ⟨hm,ht⟩;refine an (fun h3=>?_) fun h3 M=>⟨aD (gh (by simp at h3;omega) hl ht),M.below⟩
 have hlt:m<l1.length:=by simp at h3;omega
 obtain⟨x,y,_,_,_,_,hx,hy,e1,e2⟩:=dH (f:=aj.cells) (k:=13) (fun _=>rfl) (by decide) h1 h2 rfl rfl hlt hl M.below;exact dr (by kernel_rfl)<|ia<|an ⟨e1.1,rfl,hlt⟩<|lc<|an e1.2<|ia<|an ⟨e2.1,rfl,hl▸hlt⟩<|lc<|an e2.2<|ei<|an ⟨aaS,UH x y⟩<|fun w hb M=>an (fun h M=>⟨aD (iZ hx hy (by simpa using h)),M.below⟩) fun h=>an (by omega)<|bk (m+1) ⟨rfl,trivial⟩ (fun M=>⟨M,by omega,iY hx hy ht (by simpa using h)⟩) (by dsimp only;omega)
theorem UK(x y:kD)(w:World):(Op.equalIn 10000 203 (.agg #[.int .u64 x.roles.a,.int .u64 x.roles.b,.int .u64 x.roles.c,.int .u64 x.roles.d,.int .u64 x.types.a,.int .u64 x.types.b,.int .u64 x.types.c,.int .u64 x.types.d,.int .i64 x.cls,.int .i64 x.res]) (.agg #[.int .u64 y.roles.a,.int .u64 y.roles.b,.int .u64 y.roles.c,.int .u64 y.roles.d,.int .u64 y.types.a,.int .u64 y.types.b,.int .u64 y.types.c,.int .u64 y.types.d,.int .i64 y.cls,.int .i64 y.res])).run Tryz.prog w=.ok (decide (x=y)) w:=by
 rw[show(10000:Nat)=9997+3 from rfl,aaK];congr 1;rw[asx];obtain⟨⟨RO,RN,RM,RL⟩,⟨Gq,Gp,Gn,Gm⟩,RQ,abV⟩:=x;obtain⟨⟨RH,RG,RF,RE⟩,⟨Gl,Gj,Gi,Gh⟩,RK,abU⟩:=y;simp only[decide_eq_true_eq,kD.mk.injEq,ay.mk.injEq,Int.natCast_inj,and_assoc]
theorem ES(w0:World)(v1 v2:Value)(l1 l2:List kD)(h1:SliceAt w0 v1 10 l1.length (l1.flatMap kD.cells))(h2:SliceAt w0 v2 10 l2.length (l2.flatMap kD.cells)):Calls Tryz.prog 142 #[v1,v2] w0 (fun(r:Ending) (w':World)=>r=.returned (.bool (decide (l1=l2)))∧ar6 w0.heap.size w0 w'):=by
 obtain⟨_,_,rfl,-,hm1,-⟩:=h1.form (by decide);obtain⟨_,_,rfl,-⟩:=h2.form (by decide);refine bX [] (fn:=Tryz.f142) Tryz.func142 rfl Tryz.ntmps142 rfl<|an (fun h M=>⟨aD (f_ (by simp at h;omega)),M.below⟩) fun h=>lr (ι:=Nat) (fun m=>[(13,.int .i64 (m:Int))]) (fun m _=>m≤l1.length∧l1.take m=l2.take m) (fun m=>l1.length-m) 0 (an ⟨⟨rfl,trivial⟩,fun M=>⟨M,asg _,rfl⟩⟩ ?_)
 have hl:l1.length=l2.length:=by simp at h;omega
 rintro m w M ⟨hm,ht⟩;refine an (fun h3=>?_) fun h3 M=>⟨aD (gh (by simp at h3;omega) hl ht),M.below⟩
 have hlt:m<l1.length:=by simp at h3;omega
 obtain⟨x,y,_,_,_,_,hx,hy,e1,e2⟩:=dH (f:=kD.cells) (k:=10) (fun _=>rfl) (by decide) h1 h2 rfl rfl hlt hl M.below;exact dr (by kernel_rfl)<|ia<|an ⟨e1.1,rfl,hlt⟩<|lc<|an e1.2<|ia<|an ⟨e2.1,rfl,hl▸hlt⟩<|lc<|an e2.2<|ei<|an ⟨YD,UK x y⟩<|fun w hb M=>an (fun h M=>⟨aD (iZ hx hy (by simpa using h)),M.below⟩) fun h=>an (by omega)<|bk (m+1) ⟨rfl,trivial⟩ (fun M=>⟨M,by omega,iY hx hy ht (by simpa using h)⟩) (by dsimp only;omega)
theorem UJ(x y:kE)(w:World):(Op.equalIn 10000 205 (.agg #[.int .u64 x.src.a,.int .u64 x.src.b,.int .u64 x.src.c,.int .u64 x.src.d,.int .u64 x.tgt.a,.int .u64 x.tgt.b,.int .u64 x.tgt.c,.int .u64 x.tgt.d,.int .i64 x.cls,.int .i64 x.rng.low.aC,.int .u64 x.rng.low.cats,.int .i64 x.rng.high.aC,.int .u64 x.rng.high.cats]) (.agg #[.int .u64 y.src.a,.int .u64 y.src.b,.int .u64 y.src.c,.int .u64 y.src.d,.int .u64 y.tgt.a,.int .u64 y.tgt.b,.int .u64 y.tgt.c,.int .u64 y.tgt.d,.int .i64 y.cls,.int .i64 y.rng.low.aC,.int .u64 y.rng.low.cats,.int .i64 y.rng.high.aC,.int .u64 y.rng.high.cats])).run Tryz.prog w=.ok (decide (x=y)) w:=by
 rw[show(10000:Nat)=9996+4 from rfl,aaJ];congr 1;rw[asx];obtain⟨⟨JY,JX,JW,JV⟩,⟨JU,JT,JR,JQ⟩,RQ,⟨⟨DM,DN⟩,⟨Ch,Ci⟩⟩⟩:=x;obtain⟨⟨JN,JM,JL,JK⟩,⟨JJ,JI,JH,JG⟩,RK,⟨⟨DK,DL⟩,⟨Cc,Cd⟩⟩⟩:=y;simp only[decide_eq_true_eq,lM.mk.injEq,kE.mk.injEq,uS.mk.injEq,ay.mk.injEq,Int.natCast_inj,and_assoc]
theorem ER(w0:World)(v1 v2:Value)(l1 l2:List kE)(h1:SliceAt w0 v1 13 l1.length (l1.flatMap kE.cells))(h2:SliceAt w0 v2 13 l2.length (l2.flatMap kE.cells)):Calls Tryz.prog 143 #[v1,v2] w0 (fun(r:Ending) (w':World)=>r=.returned (.bool (decide (l1=l2)))∧ar6 w0.heap.size w0 w'):=by
 obtain⟨_,_,rfl,-,hm1,-⟩:=h1.form (by decide);obtain⟨_,_,rfl,-⟩:=h2.form (by decide);refine bX [] (fn:=Tryz.f143) Tryz.func143 rfl Tryz.ntmps143 rfl<|an (fun h M=>⟨aD (f_ (by simp at h;omega)),M.below⟩) fun h=>lr (ι:=Nat) (fun m=>[(13,.int .i64 (m:Int))]) (fun m _=>m≤l1.length∧l1.take m=l2.take m) (fun m=>l1.length-m) 0 (an ⟨⟨rfl,trivial⟩,fun M=>⟨M,asg _,rfl⟩⟩ ?_)
 have hl:l1.length=l2.length:=by simp at h;omega
 rintro m w M ⟨hm,ht⟩;refine an (fun h3=>?_) fun h3 M=>⟨aD (gh (by simp at h3;omega) hl ht),M.below⟩
 have hlt:m<l1.length:=by simp at h3;omega
 obtain⟨x,y,_,_,_,_,hx,hy,e1,e2⟩:=dH (f:=kE.cells) (k:=13) (fun _=>rfl) (by decide) h1 h2 rfl rfl hlt hl M.below;exact dr (by kernel_rfl)<|ia<|an ⟨e1.1,rfl,hlt⟩<|lc<|an e1.2<|ia<|an ⟨e2.1,rfl,hl▸hlt⟩<|lc<|an e2.2<|ei<|an ⟨YC,UJ x y⟩<|fun w hb M=>an (fun h M=>⟨aD (iZ hx hy (by simpa using h)),M.below⟩) fun h=>an (by omega)<|bk (m+1) ⟨rfl,trivial⟩ (fun M=>⟨M,by omega,iY hx hy ht (by simpa using h)⟩) (by dsimp only;omega)
theorem UU(x y:kC)(w:World):(Op.equalIn 10000 125 (.agg #[.string x.name,.int .i64 x.ctx.user,.int .i64 x.ctx.role,.int .i64 x.ctx.typ,.int .i64 x.ctx.rng.low.aC,.int .u64 x.ctx.rng.low.cats,.int .i64 x.ctx.rng.high.aC,.int .u64 x.ctx.rng.high.cats]) (.agg #[.string y.name,.int .i64 y.ctx.user,.int .i64 y.ctx.role,.int .i64 y.ctx.typ,.int .i64 y.ctx.rng.low.aC,.int .u64 y.ctx.rng.low.cats,.int .i64 y.ctx.rng.high.aC,.int .u64 y.ctx.rng.high.cats])).run Tryz.prog w=.ok (decide (x=y)) w:=by
 rw[show(10000:Nat)=9995+5 from rfl,aaQ];congr 1;rw[asx];obtain⟨uZ,⟨OV,OW,RP,⟨⟨yh,yj⟩,⟨u6,u7⟩⟩⟩⟩:=x;obtain⟨uW,⟨OT,OU,RJ,⟨⟨yd,yg⟩,⟨uX,uY⟩⟩⟩⟩:=y;simp only[decide_eq_true_eq,dI.mk.injEq,lM.mk.injEq,uS.mk.injEq,kC.mk.injEq,Int.natCast_inj,and_assoc]
theorem EP(w0:World)(v1 v2:Value)(l1 l2:List kC)(h1:SliceAt w0 v1 8 l1.length (l1.flatMap kC.cells))(h2:SliceAt w0 v2 8 l2.length (l2.flatMap kC.cells)):Calls Tryz.prog 145 #[v1,v2] w0 (fun(r:Ending) (w':World)=>r=.returned (.bool (decide (l1=l2)))∧ar6 w0.heap.size w0 w'):=by
 obtain⟨_,_,rfl,-,hm1,-⟩:=h1.form (by decide);obtain⟨_,_,rfl,-⟩:=h2.form (by decide);refine bX [] (fn:=Tryz.f145) Tryz.func145 rfl Tryz.ntmps145 rfl<|an (fun h M=>⟨aD (f_ (by simp at h;omega)),M.below⟩) fun h=>lr (ι:=Nat) (fun m=>[(13,.int .i64 (m:Int))]) (fun m _=>m≤l1.length∧l1.take m=l2.take m) (fun m=>l1.length-m) 0 (an ⟨⟨rfl,trivial⟩,fun M=>⟨M,asg _,rfl⟩⟩ ?_)
 have hl:l1.length=l2.length:=by simp at h;omega
 rintro m w M ⟨hm,ht⟩;refine an (fun h3=>?_) fun h3 M=>⟨aD (gh (by simp at h3;omega) hl ht),M.below⟩
 have hlt:m<l1.length:=by simp at h3;omega
 obtain⟨x,y,_,_,_,_,hx,hy,e1,e2⟩:=dH (f:=kC.cells) (k:=8) (fun _=>rfl) (by decide) h1 h2 rfl rfl hlt hl M.below;exact dr (by kernel_rfl)<|ia<|an ⟨e1.1,rfl,hlt⟩<|lc<|an e1.2<|ia<|an ⟨e2.1,rfl,hl▸hlt⟩<|lc<|an e2.2<|ei<|an ⟨YJ,UU x y⟩<|fun w hb M=>an (fun h M=>⟨aD (iZ hx hy (by simpa using h)),M.below⟩) fun h=>an (by omega)<|bk (m+1) ⟨rfl,trivial⟩ (fun M=>⟨M,by omega,iY hx hy ht (by simpa using h)⟩) (by dsimp only;omega)
theorem UR(x y:kF)(w:World):(Op.equalIn 10000 127 (.agg #[.string x.pat,.int .i64 x.kind,.int .i64 x.ctx.user,.int .i64 x.ctx.role,.int .i64 x.ctx.typ,.int .i64 x.ctx.rng.low.aC,.int .u64 x.ctx.rng.low.cats,.int .i64 x.ctx.rng.high.aC,.int .u64 x.ctx.rng.high.cats]) (.agg #[.string y.pat,.int .i64 y.kind,.int .i64 y.ctx.user,.int .i64 y.ctx.role,.int .i64 y.ctx.typ,.int .i64 y.ctx.rng.low.aC,.int .u64 y.ctx.rng.low.cats,.int .i64 y.ctx.rng.high.aC,.int .u64 y.ctx.rng.high.cats])).run Tryz.prog w=.ok (decide (x=y)) w:=by
 rw[show(10000:Nat)=9995+5 from rfl,aaP];congr 1;rw[asx];obtain⟨ahU,JZ,⟨OV,OW,RP,⟨⟨yh,yj⟩,⟨u6,u7⟩⟩⟩⟩:=x;obtain⟨ahS,JO,⟨OT,OU,RJ,⟨⟨yd,yg⟩,⟨uX,uY⟩⟩⟩⟩:=y;simp only[decide_eq_true_eq,dI.mk.injEq,kF.mk.injEq,lM.mk.injEq,uS.mk.injEq,Int.natCast_inj,and_assoc]
theorem EO(w0:World)(v1 v2:Value)(l1 l2:List kF)(h1:SliceAt w0 v1 9 l1.length (l1.flatMap kF.cells))(h2:SliceAt w0 v2 9 l2.length (l2.flatMap kF.cells)):Calls Tryz.prog 146 #[v1,v2] w0 (fun(r:Ending) (w':World)=>r=.returned (.bool (decide (l1=l2)))∧ar6 w0.heap.size w0 w'):=by
 obtain⟨_,_,rfl,-,hm1,-⟩:=h1.form (by decide);obtain⟨_,_,rfl,-⟩:=h2.form (by decide);refine bX [] (fn:=Tryz.f146) Tryz.func146 rfl Tryz.ntmps146 rfl<|an (fun h M=>⟨aD (f_ (by simp at h;omega)),M.below⟩) fun h=>lr (ι:=Nat) (fun m=>[(13,.int .i64 (m:Int))]) (fun m _=>m≤l1.length∧l1.take m=l2.take m) (fun m=>l1.length-m) 0 (an ⟨⟨rfl,trivial⟩,fun M=>⟨M,asg _,rfl⟩⟩ ?_)
 have hl:l1.length=l2.length:=by simp at h;omega
 rintro m w M ⟨hm,ht⟩;refine an (fun h3=>?_) fun h3 M=>⟨aD (gh (by simp at h3;omega) hl ht),M.below⟩
 have hlt:m<l1.length:=by simp at h3;omega
 obtain⟨x,y,_,_,_,_,hx,hy,e1,e2⟩:=dH (f:=kF.cells) (k:=9) (fun _=>rfl) (by decide) h1 h2 rfl rfl hlt hl M.below;exact dr (by kernel_rfl)<|ia<|an ⟨e1.1,rfl,hlt⟩<|lc<|an e1.2<|ia<|an ⟨e2.1,rfl,hl▸hlt⟩<|lc<|an e2.2<|ei<|an ⟨YI,UR x y⟩<|fun w hb M=>an (fun h M=>⟨aD (iZ hx hy (by simpa using h)),M.below⟩) fun h=>an (by omega)<|bk (m+1) ⟨rfl,trivial⟩ (fun M=>⟨M,by omega,iY hx hy ht (by simpa using h)⟩) (by dsimp only;omega)
theorem UQ(x y:kH)(w:World):(Op.equalIn 10000 129 (.agg #[.string x.name,.int .i64 x.kind,.int .u64 x.src.a,.int .u64 x.src.b,.int .u64 x.src.c,.int .u64 x.src.d,.int .u64 x.tgt.a,.int .u64 x.tgt.b,.int .u64 x.tgt.c,.int .u64 x.tgt.d]) (.agg #[.string y.name,.int .i64 y.kind,.int .u64 y.src.a,.int .u64 y.src.b,.int .u64 y.src.c,.int .u64 y.src.d,.int .u64 y.tgt.a,.int .u64 y.tgt.b,.int .u64 y.tgt.c,.int .u64 y.tgt.d])).run Tryz.prog w=.ok (decide (x=y)) w:=by
 rw[show(10000:Nat)=9997+3 from rfl,aaO];congr 1;rw[asx];obtain⟨uZ,JZ,⟨JY,JX,JW,JV⟩,⟨JU,JT,JR,JQ⟩⟩:=x;obtain⟨uW,JO,⟨JN,JM,JL,JK⟩,⟨JJ,JI,JH,JG⟩⟩:=y;simp only[decide_eq_true_eq,kH.mk.injEq,ay.mk.injEq,Int.natCast_inj,and_assoc]
theorem EN(w0:World)(v1 v2:Value)(l1 l2:List kH)(h1:SliceAt w0 v1 10 l1.length (l1.flatMap kH.cells))(h2:SliceAt w0 v2 10 l2.length (l2.flatMap kH.cells)):Calls Tryz.prog 147 #[v1,v2] w0 (fun(r:Ending) (w':World)=>r=.returned (.bool (decide (l1=l2)))∧ar6 w0.heap.size w0 w'):=by
 obtain⟨_,_,rfl,-,hm1,-⟩:=h1.form (by decide);obtain⟨_,_,rfl,-⟩:=h2.form (by decide);refine bX [] (fn:=Tryz.f147) Tryz.func147 rfl Tryz.ntmps147 rfl<|an (fun h M=>⟨aD (f_ (by simp at h;omega)),M.below⟩) fun h=>lr (ι:=Nat) (fun m=>[(13,.int .i64 (m:Int))]) (fun m _=>m≤l1.length∧l1.take m=l2.take m) (fun m=>l1.length-m) 0 (an ⟨⟨rfl,trivial⟩,fun M=>⟨M,asg _,rfl⟩⟩ ?_)
 have hl:l1.length=l2.length:=by simp at h;omega
 rintro m w M ⟨hm,ht⟩;refine an (fun h3=>?_) fun h3 M=>⟨aD (gh (by simp at h3;omega) hl ht),M.below⟩
 have hlt:m<l1.length:=by simp at h3;omega
 obtain⟨x,y,_,_,_,_,hx,hy,e1,e2⟩:=dH (f:=kH.cells) (k:=10) (fun _=>rfl) (by decide) h1 h2 rfl rfl hlt hl M.below;exact dr (by kernel_rfl)<|ia<|an ⟨e1.1,rfl,hlt⟩<|lc<|an e1.2<|ia<|an ⟨e2.1,rfl,hl▸hlt⟩<|lc<|an e2.2<|ei<|an ⟨YH,UQ x y⟩<|fun w hb M=>an (fun h M=>⟨aD (iZ hx hy (by simpa using h)),M.below⟩) fun h=>an (by omega)<|bk (m+1) ⟨rfl,trivial⟩ (fun M=>⟨M,by omega,iY hx hy ht (by simpa using h)⟩) (by dsimp only;omega)
theorem iJ(w0:World)(v1 v2:Value)(l1 l2:List ByteArray)(h1:SliceAt w0 v1 1 l1.length (l1.flatMap aT))(h2:SliceAt w0 v2 1 l2.length (l2.flatMap aT)):Calls Tryz.prog 213 #[v1,v2] w0 (fun(r:Ending) (w':World)=>r=.returned (.bool (decide (l1=l2)))∧ar6 w0.heap.size w0 w'):=by
 obtain⟨_,_,rfl,-,hm1,-⟩:=h1.form (by decide);obtain⟨_,_,rfl,-⟩:=h2.form (by decide);refine bX [] (fn:=Tryz.f213) Tryz.func213 rfl Tryz.ntmps213 rfl<|an (fun h M=>⟨aD (f_ (by simp at h;omega)),M.below⟩) fun h=>lr (ι:=Nat) (fun m=>[(13,.int .i64 (m:Int))]) (fun m _=>m≤l1.length∧l1.take m=l2.take m) (fun m=>l1.length-m) 0 (an ⟨⟨rfl,trivial⟩,fun M=>⟨M,asg _,rfl⟩⟩ ?_)
 have hl:l1.length=l2.length:=by simp at h;omega
 rintro m w M ⟨hm,ht⟩;refine an (fun h3=>?_) fun h3 M=>⟨aD (gh (by simp at h3;omega) hl ht),M.below⟩
 have hlt:m<l1.length:=by simp at h3;omega
 obtain⟨x,y,_,_,_,_,hx,hy,e1,e2⟩:=dH (f:=aT) (k:=1) (fun _=>rfl) (by decide) h1 h2 rfl rfl hlt hl M.below;exact dr (by kernel_rfl)<|ia<|an ⟨e1.1,rfl,hlt⟩<|lc (x:=.string x)<|an (e1.2 0 _ rfl)<|ia<|an ⟨e2.1,rfl,hl▸hlt⟩<|lc (x:=.string y)<|an (e2.2 0 _ rfl)<|fun w hb M=>an (fun h M=>⟨aD (iZ hx hy (by rw[← nH];simpa using h)),M.below⟩) fun h=>an (by omega)<|bk (m+1) ⟨rfl,trivial⟩ (fun M=>⟨M,by omega,iY hx hy ht (by rw[← nH];simpa using h)⟩) (by dsimp only;omega)
theorem UO(x y:kG)(w:World):(Op.equalIn 10000 184 (.agg #[.string x.name,.int .u64 x.types.a,.int .u64 x.types.b,.int .u64 x.types.c,.int .u64 x.types.d]) (.agg #[.string y.name,.int .u64 y.types.a,.int .u64 y.types.b,.int .u64 y.types.c,.int .u64 y.types.d])).run Tryz.prog w=.ok (decide (x=y)) w:=by
 rw[show(10000:Nat)=9997+3 from rfl,aaN];congr 1;rw[asx];obtain⟨uZ,⟨Gq,Gp,Gn,Gm⟩⟩:=x;obtain⟨uW,⟨Gl,Gj,Gi,Gh⟩⟩:=y;simp only[decide_eq_true_eq,kG.mk.injEq,ay.mk.injEq,Int.natCast_inj]
theorem EM(w0:World)(v1 v2:Value)(l1 l2:List kG)(h1:SliceAt w0 v1 5 l1.length (l1.flatMap kG.cells))(h2:SliceAt w0 v2 5 l2.length (l2.flatMap kG.cells)):Calls Tryz.prog 218 #[v1,v2] w0 (fun(r:Ending) (w':World)=>r=.returned (.bool (decide (l1=l2)))∧ar6 w0.heap.size w0 w'):=by
 obtain⟨_,_,rfl,-,hm1,-⟩:=h1.form (by decide);obtain⟨_,_,rfl,-⟩:=h2.form (by decide);refine bX [] (fn:=Tryz.f218) Tryz.func218 rfl Tryz.ntmps218 rfl<|an (fun h M=>⟨aD (f_ (by simp at h;omega)),M.below⟩) fun h=>lr (ι:=Nat) (fun m=>[(13,.int .i64 (m:Int))]) (fun m _=>m≤l1.length∧l1.take m=l2.take m) (fun m=>l1.length-m) 0 (an ⟨⟨rfl,trivial⟩,fun M=>⟨M,asg _,rfl⟩⟩ ?_)
 have hl:l1.length=l2.length:=by simp at h;omega
 rintro m w M ⟨hm,ht⟩;refine an (fun h3=>?_) fun h3 M=>⟨aD (gh (by simp at h3;omega) hl ht),M.below⟩
 have hlt:m<l1.length:=by simp at h3;omega
 obtain⟨x,y,_,_,_,_,hx,hy,e1,e2⟩:=dH (f:=kG.cells) (k:=5) (fun _=>rfl) (by decide) h1 h2 rfl rfl hlt hl M.below;exact dr (by kernel_rfl)<|ia<|an ⟨e1.1,rfl,hlt⟩<|lc<|an e1.2<|ia<|an ⟨e2.1,rfl,hl▸hlt⟩<|lc<|an e2.2<|ei<|an ⟨YG,UO x y⟩<|fun w hb M=>an (fun h M=>⟨aD (iZ hx hy (by simpa using h)),M.below⟩) fun h=>an (by omega)<|bk (m+1) ⟨rfl,trivial⟩ (fun M=>⟨M,by omega,iY hx hy ht (by simpa using h)⟩) (by dsimp only;omega)
theorem UN(x y:gP)(w:World):(Op.equalIn 10000 188 (.agg #[.string x.name,.int .u64 x.types.a,.int .u64 x.types.b,.int .u64 x.types.c,.int .u64 x.types.d,.int .u64 x.next.a,.int .u64 x.next.b,.int .u64 x.next.c,.int .u64 x.next.d]) (.agg #[.string y.name,.int .u64 y.types.a,.int .u64 y.types.b,.int .u64 y.types.c,.int .u64 y.types.d,.int .u64 y.next.a,.int .u64 y.next.b,.int .u64 y.next.c,.int .u64 y.next.d])).run Tryz.prog w=.ok (decide (x=y)) w:=by
 rw[show(10000:Nat)=9997+3 from rfl,UF];congr 1;rw[asx];obtain⟨uZ,⟨Gq,Gp,Gn,Gm⟩,⟨aez,aey,aex,aew⟩⟩:=x;obtain⟨uW,⟨Gl,Gj,Gi,Gh⟩,⟨aeu,aes,aer,aep⟩⟩:=y;simp only[decide_eq_true_eq,gP.mk.injEq,ay.mk.injEq,Int.natCast_inj,and_assoc]
theorem EL(w0:World)(v1 v2:Value)(l1 l2:List gP)(h1:SliceAt w0 v1 9 l1.length (l1.flatMap gP.cells))(h2:SliceAt w0 v2 9 l2.length (l2.flatMap gP.cells)):Calls Tryz.prog 219 #[v1,v2] w0 (fun(r:Ending) (w':World)=>r=.returned (.bool (decide (l1=l2)))∧ar6 w0.heap.size w0 w'):=by
 obtain⟨_,_,rfl,-,hm1,-⟩:=h1.form (by decide);obtain⟨_,_,rfl,-⟩:=h2.form (by decide);refine bX [] (fn:=Tryz.f219) Tryz.func219 rfl Tryz.ntmps219 rfl<|an (fun h M=>⟨aD (f_ (by simp at h;omega)),M.below⟩) fun h=>lr (ι:=Nat) (fun m=>[(13,.int .i64 (m:Int))]) (fun m _=>m≤l1.length∧l1.take m=l2.take m) (fun m=>l1.length-m) 0 (an ⟨⟨rfl,trivial⟩,fun M=>⟨M,asg _,rfl⟩⟩ ?_)
 have hl:l1.length=l2.length:=by simp at h;omega
 rintro m w M ⟨hm,ht⟩;refine an (fun h3=>?_) fun h3 M=>⟨aD (gh (by simp at h3;omega) hl ht),M.below⟩
 have hlt:m<l1.length:=by simp at h3;omega
 obtain⟨x,y,_,_,_,_,hx,hy,e1,e2⟩:=dH (f:=gP.cells) (k:=9) (fun _=>rfl) (by decide) h1 h2 rfl rfl hlt hl M.below;exact dr (by kernel_rfl)<|ia<|an ⟨e1.1,rfl,hlt⟩<|lc<|an e1.2<|ia<|an ⟨e2.1,rfl,hl▸hlt⟩<|lc<|an e2.2<|ei<|an ⟨UY,UN x y⟩<|fun w hb M=>an (fun h M=>⟨aD (iZ hx hy (by simpa using h)),M.below⟩) fun h=>an (by omega)<|bk (m+1) ⟨rfl,trivial⟩ (fun M=>⟨M,by omega,iY hx hy ht (by simpa using h)⟩) (by dsimp only;omega)
theorem UM(x y:jX)(w:World):(Op.equalIn 10000 192 (.agg #[.string x.name,.int .u64 x.roles.a,.int .u64 x.roles.b,.int .u64 x.roles.c,.int .u64 x.roles.d,.int .i64 x.dflt.aC,.int .u64 x.dflt.cats,.int .i64 x.rng.low.aC,.int .u64 x.rng.low.cats,.int .i64 x.rng.high.aC,.int .u64 x.rng.high.cats]) (.agg #[.string y.name,.int .u64 y.roles.a,.int .u64 y.roles.b,.int .u64 y.roles.c,.int .u64 y.roles.d,.int .i64 y.dflt.aC,.int .u64 y.dflt.cats,.int .i64 y.rng.low.aC,.int .u64 y.rng.low.cats,.int .i64 y.rng.high.aC,.int .u64 y.rng.high.cats])).run Tryz.prog w=.ok (decide (x=y)) w:=by
 rw[show(10000:Nat)=9996+4 from rfl,aaM];congr 1;rw[asx];obtain⟨uZ,⟨RO,RN,RM,RL⟩,⟨Y1,Y2⟩,⟨⟨DM,DN⟩,⟨Ch,Ci⟩⟩⟩:=x;obtain⟨uW,⟨RH,RG,RF,RE⟩,⟨YX,YZ⟩,⟨⟨DK,DL⟩,⟨Cc,Cd⟩⟩⟩:=y;simp only[decide_eq_true_eq,lM.mk.injEq,uS.mk.injEq,ay.mk.injEq,jX.mk.injEq,Int.natCast_inj,and_assoc]
theorem EK(w0:World)(v1 v2:Value)(l1 l2:List jX)(h1:SliceAt w0 v1 11 l1.length (l1.flatMap jX.cells))(h2:SliceAt w0 v2 11 l2.length (l2.flatMap jX.cells)):Calls Tryz.prog 220 #[v1,v2] w0 (fun(r:Ending) (w':World)=>r=.returned (.bool (decide (l1=l2)))∧ar6 w0.heap.size w0 w'):=by
 obtain⟨_,_,rfl,-,hm1,-⟩:=h1.form (by decide);obtain⟨_,_,rfl,-⟩:=h2.form (by decide);refine bX [] (fn:=Tryz.f220) Tryz.func220 rfl Tryz.ntmps220 rfl<|an (fun h M=>⟨aD (f_ (by simp at h;omega)),M.below⟩) fun h=>lr (ι:=Nat) (fun m=>[(13,.int .i64 (m:Int))]) (fun m _=>m≤l1.length∧l1.take m=l2.take m) (fun m=>l1.length-m) 0 (an ⟨⟨rfl,trivial⟩,fun M=>⟨M,asg _,rfl⟩⟩ ?_)
 have hl:l1.length=l2.length:=by simp at h;omega
 rintro m w M ⟨hm,ht⟩;refine an (fun h3=>?_) fun h3 M=>⟨aD (gh (by simp at h3;omega) hl ht),M.below⟩
 have hlt:m<l1.length:=by simp at h3;omega
 obtain⟨x,y,_,_,_,_,hx,hy,e1,e2⟩:=dH (f:=jX.cells) (k:=11) (fun _=>rfl) (by decide) h1 h2 rfl rfl hlt hl M.below;exact dr (by kernel_rfl)<|ia<|an ⟨e1.1,rfl,hlt⟩<|lc<|an e1.2<|ia<|an ⟨e2.1,rfl,hl▸hlt⟩<|lc<|an e2.2<|ei<|an ⟨YF,UM x y⟩<|fun w hb M=>an (fun h M=>⟨aD (iZ hx hy (by simpa using h)),M.below⟩) fun h=>an (by omega)<|bk (m+1) ⟨rfl,trivial⟩ (fun M=>⟨M,by omega,iY hx hy ht (by simpa using h)⟩) (by dsimp only;omega)
theorem UL(x y:gH)(w:World):(Op.equalIn 10000 197 (.agg #[.string x.name,.bool x.val]) (.agg #[.string y.name,.bool y.val])).run Tryz.prog w=.ok (decide (x=y)) w:=by
 rw[show(10000:Nat)=9998+2 from rfl,aaL];congr 1;rw[asx];obtain⟨uZ,ahT⟩:=x;obtain⟨uW,ahR⟩:=y;simp only[decide_eq_true_eq,gH.mk.injEq]
theorem EJ(w0:World)(v1 v2:Value)(l1 l2:List gH)(h1:SliceAt w0 v1 2 l1.length (l1.flatMap gH.cells))(h2:SliceAt w0 v2 2 l2.length (l2.flatMap gH.cells)):Calls Tryz.prog 221 #[v1,v2] w0 (fun(r:Ending) (w':World)=>r=.returned (.bool (decide (l1=l2)))∧ar6 w0.heap.size w0 w'):=by
 obtain⟨_,_,rfl,-,hm1,-⟩:=h1.form (by decide);obtain⟨_,_,rfl,-⟩:=h2.form (by decide);refine bX [] (fn:=Tryz.f221) Tryz.func221 rfl Tryz.ntmps221 rfl<|an (fun h M=>⟨aD (f_ (by simp at h;omega)),M.below⟩) fun h=>lr (ι:=Nat) (fun m=>[(13,.int .i64 (m:Int))]) (fun m _=>m≤l1.length∧l1.take m=l2.take m) (fun m=>l1.length-m) 0 (an ⟨⟨rfl,trivial⟩,fun M=>⟨M,asg _,rfl⟩⟩ ?_)
 have hl:l1.length=l2.length:=by simp at h;omega
 rintro m w M ⟨hm,ht⟩;refine an (fun h3=>?_) fun h3 M=>⟨aD (gh (by simp at h3;omega) hl ht),M.below⟩
 have hlt:m<l1.length:=by simp at h3;omega
 obtain⟨x,y,_,_,_,_,hx,hy,e1,e2⟩:=dH (f:=gH.cells) (k:=2) (fun _=>rfl) (by decide) h1 h2 rfl rfl hlt hl M.below;exact dr (by kernel_rfl)<|ia<|an ⟨e1.1,rfl,hlt⟩<|lc<|an e1.2<|ia<|an ⟨e2.1,rfl,hl▸hlt⟩<|lc<|an e2.2<|ei<|an ⟨YE,UL x y⟩<|fun w hb M=>an (fun h M=>⟨aD (iZ hx hy (by simpa using h)),M.below⟩) fun h=>an (by omega)<|bk (m+1) ⟨rfl,trivial⟩ (fun M=>⟨M,by omega,iY hx hy ht (by simpa using h)⟩) (by dsimp only;omega)
def au{α:Type}(p:α→α→Bool):List α→List α→Bool
 | [],[]=>true
 | x::l,y::r=>p x y&&au p l r
 | _,_=>false
section
variable {α:Type} {p:α→α→Bool} {l1 l2:List α} {m:Nat} {x y:α}
theorem sP(h:¬ l1.length=l2.length):false=au p l1 l2:=by
 induction l1 generalizing l2 with
 | nil=>cases l2 with
  | nil=>exact absurd rfl h
  | cons y r=>rfl
 | cons x l ih=>cases l2 with
  | nil=>rfl
  | cons y r=>rw[au,← ih (fun e=>h (by rw[List.length_cons,List.length_cons,e])),Bool.and_false]
theorem OD(hx:l1[m]?=some x)(hy:l2[m]?=some y):au p (l1.drop m) (l2.drop m)=(p x y&&au p (l1.drop (m+1)) (l2.drop (m+1))):=by
 rw[List.drop_eq_getElem_cons (asc.1 hx).1,(asc.1 hx).2,List.drop_eq_getElem_cons (asc.1 hy).1,(asc.1 hy).2,au]
theorem Jl(hx:l1[m]?=some x)(hy:l2[m]?=some y)(h:au p l1 l2=au p (l1.drop m) (l2.drop m))(hq:p x y=false):false=au p l1 l2:=by
 rw[h,OD hx hy,hq];rfl
theorem Jk(hx:l1[m]?=some x)(hy:l2[m]?=some y)(h:au p l1 l2=au p (l1.drop m) (l2.drop m))(hq:p x y=true):au p l1 l2=au p (l1.drop (m+1)) (l2.drop (m+1)):=by
 rw[h,OD hx hy,hq];rfl
theorem BP(hm:m=l1.length)(hl:l1.length=l2.length)(h:au p l1 l2=au p (l1.drop m) (l2.drop m)):true=au p l1 l2:=by
 subst hm;rw[h,List.drop_length,hl,List.drop_length];rfl
end
mutual
def fq:aq→aq→Bool
 | .node op a rel b names set kids,y=>(((((decide (op=y.op)&&decide (a=y.a))&&decide (rel=y.rel))&&decide (b=y.b))&&decide (set=y.set))&&decide (names=y.names))&&rV kids y.kids
def rV:List aq→List aq→Bool
 | [],[]=>true
 | x::l,y::r=>fq x y&&rV l r
 | [],_::_=>false
 | _::_,[]=>false
end
theorem CZ:∀ l r:List aq,rV l r=au fq l r
 | [],[]=>by rw[rV];rfl
 | x::l,y::r=>by rw[rV,CZ l r];rfl
 | [],_::_=>by rw[rV];rfl
 | _::_,[]=>by rw[rV];rfl
theorem Af(x y:aq):fq x y=((((((decide (x.op=y.op)&&decide (x.a=y.a))&&decide (x.rel=y.rel))&&decide (x.b=y.b))&&decide (x.set=y.set))&&decide (x.names=y.names))&&au fq x.kids y.kids):=by
 cases x;rw[fq,CZ];rfl
theorem rN(w0:World)(v1 v2:Value)(l1 l2:List aq)(h1:lG w0 v1 l1)(h2:lG w0 v2 l2)(hF:∀ x∈l1,∀ (y:aq) (w:World) (cx cy:List Value),bh w cx x→bh w cy y→Calls Tryz.prog 138 #[.agg cx.toArray,.agg cy.toArray] w fun r w'=>r=.returned (.bool (fq x y))∧ar6 w.heap.size w w'):Calls Tryz.prog 140 #[v1,v2,.func (.func 138) #[] #[]] w0 (fun(r:Ending) (w':World)=>r=.returned (.bool (au fq l1 l2))∧ar6 w0.heap.size w0 w'):=by
 obtain⟨_,_,rfl,-,hm1,-⟩:=ak.form h1 (by decide);obtain⟨_,_,rfl,-⟩:=ak.form h2 (by decide);refine bX [] (fn:=Tryz.f140) Tryz.func140 rfl Tryz.ntmps140 rfl<|an (fun h M=>⟨rb (sP (by simp at h;omega)).symm,M.below⟩) fun h=>?_
 have hl:l1.length=l2.length:=by simp at h;omega
 refine lr (ι:=Nat) (fun m=>[(17,.int .i64 (m:Int))]) (fun m _=>m≤l1.length∧au fq l1 l2=au fq (l1.drop m) (l2.drop m)) (fun m=>l1.length-m) 0 (an ⟨⟨rfl,trivial⟩,fun M=>⟨M,asg _,rfl⟩⟩ ?_);intro m w M ⟨hm,hI⟩;refine an (fun h3=>?_) fun h3 M=>⟨rb (BP (by simp at h3;omega) hl hI).symm,M.below⟩
 have hlt:m<l1.length:=by simp at h3;omega
 have hlt2:m<l2.length:=by omega
 obtain⟨x,hx⟩:∃ x,l1[m]?=some x:=⟨_,ash hlt⟩;obtain⟨y,hy⟩:∃ y,l2[m]?=some y:=⟨_,ash hlt2⟩;obtain⟨b1,o1,_,e1,Dr,hc1⟩:=ak.elt h1 (by decide) hx;obtain⟨b2,o2,_,e2,he2,hc2⟩:=ak.elt h2 (by decide) hy;obtain⟨_,_,rfl,hn1,hk1⟩:=Dr.open;obtain⟨_,_,rfl,-⟩:=aH.get hn1;obtain⟨_,_,rfl,-⟩:=ak.form hk1 (by decide);obtain⟨_,_,rfl,hn2,hk2⟩:=he2.open;obtain⟨_,_,rfl,-⟩:=aH.get hn2;obtain⟨_,_,rfl,-⟩:=ak.form hk2 (by decide);exact ia<|an ⟨e1,rfl,hlt⟩<|lc<|an (cG M.below hc1)<|ei<|an zI fun g1 w1 M1=>lb 0<|an ⟨rfl,rfl⟩ fun w2 M2=>ia<|an ⟨e2,rfl,hlt2⟩<|lc<|an (cG M2.below hc2)<|ei<|an zI fun g2 w3 M3=>lb 0<|an ⟨rfl,rfl⟩ fun w4 M4=>lb 1<|an rfl<|lb 0<|an rfl<|cl<|an (hF x (asa hx) y _ _ _ (Dr.keep M4.below) (he2.keep M4.below)) fun w5 M5=>an (fun hq M=>⟨rb (Jl hx hy hI (by simpa using hq)).symm,M.below⟩) fun hq=>an (by omega)<|bk (m+1) ⟨rfl,trivial⟩ (fun M=>⟨M.only (.cons _ (.cons _ (.refl _))) (.refl _),by omega,Jk hx hy hI (by simpa using hq)⟩) (by dsimp only;omega)
theorem tI:∀ (x y:aq) (w0:World) (cx cy:List Value),bh w0 cx x→bh w0 cy y→Calls Tryz.prog 138 #[.agg cx.toArray,.agg cy.toArray] w0 (fun(r:Ending) (w':World)=>r=.returned (.bool (fq x y))∧ar6 w0.heap.size w0 w'):=by
 refine aq.ind fun x ih=>?_
 intro y w0 cx cy hx hy;obtain⟨_,_,rfl,hn1,hk1⟩:=hx.open;obtain⟨_,_,rfl,hn2,hk2⟩:=hy.open;obtain⟨_,_,rfl,-⟩:=aH.get hn1;obtain⟨_,_,rfl,-⟩:=aH.get hn2;obtain⟨_,_,rfl,-⟩:=ak.form hk1 (by decide);obtain⟨_,_,rfl,-⟩:=ak.form hk2 (by decide);exact bX [] (fn:=Tryz.f138) Tryz.func138 rfl Tryz.ntmps138 rfl<|fun g1 w1 M1=>fun g2 w2 M2=>lb 1<|an rfl<|lb 0<|an rfl<|lb 1<|an (fun _=>rfl)<|lb 0<|an (fun _=>rfl)<|lb 1<|an (fun _=>rfl)<|lb 0<|an (fun _=>rfl)<|lb 1<|an (fun _=>rfl)<|lb 0<|an (fun _=>rfl)<|lb 1<|an (fun _=>rfl)<|lb 0<|an (fun _=>rfl)<|ei (x:=decide (x.set=y.set))<|an (fun _=>⟨yF,fun w=>xP x.set y.set w⟩)<|lb 1<|an (fun _=>rfl)<|lb 0<|an (fun _=>rfl)<|cl<|an (fun _=>iJ _ _ _ x.names y.names (hn1.keep M2.below) (hn2.keep M2.below)) fun w3 M3=>lb 1<|an (fun _=>rfl)<|lb 0<|an (fun _=>rfl)<|cl<|an (fun _=>rN _ _ _ x.kids y.kids (lG.keep hk1 M3.below) (lG.keep hk2 M3.below) fun k hk y w cx cy h1 h2=>ih k hk y w cx cy h1 h2) fun w4 M4=>fun M=>⟨rb (Af x y),M.below⟩
def oC(x y:iB):Bool:=(x.name.toList == y.name.toList)&&decide (x.perms=y.perms)
def pE(x y:lK):Bool:=((x.name.toList == y.name.toList)&&(x.perm == y.perm))&&decide (x.ow=y.ow)
def xq(x y:nA):Bool:=((decide (x.cls=y.cls)&&decide (x.perms=y.perms))&&(x.val == y.val))&&fq x.expr y.expr
theorem Po(w0:World)(x y:iB)(SL SK:Value)(hn1:aH w0 SL x.perms)(hn2:aH w0 SK y.perms):Calls Tryz.prog 214 #[.agg #[.string x.name,SL],.agg #[.string y.name,SK]] w0 (fun(r:Ending) (w':World)=>r=.returned (.bool (oC x y))∧ar6 w0.heap.size w0 w'):=by
 obtain⟨_,_,rfl,-⟩:=aH.get hn1;obtain⟨_,_,rfl,-⟩:=aH.get hn2;exact bX [] (fn:=Tryz.f214) Tryz.func214 rfl Tryz.ntmps214 rfl<|fun g1 w1 M1=>fun g2 w2 M2=>lb 1<|an rfl<|lb 0<|an rfl<|lb 1<|an (fun _=>rfl)<|lb 0<|an (fun _=>rfl)<|cl<|an (fun _=>iJ _ _ _ x.perms y.perms (hn1.keep M2.below) (hn2.keep M2.below)) fun w3 M3=>fun M=>⟨rfl,M.below⟩
theorem Cv(w0:World)(v1 v2:Value)(l1 l2:List iB)(h1:ak 2 (qF w0) w0 v1 l1)(h2:ak 2 (qF w0) w0 v2 l2):Calls Tryz.prog 216 #[v1,v2,.func (.func 214) #[] #[]] w0 (fun(r:Ending) (w':World)=>r=.returned (.bool (au oC l1 l2))∧ar6 w0.heap.size w0 w'):=by
 obtain⟨_,_,rfl,-,hm1,-⟩:=ak.form h1 (by decide);obtain⟨_,_,rfl,-⟩:=ak.form h2 (by decide);refine bX [] (fn:=Tryz.f216) Tryz.func216 rfl Tryz.ntmps216 rfl<|an (fun h M=>⟨rb (sP (by simp at h;omega)).symm,M.below⟩) fun h=>?_
 have hl:l1.length=l2.length:=by simp at h;omega
 refine lr (ι:=Nat) (fun m=>[(17,.int .i64 (m:Int))]) (fun m _=>m≤l1.length∧au oC l1 l2=au oC (l1.drop m) (l2.drop m)) (fun m=>l1.length-m) 0 (an ⟨⟨rfl,trivial⟩,fun M=>⟨M,asg _,rfl⟩⟩ ?_);intro m w M ⟨hm,hI⟩;refine an (fun h3=>?_) fun h3 M=>⟨rb (BP (by simp at h3;omega) hl hI).symm,M.below⟩
 have hlt:m<l1.length:=by simp at h3;omega
 have hlt2:m<l2.length:=by omega
 obtain⟨x,hx⟩:∃ x,l1[m]?=some x:=⟨_,ash hlt⟩;obtain⟨y,hy⟩:∃ y,l2[m]?=some y:=⟨_,ash hlt2⟩;obtain⟨b1,o1,_,e1,Dr,hc1⟩:=ak.elt h1 (by decide) hx;obtain⟨b2,o2,_,e2,he2,hc2⟩:=ak.elt h2 (by decide) hy;obtain⟨_,rfl,hn1⟩:=Dr;obtain⟨_,_,rfl,-⟩:=aH.get hn1;obtain⟨_,rfl,hn2⟩:=he2;obtain⟨_,_,rfl,-⟩:=aH.get hn2;exact ia<|an ⟨e1,rfl,hlt⟩<|lc<|an (cG M.below hc1)<|ei<|an MO fun g1 w1 M1=>lb 0<|an ⟨rfl,rfl⟩ fun w2 M2=>ia<|an ⟨e2,rfl,hlt2⟩<|lc<|an (cG M2.below hc2)<|ei<|an MO fun g2 w3 M3=>lb 0<|an ⟨rfl,rfl⟩ fun w4 M4=>lb 1<|an rfl<|lb 0<|an rfl<|cl<|an (Po _ x y _ _ (hn1.keep M4.below) (hn2.keep M4.below)) fun w5 M5=>an (fun hq M=>⟨rb (Jl hx hy hI (by simpa using hq)).symm,M.below⟩) fun hq=>an (by omega)<|bk (m+1) ⟨rfl,trivial⟩ (fun M=>⟨M.only (.cons _ (.cons _ (.refl _))) (.refl _),by omega,Jk hx hy hI (by simpa using hq)⟩) (by dsimp only;omega)
theorem Pm(w0:World)(x y:lK)(SL SK:Value)(hn1:aH w0 SL x.ow)(hn2:aH w0 SK y.ow):Calls Tryz.prog 215 #[.agg #[.string x.name,SL,.bool x.perm],.agg #[.string y.name,SK,.bool y.perm]] w0 (fun(r:Ending) (w':World)=>r=.returned (.bool (pE x y))∧ar6 w0.heap.size w0 w'):=by
 obtain⟨_,_,rfl,-⟩:=aH.get hn1;obtain⟨_,_,rfl,-⟩:=aH.get hn2;exact bX [] (fn:=Tryz.f215) Tryz.func215 rfl Tryz.ntmps215 rfl<|fun g1 w1 M1=>fun g2 w2 M2=>lb 1<|an rfl<|lb 0<|an rfl<|lb 1<|an (fun _=>rfl)<|lb 0<|an (fun _=>rfl)<|lb 1<|an (fun _=>rfl)<|lb 0<|an (fun _=>rfl)<|cl<|an (fun _=>iJ _ _ _ x.ow y.ow (hn1.keep M2.below) (hn2.keep M2.below)) fun w3 M3=>fun M=>⟨rfl,M.below⟩
theorem Cu(w0:World)(v1 v2:Value)(l1 l2:List lK)(h1:ak 3 (qC w0) w0 v1 l1)(h2:ak 3 (qC w0) w0 v2 l2):Calls Tryz.prog 217 #[v1,v2,.func (.func 215) #[] #[]] w0 (fun(r:Ending) (w':World)=>r=.returned (.bool (au pE l1 l2))∧ar6 w0.heap.size w0 w'):=by
 obtain⟨_,_,rfl,-,hm1,-⟩:=ak.form h1 (by decide);obtain⟨_,_,rfl,-⟩:=ak.form h2 (by decide);refine bX [] (fn:=Tryz.f217) Tryz.func217 rfl Tryz.ntmps217 rfl<|an (fun h M=>⟨rb (sP (by simp at h;omega)).symm,M.below⟩) fun h=>?_
 have hl:l1.length=l2.length:=by simp at h;omega
 refine lr (ι:=Nat) (fun m=>[(17,.int .i64 (m:Int))]) (fun m _=>m≤l1.length∧au pE l1 l2=au pE (l1.drop m) (l2.drop m)) (fun m=>l1.length-m) 0 (an ⟨⟨rfl,trivial⟩,fun M=>⟨M,asg _,rfl⟩⟩ ?_);intro m w M ⟨hm,hI⟩;refine an (fun h3=>?_) fun h3 M=>⟨rb (BP (by simp at h3;omega) hl hI).symm,M.below⟩
 have hlt:m<l1.length:=by simp at h3;omega
 have hlt2:m<l2.length:=by omega
 obtain⟨x,hx⟩:∃ x,l1[m]?=some x:=⟨_,ash hlt⟩;obtain⟨y,hy⟩:∃ y,l2[m]?=some y:=⟨_,ash hlt2⟩;obtain⟨b1,o1,_,e1,Dr,hc1⟩:=ak.elt h1 (by decide) hx;obtain⟨b2,o2,_,e2,he2,hc2⟩:=ak.elt h2 (by decide) hy;obtain⟨_,rfl,hn1⟩:=Dr;obtain⟨_,_,rfl,-⟩:=aH.get hn1;obtain⟨_,rfl,hn2⟩:=he2;obtain⟨_,_,rfl,-⟩:=aH.get hn2;exact ia<|an ⟨e1,rfl,hlt⟩<|lc<|an (cG M.below hc1)<|ei<|an YU fun g1 w1 M1=>lb 0<|an ⟨rfl,rfl⟩ fun w2 M2=>ia<|an ⟨e2,rfl,hlt2⟩<|lc<|an (cG M2.below hc2)<|ei<|an YU fun g2 w3 M3=>lb 0<|an ⟨rfl,rfl⟩ fun w4 M4=>lb 1<|an rfl<|lb 0<|an rfl<|cl<|an (Pm _ x y _ _ (hn1.keep M4.below) (hn2.keep M4.below)) fun w5 M5=>an (fun hq M=>⟨rb (Jl hx hy hI (by simpa using hq)).symm,M.below⟩) fun hq=>an (by omega)<|bk (m+1) ⟨rfl,trivial⟩ (fun M=>⟨M.only (.cons _ (.cons _ (.refl _))) (.refl _),by omega,Jk hx hy hI (by simpa using hq)⟩) (by dsimp only;omega)
theorem Pn(w0:World)(x y:nA)(SL SK kv1 kv2:Value)(Dr:bh w0 [.int .i64 x.expr.op,.int .i64 x.expr.a,.int .i64 x.expr.rel,.int .i64 x.expr.b,SL,.int .u64 x.expr.set.a,.int .u64 x.expr.set.b,.int .u64 x.expr.set.c,.int .u64 x.expr.set.d,kv1] x.expr)(he2:bh w0 [.int .i64 y.expr.op,.int .i64 y.expr.a,.int .i64 y.expr.rel,.int .i64 y.expr.b,SK,.int .u64 y.expr.set.a,.int .u64 y.expr.set.b,.int .u64 y.expr.set.c,.int .u64 y.expr.set.d,kv2] y.expr):Calls Tryz.prog 137 #[.agg #[.int .i64 x.cls,.int .u32 x.perms,.bool x.val,.int .i64 x.expr.op,.int .i64 x.expr.a,.int .i64 x.expr.rel,.int .i64 x.expr.b,SL,.int .u64 x.expr.set.a,.int .u64 x.expr.set.b,.int .u64 x.expr.set.c,.int .u64 x.expr.set.d,kv1],.agg #[.int .i64 y.cls,.int .u32 y.perms,.bool y.val,.int .i64 y.expr.op,.int .i64 y.expr.a,.int .i64 y.expr.rel,.int .i64 y.expr.b,SK,.int .u64 y.expr.set.a,.int .u64 y.expr.set.b,.int .u64 y.expr.set.c,.int .u64 y.expr.set.d,kv2]] w0 (fun(r:Ending) (w':World)=>r=.returned (.bool (xq x y))∧ar6 w0.heap.size w0 w'):=by
 obtain⟨_,_,e1,hn1,hk1⟩:=Dr.open;obtain⟨_,_,e2,hn2,hk2⟩:=he2.open;cases e1;cases e2;obtain⟨_,_,rfl,-⟩:=aH.get hn1;obtain⟨_,_,rfl,-⟩:=aH.get hn2;obtain⟨_,_,rfl,-⟩:=ak.form hk1 (by decide);obtain⟨_,_,rfl,-⟩:=ak.form hk2 (by decide);exact bX [] (fn:=Tryz.f137) Tryz.func137 rfl Tryz.ntmps137 rfl<|fun g1 w1 M1=>fun g2 w2 M2=>lb 1<|an rfl<|lb 0<|an rfl<|lb 1<|an (fun _=>rfl)<|lb 0<|an (fun _=>rfl)<|lb 1<|an (fun _=>rfl)<|lb 0<|an (fun _=>rfl)<|lb 1<|an (fun _=>rfl)<|lb 0<|an (fun _=>rfl)<|cl<|an (fun _=>tI x.expr y.expr _ _ _ (Dr.keep M2.below) (he2.keep M2.below)) fun w3 M3=>fun M=>⟨rfl,M.below⟩
theorem Cw(w0:World)(v1 v2:Value)(l1 l2:List nA)(h1:ak 13 (qE w0) w0 v1 l1)(h2:ak 13 (qE w0) w0 v2 l2):Calls Tryz.prog 144 #[v1,v2,.func (.func 137) #[] #[]] w0 (fun(r:Ending) (w':World)=>r=.returned (.bool (au xq l1 l2))∧ar6 w0.heap.size w0 w'):=by
 obtain⟨_,_,rfl,-,hm1,-⟩:=ak.form h1 (by decide);obtain⟨_,_,rfl,-⟩:=ak.form h2 (by decide);refine bX [] (fn:=Tryz.f144) Tryz.func144 rfl Tryz.ntmps144 rfl<|an (fun h M=>⟨rb (sP (by simp at h;omega)).symm,M.below⟩) fun h=>?_
 have hl:l1.length=l2.length:=by simp at h;omega
 refine lr (ι:=Nat) (fun m=>[(17,.int .i64 (m:Int))]) (fun m _=>m≤l1.length∧au xq l1 l2=au xq (l1.drop m) (l2.drop m)) (fun m=>l1.length-m) 0 (an ⟨⟨rfl,trivial⟩,fun M=>⟨M,asg _,rfl⟩⟩ ?_);intro m w M ⟨hm,hI⟩;refine an (fun h3=>?_) fun h3 M=>⟨rb (BP (by simp at h3;omega) hl hI).symm,M.below⟩
 have hlt:m<l1.length:=by simp at h3;omega
 have hlt2:m<l2.length:=by omega
 obtain⟨x,hx⟩:∃ x,l1[m]?=some x:=⟨_,ash hlt⟩;obtain⟨y,hy⟩:∃ y,l2[m]?=some y:=⟨_,ash hlt2⟩;obtain⟨b1,o1,_,e1,Dr,hc1⟩:=ak.elt h1 (by decide) hx;obtain⟨b2,o2,_,e2,he2,hc2⟩:=ak.elt h2 (by decide) hy;obtain⟨_,rfl,Dr⟩:=Dr;obtain⟨_,_,rfl,hn1,hk1⟩:=Dr.open;obtain⟨_,_,rfl,-⟩:=aH.get hn1;obtain⟨_,_,rfl,-⟩:=ak.form hk1 (by decide);obtain⟨_,rfl,he2⟩:=he2;obtain⟨_,_,rfl,hn2,hk2⟩:=he2.open;obtain⟨_,_,rfl,-⟩:=aH.get hn2;obtain⟨_,_,rfl,-⟩:=ak.form hk2 (by decide);exact ia<|an ⟨e1,rfl,hlt⟩<|lc<|an (cG M.below hc1)<|ei<|an JF fun g1 w1 M1=>lb 0<|an ⟨rfl,rfl⟩ fun w2 M2=>ia<|an ⟨e2,rfl,hlt2⟩<|lc<|an (cG M2.below hc2)<|ei<|an JF fun g2 w3 M3=>lb 0<|an ⟨rfl,rfl⟩ fun w4 M4=>lb 1<|an rfl<|lb 0<|an rfl<|cl<|an (Pn _ x y _ _ _ _ (Dr.keep M4.below) (he2.keep M4.below)) fun w5 M5=>an (fun hq M=>⟨rb (Jl hx hy hI (by simpa using hq)).symm,M.below⟩) fun hq=>an (by omega)<|bk (m+1) ⟨rfl,trivial⟩ (fun M=>⟨M.only (.cons _ (.cons _ (.refl _))) (.refl _),by omega,Jk hx hy hI (by simpa using hq)⟩) (by dsimp only;omega)
def kO(p q:aA):Bool:=(((((((au oC p.classes q.classes&&au pE p.types q.types)&&decide (p.attrs=q.attrs))&&decide (p.roles=q.roles))&&decide (p.users=q.users))&&decide (p.bools=q.bools))&&decide (p.aC=q.aC))&&decide (p.cats=q.cats))
def jq(p q:aA):Bool:=(((((((((kO p q&&au fq p.conds q.conds)&&decide (p.rules=q.rules))&&decide (p.trans=q.trans))&&decide (p.aK=q.aK))&&decide (p.ranges=q.ranges))&&au xq p.cons q.cons)&&decide (p.bH=q.bH))&&decide (p.files=q.files))&&decide (p.asserts=q.asserts))
theorem yx(w0:World)(c0 c1 c2 c3 c4 c5 c6 c7 c8 c9 aS aN aM aR aQ aP aO d0 d1 d2 d3 d4 d5 d6 d7 d8 d9 I3 IZ IY IX IW IV IU:Value)(p q:aA)(hp:aJ w0 c0 c1 c2 c3 c4 c5 c6 c7 c8 c9 aS aN aM aR aQ aP aO p)(hq:aJ w0 d0 d1 d2 d3 d4 d5 d6 d7 d8 d9 I3 IZ IY IX IW IV IU q):Calls Tryz.prog 139 #[.agg #[c0,c1,c2,c3,c4,c5,c6,c7,c8,c9,aS,aN,aM,aR,aQ,aP,aO],.agg #[d0,d1,d2,d3,d4,d5,d6,d7,d8,d9,I3,IZ,IY,IX,IW,IV,IU]] w0 (fun(r:Ending) (w':World)=>r=.returned (.bool (kO p q))∧ar6 w0.heap.size w0 w'):=by
 obtain⟨_,_,_,_,_,_,_,_,_,_,_,_,_,_,_,_,_,_,_,_,_,_,_,_,_,_,_,_,_,_,_,_,_,_,rfl,rfl,rfl,rfl,rfl,rfl,rfl,rfl,rfl,rfl,rfl,rfl,rfl,rfl,rfl,rfl,rfl⟩:=hp.open;obtain⟨_,_,_,_,_,_,_,_,_,_,_,_,_,_,_,_,_,_,_,_,_,_,_,_,_,_,_,_,_,_,_,_,_,_,rfl,rfl,rfl,rfl,rfl,rfl,rfl,rfl,rfl,rfl,rfl,rfl,rfl,rfl,rfl,rfl,rfl⟩:=hq.open;exact bX [] (fn:=Tryz.f139) Tryz.func139 rfl Tryz.ntmps139 rfl<|fun g1 w1 M1=>fun g2 w2 M2=>lb 1<|an rfl<|lb 0<|an rfl<|cl<|an (Cv _ _ _ p.classes q.classes (hp.keep M2.below).classes (hq.keep M2.below).classes) fun w3 M3=>lb 1<|an (fun _=>rfl)<|lb 0<|an (fun _=>rfl)<|cl<|an (fun _=>Cu _ _ _ p.types q.types (hp.keep M3.below).types (hq.keep M3.below).types) fun w4 M4=>lb 1<|an (fun _=>rfl)<|lb 0<|an (fun _=>rfl)<|cl<|an (fun _=>EM _ _ _ p.attrs q.attrs (hp.keep M4.below).attrs (hq.keep M4.below).attrs) fun w5 M5=>lb 1<|an (fun _=>rfl)<|lb 0<|an (fun _=>rfl)<|cl<|an (fun _=>EL _ _ _ p.roles q.roles (hp.keep M5.below).roles (hq.keep M5.below).roles) fun w6 M6=>lb 1<|an (fun _=>rfl)<|lb 0<|an (fun _=>rfl)<|cl<|an (fun _=>EK _ _ _ p.users q.users (hp.keep M6.below).users (hq.keep M6.below).users) fun w7 M7=>lb 1<|an (fun _=>rfl)<|lb 0<|an (fun _=>rfl)<|cl<|an (fun _=>EJ _ _ _ p.bools q.bools (hp.keep M7.below).bools (hq.keep M7.below).bools) fun w8 M8=>lb 1<|an (fun _=>rfl)<|lb 0<|an (fun _=>rfl)<|cl<|an (fun _=>iJ _ _ _ p.aC q.aC (hp.keep M8.below).aC (hq.keep M8.below).aC) fun w9 M9=>lb 1<|an (fun _=>rfl)<|lb 0<|an (fun _=>rfl)<|cl<|an (fun _=>iJ _ _ _ p.cats q.cats (hp.keep M9.below).cats (hq.keep M9.below).cats) fun yq oK=>fun M=>⟨rfl,M.below⟩
theorem EH(w0:World)(c0 c1 c2 c3 c4 c5 c6 c7 c8 c9 aS aN aM aR aQ aP aO d0 d1 d2 d3 d4 d5 d6 d7 d8 d9 I3 IZ IY IX IW IV IU:Value)(p q:aA)(hp:aJ w0 c0 c1 c2 c3 c4 c5 c6 c7 c8 c9 aS aN aM aR aQ aP aO p)(hq:aJ w0 d0 d1 d2 d3 d4 d5 d6 d7 d8 d9 I3 IZ IY IX IW IV IU q):Calls Tryz.prog 72 #[.agg #[c0,c1,c2,c3,c4,c5,c6,c7,c8,c9,aS,aN,aM,aR,aQ,aP,aO],.agg #[d0,d1,d2,d3,d4,d5,d6,d7,d8,d9,I3,IZ,IY,IX,IW,IV,IU]] w0 (fun(r:Ending) (w':World)=>r=.returned (.bool (jq p q))∧ar6 w0.heap.size w0 w'):=by
 obtain⟨_,_,_,_,_,_,_,_,_,_,_,_,_,_,_,_,_,_,_,_,_,_,_,_,_,_,_,_,_,_,_,_,_,_,rfl,rfl,rfl,rfl,rfl,rfl,rfl,rfl,rfl,rfl,rfl,rfl,rfl,rfl,rfl,rfl,rfl⟩:=hp.open;obtain⟨_,_,_,_,_,_,_,_,_,_,_,_,_,_,_,_,_,_,_,_,_,_,_,_,_,_,_,_,_,_,_,_,_,_,rfl,rfl,rfl,rfl,rfl,rfl,rfl,rfl,rfl,rfl,rfl,rfl,rfl,rfl,rfl,rfl,rfl⟩:=hq.open;exact bX [] (fn:=Tryz.f72) Tryz.func72 rfl Tryz.ntmps72 rfl<|fun g1 w1 M1=>fun g2 w2 M2=>lb 1<|an rfl<|lb 0<|an rfl<|cl<|an (yx _ _ _ _ _ _ _ _ _ _ _ _ _ _ _ _ _ _ _ _ _ _ _ _ _ _ _ _ _ _ _ _ _ _ _ p q (hp.keep M2.below) (hq.keep M2.below)) fun w3 M3=>lb 1<|an (fun _=>rfl)<|lb 0<|an (fun _=>rfl)<|cl<|an (fun _=>rN _ _ _ p.conds q.conds (hp.keep M3.below).conds (hq.keep M3.below).conds fun x _ y w cx cy h1 h2=>tI x y w cx cy h1 h2) fun w4 M4=>lb 1<|an (fun _=>rfl)<|lb 0<|an (fun _=>rfl)<|cl<|an (fun _=>ET _ _ _ p.rules q.rules (hp.keep M4.below).rules (hq.keep M4.below).rules) fun w5 M5=>lb 1<|an (fun _=>rfl)<|lb 0<|an (fun _=>rfl)<|cl<|an (fun _=>xO _ _ _ p.trans q.trans (hp.keep M5.below).trans (hq.keep M5.below).trans) fun w6 M6=>lb 1<|an (fun _=>rfl)<|lb 0<|an (fun _=>rfl)<|cl<|an (fun _=>ES _ _ _ p.aK q.aK (hp.keep M6.below).aK (hq.keep M6.below).aK) fun w7 M7=>lb 1<|an (fun _=>rfl)<|lb 0<|an (fun _=>rfl)<|cl<|an (fun _=>ER _ _ _ p.ranges q.ranges (hp.keep M7.below).ranges (hq.keep M7.below).ranges) fun w8 M8=>lb 1<|an (fun _=>rfl)<|lb 0<|an (fun _=>rfl)<|cl<|an (fun _=>Cw _ _ _ p.cons q.cons (hp.keep M8.below).cons (hq.keep M8.below).cons) fun w9 M9=>lb 1<|an (fun _=>rfl)<|lb 0<|an (fun _=>rfl)<|cl<|an (fun _=>EP _ _ _ p.bH q.bH (hp.keep M9.below).bH (hq.keep M9.below).bH) fun yq oK=>lb 1<|an (fun _=>rfl)<|lb 0<|an (fun _=>rfl)<|cl<|an (fun _=>EO _ _ _ p.files q.files (hp.keep oK.below).files (hq.keep oK.below).files) fun Gx M11=>lb 1<|an (fun _=>rfl)<|lb 0<|an (fun _=>rfl)<|cl<|an (fun _=>EN _ _ _ p.asserts q.asserts (hp.keep M11.below).asserts (hq.keep M11.below).asserts) fun JA Gf=>fun M=>⟨rfl,M.below⟩
def rJ{α:Type}(x y:(α×Int)×Nat):Bool:=decide ([x.1.2]=[y.1.2])
theorem CP{α:Type}(N:List ((α×Int)×Nat)):∀ u∈N.flatMap rF,u.oneCell'=true:=fun u hu=>by
 obtain⟨z,-,hz⟩:=List.mem_flatMap.1 hu;rw[ar5.1 hz];rfl
theorem Pk(w0:World)(g1 g2:Nat)(x y:Int)(hx:w0.cell? ⟨g1,0,none⟩=some (.int .u64 x))(hy:w0.cell? ⟨g2,0,none⟩=some (.int .u64 y)):Calls Tryz.prog 76 #[.slice (some ⟨g1,0,none⟩) 1 1,.slice (some ⟨g2,0,none⟩) 1 1] w0 (fun(r:Ending) (w':World)=>r=.returned (.bool (decide ([x]=[y])))∧ar6 w0.heap.size w0 w'):=by
 exact bX [] (fn:=Tryz.f76) Tryz.func76 rfl Tryz.ntmps76 rfl<|cl<|an (qm _ _ _ [x] [y] (vw hx) (vw hy)) fun w1 M1=>fun M=>⟨rfl,M.below⟩
theorem EI{α:Type}(w0:World)(base:Nat)(v1 v2:Value)(l1 l2:List ((α×Int)×Nat))(h1:SliceAt w0 v1 1 l1.length (l1.flatMap rF))(h2:SliceAt w0 v2 1 l2.length (l2.flatMap rF))(hN1:bV w0 base l1)(hN2:bV w0 base l2):Calls Tryz.prog 75 #[v1,v2,.func (.func 76) #[] #[]] w0 (fun(r:Ending) (w':World)=>r=.returned (.bool (au rJ l1 l2))∧ar6 w0.heap.size w0 w'):=by
 obtain⟨_,_,rfl,-,hm1,-⟩:=h1.form (by decide);obtain⟨_,_,rfl,-⟩:=h2.form (by decide);refine bX [] (fn:=Tryz.f75) Tryz.func75 rfl Tryz.ntmps75 rfl<|an (fun h M=>⟨rb (sP (by simp at h;omega)).symm,M.below⟩) fun h=>?_
 have hl:l1.length=l2.length:=by simp at h;omega
 refine lr (ι:=Nat) (fun m=>[(17,.int .i64 (m:Int))]) (fun m _=>m≤l1.length∧au rJ l1 l2=au rJ (l1.drop m) (l2.drop m)) (fun m=>l1.length-m) 0 (an ⟨⟨rfl,trivial⟩,fun M=>⟨M,asg _,rfl⟩⟩ ?_);intro m w M ⟨hm,hI⟩;refine an (fun h3=>?_) fun h3 M=>⟨rb (BP (by simp at h3;omega) hl hI).symm,M.below⟩
 have hlt:m<l1.length:=by simp at h3;omega
 have hlt2:m<l2.length:=by omega
 obtain⟨x,hx⟩:∃ x,l1[m]?=some x:=⟨_,ash hlt⟩;obtain⟨y,hy⟩:∃ y,l2[m]?=some y:=⟨_,ash hlt2⟩;obtain⟨b1,o1,e1,hc1⟩:=SliceAt.elt h1 (fun _=>rfl) (by decide) hx hlt;obtain⟨b2,o2,e2,hc2⟩:=SliceAt.elt h2 (fun _=>rfl) (by decide) hy hlt2;have hwx:=asj M.below ((Whole.cell (hN1 x (asa hx)).1) 0);have hwy:=asj M.below ((Whole.cell (hN2 y (asa hy)).1) 0);exact ia<|an ⟨e1,rfl,hlt⟩<|lc (x:=.slice (some ⟨x.2,0,none⟩) 1 1)<|an (cG M.below hc1 0 _ rfl)<|ia<|an ⟨e2,rfl,hlt2⟩<|lc (x:=.slice (some ⟨y.2,0,none⟩) 1 1)<|an (cG M.below hc2 0 _ rfl)<|cl<|an (Pk _ x.2 y.2 x.1.2 y.1.2 hwx hwy) fun w5 M5=>an (fun hq M=>⟨rb (Jl hx hy hI (by simpa[rJ] using hq)).symm,M.below⟩) fun hq=>an (by omega)<|bk (m+1) ⟨rfl,trivial⟩ (fun M=>⟨M,by omega,Jk hx hy hI (by simpa[rJ] using hq)⟩) (by dsimp only;omega)
def uK(p:aA):aA:={ p with rules:=[],conds:=[],trans:=[] }
def mR(N:List ((bD×Int)×Nat)):List bD:=N.map fun z=>z.1.1
theorem GH{w:World}{v:Value}{N:List ((bD×Int)×Nat)}(h:SliceAt w v 13 N.length (N.flatMap CX)):SliceAt w v 13 (mR N).length ((mR N).flatMap bD.cells):=by
 unfold mR;rw[ar9,List.flatMap_map];exact h
theorem bV.low{α:Type}{w:World}{b:Nat}{N:List ((α×Int)×Nat)}(h:bV w b N):bV w 0 N:=fun z hz=>⟨(h z hz).1,asg _⟩
theorem CW(N:List ((bD×Int)×Nat)):∀ u∈N.flatMap CX,u.oneCell'=true:=fun u hu=>by
 obtain⟨z,-,hz⟩:=List.mem_flatMap.1 hu;simp only[CX,bD.cells,ar7,List.not_mem_nil,or_false] at hz;rcases hz with rfl|rfl|rfl|rfl|rfl|rfl|rfl|rfl|rfl|rfl|rfl|rfl|rfl<;>rfl
def fN(p:aA):List (aj×Int):=p.rules.map fun y=>(y,dR (aI p.bools.length) p.bools.length p.conds (EF y))
theorem fU.low{w:World}{b:Nat}{v:Value}{l:List (aj×Int)}(h:fU w b v l):fU w 0 v l:=by
 obtain⟨es,h1,h2,h3,h4⟩:=h
 exact⟨es,h1,h2,h3,fun i x y hx hy=>by
  obtain⟨v,e,hs⟩:=h4 i x y hx hy;exact⟨v,e,hs.low (asg _)⟩⟩
theorem Eb{p:aA}(h:p.rules.length≤1000):(fN p).length≤1000:=by unfold fN;rw[ar9];exact h
theorem Ns{p:aA}(h:p.Ok):∀ y∈fN p,y.1.Ok:=fun y hy=>by
 obtain⟨r,hr,rfl⟩:=ar8.1 hy;exact⟨(h.rules r hr).src,(h.rules r hr).tgt⟩
theorem Dg(w0:World)(c0 c1 c2 c3 c4 c5 c6 c7 c8 c9 aS aN aM aR aQ aP aO:Value)(p:aA)(hp:aJ w0 c0 c1 c2 c3 c4 c5 c6 c7 c8 c9 aS aN aM aR aQ aP aO p)(hok:p.Ok)(hn:p.bools.length≤5)(hcl:p.conds.length≤1000)(hcr:p.rules.length≤1000):Calls Tryz.prog 78 #[.agg #[c0,c1,c2,c3,c4,c5,c6,c7,c8,c9,aS,aN,aM,aR,aQ,aP,aO]] w0 fun e w'=>∃ v,e=.returned v∧(fU w' 0 v (fN p)∧ar6 w0.heap.size w0 w'):=
 (AF w0 c0 c1 c2 c3 c4 c5 c6 c7 c8 c9 aS aN aM aR aQ aP aO p hp hok hn hcl (by omega)).mono fun _ _ ⟨v,e,⟨N,hN,ho,hs⟩,hb⟩=>⟨v,e,(by have h:=(Ld ho rfl hs).low;rw[hN] at h;exact h),hb⟩
def Nb(p:aA):List (bD×Int):=p.trans.filterMap (Ck (aI p.bools.length) p.bools.length p.conds)
def Nk{α:Type}(x y:α×Int):Bool:=decide ([x.2]=[y.2])
def xg(p q:aA):Bool:=jq (uK p) (uK q)&&((decide ((Nb p).map (·.1)=(Nb q).map (·.1))&&au Nk (Nb p) (Nb q))&&(ud (fN p) (fN q)&&ud (fN q) (fN p)))
theorem xZ{α β:Type}{f:α→β}{P:β→β→Bool}{P':α→α→Bool}(h:∀ x y,P' x y=P (f x) (f y)):∀ l m:List α,au P' l m=au P (l.map f) (m.map f)
 | [],[]=>rfl
 | [],_::_=>rfl
 | _::_,[]=>rfl
 | x::l,y::m=>by
  show(P' x y&&au P' l m)=(P (f x) (f y)&&au P (l.map f) (m.map f));rw[h,xZ h l m]
section
variable {p q:aA} {Np Nq:List ((bD×Int)×Nat)}
theorem Zr(h:jq (uK p) (uK q)=false):false=xg p q:=by unfold xg;rw[h];rfl
theorem Sg(hp:Np.map (·.1)=Nb p)(hq:Nq.map (·.1)=Nb q):(decide (mR Np=mR Nq)&&au rJ Np Nq)=(decide ((Nb p).map (·.1)=(Nb q).map (·.1))&&au Nk (Nb p) (Nb q)):=by
 rw[show au rJ Np Nq=au Nk (Np.map (·.1)) (Nq.map (·.1)) from xZ (f:=fun z:(bD×Int)×Nat=>z.1) (P:=Nk) (P':=rJ) (fun x y=>rfl) Np Nq,hp,hq];have e:∀ N:List ((bD×Int)×Nat),mR N=(N.map (·.1)).map (·.1):=fun N=>by unfold mR;rw[List.map_map];rfl
 rw[e,e,hp,hq]
theorem Zq(hp:Np.map (·.1)=Nb p)(hq:Nq.map (·.1)=Nb q)(h:((!(decide (mR Np=mR Nq)))||(!(au rJ Np Nq)))=true):false=xg p q:=by
 rw[← Bool.not_and,Bool.not_eq_true',Sg hp hq] at h;unfold xg;rw[h,Bool.false_and,Bool.and_false]
theorem Zp(hp:Np.map (·.1)=Nb p)(hq:Nq.map (·.1)=Nb q)(h1:jq (uK p) (uK q)=true)(h:((!(decide (mR Np=mR Nq)))||(!(au rJ Np Nq)))=false):(ud (fN p) (fN q)&&ud (fN q) (fN p))=xg p q:=by
 rw[← Bool.not_and,Bool.not_eq_false',Sg hp hq] at h;unfold xg;rw[h,h1,Bool.true_and,Bool.true_and]
end
theorem OB{w:World}{c0 c1 c2 c3 c4 c5 c6 c7 c8 c9 aS aN aM aR aQ aP aO:Value}{p:aA}(h:aJ w c0 c1 c2 c3 c4 c5 c6 c7 c8 c9 aS aN aM aR aQ aP aO p):aJ w c0 c1 c2 c3 c4 c5 c6 c7 (.slice none 0 0) (.slice none 0 0) (.slice none 0 0) aN aM aR aQ aP aO (uK p):=
 { h with conds:=⟨[],rfl,by simp,SliceAt.nil _ _,by simp⟩,rules:=SliceAt.nil _ _,trans:=SliceAt.nil _ _ }
theorem Sh(w0:World)(c0 c1 c2 c3 c4 c5 c6 c7 c8 c9 aS aN aM aR aQ aP aO d0 d1 d2 d3 d4 d5 d6 d7 d8 d9 I3 IZ IY IX IW IV IU:Value)(p q:aA)(hp:aJ w0 c0 c1 c2 c3 c4 c5 c6 c7 c8 c9 aS aN aM aR aQ aP aO p)(hq:aJ w0 d0 d1 d2 d3 d4 d5 d6 d7 d8 d9 I3 IZ IY IX IW IV IU q)(WT:p.Ok)(WS:q.Ok)(hnp:p.bools.length≤5)(adu:p.conds.length≤1000)(agJ:p.trans.length≤4096)(hnq:q.bools.length≤5)(adt:q.conds.length≤1000)(agI:q.trans.length≤4096)(aaf:p.rules.length≤1000)(aae:q.rules.length≤1000):Calls Tryz.prog 26 #[.agg #[c0,c1,c2,c3,c4,c5,c6,c7,c8,c9,aS,aN,aM,aR,aQ,aP,aO],.agg #[d0,d1,d2,d3,d4,d5,d6,d7,d8,d9,I3,IZ,IY,IX,IW,IV,IU]] w0 (fun(r:Ending) (w':World)=>r=.returned (.bool (xg p q))∧ar6 w0.heap.size w0 w'):=by
 obtain⟨_,_,_,_,_,_,_,_,_,_,_,_,_,_,_,_,_,_,_,_,_,_,_,_,_,_,_,_,_,_,_,_,_,_,rfl,rfl,rfl,rfl,rfl,rfl,rfl,rfl,rfl,rfl,rfl,rfl,rfl,rfl,rfl,rfl,rfl⟩:=hp.open;obtain⟨_,_,_,_,_,_,_,_,_,_,_,_,_,_,_,_,_,_,_,_,_,_,_,_,_,_,_,_,_,_,_,_,_,_,rfl,rfl,rfl,rfl,rfl,rfl,rfl,rfl,rfl,rfl,rfl,rfl,rfl,rfl,rfl,rfl,rfl⟩:=hq.open;refine bX [] (fn:=Tryz.f26) Tryz.func26 rfl Tryz.ntmps26 rfl<|fun g1 w1 M1=>fun g2 w2 M2=>dp (by kernel_rfl)<|lb 1<|an rfl<|lb 0<|an rfl<|ei<|ei<|an ⟨q6,q6⟩<|an ⟨rfl,rfl⟩ fun g3 g4 w3 zu M3=>?_
 refine lb 0<|an ⟨rfl,rfl⟩ fun w4 M4=>lb 0<|an ⟨rfl,rfl⟩ fun w5 M5=>lb 0<|an ⟨rfl,rfl⟩ fun w6 M6=>lb 1<|an ⟨rfl,rfl⟩ fun w7 M7=>lb 1<|an ⟨rfl,rfl⟩ fun w8 M8=>lb 1<|an ⟨rfl,rfl⟩ fun w9 M9=>lb 0<|an rfl<|lb 1<|an rfl<|cl<|an (EH _ _ _ _ _ _ _ _ _ _ _ _ _ _ _ _ _ _ _ _ _ _ _ _ _ _ _ _ _ _ _ _ _ _ _ (uK p) (uK q) (OB (hp.keep M9.below)) (OB (hq.keep M9.below))) fun yq oK=>an (fun h1 M=>⟨rb (Zr (by simpa using h1)).symm,M.below⟩) fun h1=>?_
 refine lb 3<|an rfl<|cf oK (oB _ _ _ _ _ _ _ _ _ _ _ _ _ _ _ _ _ _ p (hp.keep oK.below) WT hnp adu agJ) fun _ Gx ⟨tp,up,Np,hv,adG,hop,hwp,hNp⟩ LM M11=>?_
 subst hv;refine lb 2<|an rfl<|cf M11 (oB _ _ _ _ _ _ _ _ _ _ _ _ _ _ _ _ _ _ q (hq.keep M11.below) WS hnq adt agI) fun _ JA ⟨tq,uq,Nq,hv,adF,hoq,hwq,hNq⟩ Ii Gf=>?_
 subst hv;refine cb Gf (xO _ _ _ (mR Np) (mR Nq) (GH ((SliceAt.bR hop (CW Np)).keep Ii)) (GH (SliceAt.bR hoq (CW Nq)))) fun MS W6 yK=>cl<|an (fun _=>EI _ 0 _ _ Np Nq ((SliceAt.bR hwp (CP Np)).keep (Ii.trans (W6.mono Ii.size))) ((SliceAt.bR hwq (CP Nq)).keep W6) (hNp.keep (Ii.trans (W6.mono Ii.size))).low (hNq.keep W6).low) fun Vu JD=>an (fun h2 M=>⟨rb (Zq adG adF h2).symm,M.below⟩) fun h2=>?_
 refine dr (by kernel_rfl)<|lb 3<|an rfl<|cr (fun u w=>fU w 0 u (fN p))<|an (fun _ _ _ h hb=>h.keep hb)<|an (fun w' hb' M'=>Dg _ _ _ _ _ _ _ _ _ _ _ _ _ _ _ _ _ _ p (hp.keep M'.below) WT hnp adu aaf)<|lb 2<|an rfl<|cr (fun u w=>fU w 0 u (fN q))<|an (fun _ _ _ h hb=>h.keep hb)<|an (fun w' hb' M'=>Dg _ _ _ _ _ _ _ _ _ _ _ _ _ _ _ _ _ _ q (hq.keep M'.below) WS hnq adt aae)<|mva (R:=fun u w=>fU w 0 u (fN p)) (fun _ _ _ h hb=>h.keep hb)<|mva (R:=fun u w=>fU w 0 u (fN q)) (fun _ _ _ h hb=>h.keep hb)<|fun u1 u2 OY hR amC Ge=>?_
 have hLp:fU OY 0 u2 (fN p):=hR.1;have hLq:fU OY 0 u1 (fN q):=hR.2;exact cb Ge (t_ _ 0 _ (fN q) hLq (Eb aae) (Ns WS) _ (fN p) hLp (Eb aaf) (Ns WT)) fun XQ adz Ms=>cl<|an (fun _=>t_ _ 0 _ (fN p) (hLp.keep adz) (Eb aaf) (Ns WT) _ (fN q) (hLq.keep adz) (Eb aae) (Ns WS)) fun XP XK M=>⟨rb (Zp adG adF (by simpa using h1) h2).symm,M.below⟩
end Go.Proofs.YtdcofoaihmongaaGreat
namespace Go.Proofs.YtdcofoaihmongaaGreat
section
variable {α:Type} (J:α→α→Option α)
def d_(a:α):List α→Option (α×List α)
 | []=>none
 | b::r=>match J a b with
  | some c=>some (c,r)
  | none=>(d_ a r).map fun z=>(z.1,b::z.2)
def dN:List α→Option (List α)
 | []=>none
 | a::r=>match d_ J a r with
  | some z=>some (z.1::z.2)
  | none=>(dN r).map (a::·)
def Rn:Nat→List α→List α
 | 0,l=>l
 | n+1,l=>match dN J l with
  | some l'=>Rn n l'
  | none=>l
def Co(l:List α):List α:=Rn J l.length l
theorem Bh{a:α}:∀ {l:List α} {z:α×List α},d_ J a l=some z→z.2.length+1=l.length
 | [],_,h=>by cases h
 | b::r,z,h=>by
  unfold d_ at h
  cases e:J a b with
  | some c=>rw[e] at h;obtain rfl:=asy h;rfl
  | none=>
   rw[e] at h
   cases e2:d_ J a r with
   | none=>rw[e2] at h;cases h
   | some y=>rw[e2] at h;obtain rfl:=asy h;have:=Bh e2;simp;omega
theorem mV:∀ {l l':List α},dN J l=some l'→l'.length+1=l.length
 | [],_,h=>by cases h
 | a::r,l',h=>by
  unfold dN at h
  cases e:d_ J a r with
  | some z=>rw[e] at h;obtain rfl:=asy h;have:=Bh J e;simp;omega
  | none=>
   rw[e] at h
   cases e2:dN J r with
   | none=>rw[e2] at h;cases h
   | some y=>rw[e2] at h;obtain rfl:=asy h;have:=mV e2;simp;omega
theorem Hg{l l':List α}(h:dN J l=some l'):Co J l=Co J l':=by
 unfold Co;have:=mV J h;rw[← this,Rn,h]
theorem SX{l:List α}(h:dN J l=none):Co J l=l:=by
 unfold Co
 cases l with
 | nil=>rfl
 | cons a r=>rw[List.length_cons,Rn,h]
def Gc:List α→List α→Prop
 | [],_=>True
 | x::p,r=>(∀ y∈p++r,J x y=none)∧Gc p r
theorem qj{a:α}:∀ {l:List α},(∀ y∈l,J a y=none)→d_ J a l=none
 | [],_=>rfl
 | b::r,h=>by unfold d_;rw[h b (by simp),qj fun y hy=>h y (by simp[hy])];rfl
theorem Dt{a b c:α}:∀ {l r:List α},(∀ y∈l,J a y=none)→J a b=some c→d_ J a (l++b::r)=some (c,l++r)
 | [],r,_,h=>by show d_ J a (b::r)=_;unfold d_;rw[h];rfl
 | x::l,r,hl,h=>by
  show d_ J a (x::(l++b::r))=_;unfold d_;rw[hl x (by simp),Dt (fun y hy=>hl y (by simp[hy])) h];rfl
theorem C_:∀ {p r:List α},Gc J p r→dN J (p++r)=(dN J r).map (p++·)
 | [],r,_=>by cases h:dN J r<;>simp[h]
 | x::p,r,h=>by
  show dN J (x::(p++r))=_
  have e:dN J (x::(p++r))=(dN J (p++r)).map (x::·):=by
   rw[dN,qj J h.1]
  rw[e,C_ h.2];cases dN J r<;>rfl
theorem Hf:∀ {p:List α},Gc J p []→dN J p=none
 | [],_=>rfl
 | x::p,h=>by unfold dN;rw[qj J (by simpa using h.1),Hf h.2];rfl
theorem SI{p m r:List α}{a b c:α}(hp:Gc J p (a::(m++b::r)))(hm:∀ y∈m,J a y=none)(h:J a b=some c):dN J (p++a::(m++b::r))=some (p++c::(m++r)):=by
 rw[C_ J hp];unfold dN;rw[Dt J hm h];rfl
theorem Gc.append{p q r:List α}(h1:Gc J p (q++r))(h2:Gc J q r):Gc J (p++q) r:=by
 induction p with
 | nil=>exact h2
 | cons x p ih=>exact⟨fun y hy=>h1.1 y (by simpa using hy),ih h1.2⟩
theorem Gc.left{p q r:List α}(h:Gc J (p++q) r):Gc J p (q++r):=by
 induction p with
 | nil=>trivial
 | cons x p ih=>exact⟨fun y hy=>h.1 y (by simpa using hy),ih h.2⟩
theorem Gc.right{p q r:List α}(h:Gc J (p++q) r):Gc J q r:=by
 induction p with
 | nil=>exact h
 | cons x p ih=>exact ih h.2
theorem Gc.mono{p r r':List α}(h:Gc J p r)(hr:∀ y∈r',y∈r):Gc J p r':=by
 induction p with
 | nil=>trivial
 | cons x p ih=>exact⟨fun y hy=>h.1 y (by
  rcases ar4.1 hy with hy|hy
  ·exact ar4.2 (.inl hy)
  ·exact ar4.2 (.inr (hr y hy))),ih h.2⟩
def seg(f:Nat→Option α)(i n:Nat):List α:=(List.range' i (n-i)).filterMap f
theorem yX(f:Nat→Option α){i n:Nat}(h:n≤i):seg f i n=[]:=by unfold seg;rw[Nat.sub_eq_zero_of_le h];rfl
theorem iE(f:Nat→Option α){i n:Nat}(h:i<n):seg f i n=(f i).toList++seg f (i+1) n:=by
 unfold seg;rw[show n-i=(n-(i+1))+1 by omega,List.range'_succ,List.filterMap_cons];cases f i<;>rfl
theorem iq(f:Nat→Option α){i j n:Nat}(h1:i≤j)(h2:j≤n):seg f i n=seg f i j++seg f j n:=by
 unfold seg;have h:=List.range'_append_1 (s:=i) (m:=j-i) (n:=n-j);rw[show i+(j-i)=j by omega,show j-i+(n-j)=n-i by omega] at h;rw[← asr,h]
theorem vA{f g:Nat→Option α}{i n:Nat}(h:∀ k,i≤k→k<n→f k=g k):seg f i n=seg g i n:=by
 unfold seg
 have key:∀ l:List Nat,(∀ k∈l,f k=g k)→l.filterMap f=l.filterMap g:=by
  intro l
  induction l with
  | nil=>intro _;rfl
  | cons x l ih=>intro h;rw[List.filterMap_cons,List.filterMap_cons,h x (by simp),ih fun k hk=>h k (by simp[hk])]
 refine key _ fun k hk=>?_
 rw[List.mem_range'_1] at hk;exact h k hk.1 (by omega)
theorem NQ{f:Nat→Option α}{i n:Nat}{y:α}:y∈seg f i n↔∃ k,i≤k∧k<n∧f k=some y:=by
 unfold seg;rw[List.mem_filterMap];constructor
 ·rintro⟨k,hk,e⟩;rw[List.mem_range'_1] at hk;exact⟨k,hk.1,by omega,e⟩
 ·rintro⟨k,h1,h2,e⟩;exact⟨k,List.mem_range'_1.2 ⟨h1,by omega⟩,e⟩
def NP(f:Nat→Option α)(n i e:Nat):Prop:=∀ h x k y,h<i→f h=some x→h<k→k<n→k≠e→f k=some y→J x y=none
theorem SS{f:Nat→Option α}{n:Nat}:∀ {i s:Nat},s≤i→i≤n→(∀ h x k y,s≤h→h<i→f h=some x→h<k→k<n→f k=some y→J x y=none)→Gc J (seg f s i) (seg f i n):=by
 intro i s hsi hin H;obtain⟨d,hd⟩:∃ d,d=i-s:=⟨_,rfl⟩
 induction d generalizing s with
 | zero=>rw[yX f (by omega)];trivial
 | succ d ih=>
  have hlt:s<i:=by omega
  have h2:=ih (s:=s+1) (by omega) (fun h x k y h1=>H h x k y (by omega)) (by omega);rw[iE f hlt]
  cases e:f s with
  | none=>exact h2
  | some x=>
   refine⟨fun y hy=>?_,h2⟩
   change y∈seg f (s+1) i++seg f i n at hy
   rw[← iq f (by omega) hin] at hy;obtain⟨k,k1,k2,k3⟩:=NQ.1 hy;exact H s x k y (Nat.le_refl _) hlt e (by omega) k2 k3
def jQ(f:Nat→Option α)(i:Nat)(v:Option α):Nat→Option α:=fun k=>if k=i then v else f k
theorem qJ(f:Nat→Option α)(i:Nat)(v:Option α):jQ f i v i=v:=if_pos rfl
theorem eV(f:Nat→Option α){i k:Nat}(v:Option α)(h:k≠i):jQ f i v k=f k:=if_neg h
theorem G0{f:Nat→Option α}{n i k:Nat}{a b c:α}(hi:i<k)(hk:k<n)(ha:f i=some a)(hb:f k=some b)(hc:J a b=some c)
 (hp:NP J f n i n) (hm:∀ j y,i<j→j<k→f j=some y→J a y=none):dN J (seg f 0 n)=some (seg (jQ (jQ f i (some c)) k none) 0 n):=by
 have e1:seg f 0 n=seg f 0 i++a::(seg f (i+1) k++b::seg f (k+1) n):=by
  rw[iq f (asg i) (by omega:i≤n),iE f (by omega:i<n),ha,iq f (by omega:i+1≤k) (by omega:k≤n),iE f hk,hb];rfl
 have e2:seg (jQ (jQ f i (some c)) k none) 0 n=seg f 0 i++c::(seg f (i+1) k++seg f (k+1) n):=by
  rw[iq _ (asg i) (by omega:i≤n),iE _ (by omega:i<n),iq _ (by omega:i+1≤k) (by omega:k≤n),iE _ hk,qJ,eV _ _ (by omega:i≠k),qJ,
   vA (g:=f) (i:=0) (n:=i) (fun j h1 h2=>by rw[eV _ _ (by omega),eV _ _ (by omega)]),
   vA (g:=f) (i:=i+1) (n:=k) (fun j h1 h2=>by rw[eV _ _ (by omega),eV _ _ (by omega)]),
   vA (g:=f) (i:=k+1) (n:=n) (fun j h1 h2=>by rw[eV _ _ (by omega),eV _ _ (by omega)])];rfl
 rw[e1,e2];refine SI J ?_ (fun y hy=>?_) hc
 ·have h:=SS J (f:=f) (n:=n) (asg i) (by omega) (fun h x k y _ h1 h2 h3 h4 h5=>hp h x k y h1 h2 h3 h4 (by omega) h5);rw[iE f (by omega:i<n),ha,iq f (by omega:i+1≤k) (by omega:k≤n),iE f hk,hb] at h;exact h
 ·obtain⟨j,j1,j2,j3⟩:=NQ.1 hy;exact hm j y (by omega) j2 j3
theorem NP.joined{f:Nat→Option α}{n i k:Nat}{c:α}(hp:NP J f n i n):NP J (jQ (jQ f i (some c)) k none) n i i:=by
 intro h x j y h1 h2 h3 h4 h5 h6;have hj:j≠k:=fun e=>by subst e;rw[qJ] at h6;cases h6
 rw[eV _ _ hj,eV _ _ h5] at h6;have hh:h≠k:=fun e=>by subst e;rw[qJ] at h2;cases h2
 rw[eV _ _ hh,eV _ _ (by omega)] at h2;exact hp h x j y h1 h2 h3 h4 (by omega) h6
end
end Go.Proofs.YtdcofoaihmongaaGreat
namespace Go.Proofs.YtdcofoaihmongaaGreat
open Go Go.RowKit
def ay.or(x y:ay):ay:=⟨x.a|||y.a,x.b|||y.b,x.c|||y.c,x.d|||y.d⟩
def orW(m:Nat)(x y:ay)(i:Nat):Nat:=if i<m then x.word i|||y.word i else x.word i
def aF(a b:aj):Option aj:=
 if (((!decide (a.kind=b.kind)||!decide (a.cls=b.cls))||!decide (a.cond=b.cond))||!(a.self == b.self))=true then none
 else if (decide (a.src=b.src)&&decide (a.tgt=b.tgt))=true then some { a with perms:=bits .or .u32 a.perms b.perms }
 else if (decide (a.perms=b.perms)&&decide (a.src=b.src))=true then some { a with tgt:=a.tgt.or b.tgt }
 else if (decide (a.perms=b.perms)&&decide (a.tgt=b.tgt))=true then some { a with src:=a.src.or b.src }
 else none
theorem join_none{a b:aj}(h:aF a b=none):Ending.returned (.tuple #[.agg #[.int .i64 a.kind,.int .u64 a.src.a,.int .u64 a.src.b,.int .u64 a.src.c,.int .u64 a.src.d,.int .u64 a.tgt.a,.int .u64 a.tgt.b,.int .u64 a.tgt.c,.int .u64 a.tgt.d,.bool a.self,.int .i64 a.cls,.int .u32 a.perms,.int .i64 a.cond],.bool false])=.returned (.tuple #[.agg #[.int .i64 (((aF a b).getD a).kind),.int .u64 (((aF a b).getD a).src.a),.int .u64 (((aF a b).getD a).src.b),.int .u64 (((aF a b).getD a).src.c),.int .u64 (((aF a b).getD a).src.d),.int .u64 (((aF a b).getD a).tgt.a),.int .u64 (((aF a b).getD a).tgt.b),.int .u64 (((aF a b).getD a).tgt.c),.int .u64 (((aF a b).getD a).tgt.d),.bool (((aF a b).getD a).self),.int .i64 (((aF a b).getD a).cls),.int .u32 (((aF a b).getD a).perms),.int .i64 (((aF a b).getD a).cond)],.bool (aF a b).isSome]):=by rw[h];rfl
theorem join_some{a b c:aj}(h:aF a b=some c):Ending.returned (.tuple #[.agg #[.int .i64 c.kind,.int .u64 c.src.a,.int .u64 c.src.b,.int .u64 c.src.c,.int .u64 c.src.d,.int .u64 c.tgt.a,.int .u64 c.tgt.b,.int .u64 c.tgt.c,.int .u64 c.tgt.d,.bool c.self,.int .i64 c.cls,.int .u32 c.perms,.int .i64 c.cond],.bool true])=.returned (.tuple #[.agg #[.int .i64 (((aF a b).getD a).kind),.int .u64 (((aF a b).getD a).src.a),.int .u64 (((aF a b).getD a).src.b),.int .u64 (((aF a b).getD a).src.c),.int .u64 (((aF a b).getD a).src.d),.int .u64 (((aF a b).getD a).tgt.a),.int .u64 (((aF a b).getD a).tgt.b),.int .u64 (((aF a b).getD a).tgt.c),.int .u64 (((aF a b).getD a).tgt.d),.bool (((aF a b).getD a).self),.int .i64 (((aF a b).getD a).cls),.int .u32 (((aF a b).getD a).perms),.int .i64 (((aF a b).getD a).cond)],.bool (aF a b).isSome]):=by rw[h];rfl
theorem CU(w0:World)(x y:ay)(hx:x.Ok)(hy:y.Ok):Calls Tryz.prog 227 #[.agg #[.int .u64 x.a,.int .u64 x.b,.int .u64 x.c,.int .u64 x.d],.agg #[.int .u64 y.a,.int .u64 y.b,.int .u64 y.c,.int .u64 y.d]] w0 (fun(r:Ending) (w':World)=>r=.returned (.agg #[.int .u64 ((x.or y).a),.int .u64 ((x.or y).b),.int .u64 ((x.or y).c),.int .u64 ((x.or y).d)])∧ar6 w0.heap.size w0 w'):=by
 refine bX [] (fn:=Tryz.f227) Tryz.func227 rfl Tryz.ntmps227 rfl<|fun gx w1 M1=>fun gy w2 M2=>ei<|an sV fun go w3 M3=>lp (ι:=Nat) (fun m=>[(6,.int .i64 (m:Int))]) (fun m=>[(go,54,#[.int .u64 0,.int .u64 0,.int .u64 0,.int .u64 0]),(gy,54,#[.int .u64 y.a,.int .u64 y.b,.int .u64 y.c,.int .u64 y.d]),(gx,54,#[.int .u64 ((orW m x y 0:Nat):Int),.int .u64 ((orW m x y 1:Nat):Int),.int .u64 ((orW m x y 2:Nat):Int),.int .u64 ((orW m x y 3:Nat):Int)])]) (fun _=>[]) (fun m _=>m≤4) (fun m=>4-m) 0 (an ⟨⟨rfl,trivial⟩,fun M=>⟨M,asg _⟩⟩ ?_)
 intro m w M hm;refine an (fun h=>?_) fun h=>?_
 ·have hlt:m<4:=by simp at h;omega
  obtain rfl|rfl|rfl|rfl:m=0∨m=1∨m=2∨m=3:=by omega
  all_goals
   refine dr (by kernel_rfl)<|ei<|an ⟨rfl,by decide⟩<|lb 2<|an rfl<|ei<|an ⟨rfl,by decide⟩<|lb 1<|an rfl<|ei<|an rfl<|ei<|an ⟨rfl,by decide⟩<|fun w hb M=>lb 2<|an ⟨rfl,rfl⟩ fun w M=>an (by omega)<|bk _ ⟨rfl,trivial⟩ (fun M=>⟨M.cast ?_ rfl,by decide⟩) (by decide)
  ·exact congrArg (fun v:Int=>[(_:Bx),_,(gx,54,(#[Value.int .u64 v,_,_,_]:Array Value))]) (bits_or_u64_nat _ _ hx.a hy.a)
  ·exact congrArg (fun v:Int=>[(_:Bx),_,(gx,54,(#[_,Value.int .u64 v,_,_]:Array Value))]) (bits_or_u64_nat _ _ hx.b hy.b)
  ·exact congrArg (fun v:Int=>[(_:Bx),_,(gx,54,(#[_,_,Value.int .u64 v,_]:Array Value))]) (bits_or_u64_nat _ _ hx.c hy.c)
  ·exact congrArg (fun v:Int=>[(_:Bx),_,(gx,54,(#[_,_,_,Value.int .u64 v]:Array Value))]) (bits_or_u64_nat _ _ hx.d hy.d)
 obtain rfl:m=4:=by simp at h;omega
 exact lb 2<|an rfl<|lb 0<|an ⟨rfl,rfl⟩ fun w M=>ei (x:=0)<|an rfl fun M=>⟨rfl,M.below⟩
theorem HV(w0:World)(a b:aj)(ha:a.Ok)(hb:b.Ok):Calls Tryz.prog 169 #[.agg #[.int .i64 a.kind,.int .u64 a.src.a,.int .u64 a.src.b,.int .u64 a.src.c,.int .u64 a.src.d,.int .u64 a.tgt.a,.int .u64 a.tgt.b,.int .u64 a.tgt.c,.int .u64 a.tgt.d,.bool a.self,.int .i64 a.cls,.int .u32 a.perms,.int .i64 a.cond],.agg #[.int .i64 b.kind,.int .u64 b.src.a,.int .u64 b.src.b,.int .u64 b.src.c,.int .u64 b.src.d,.int .u64 b.tgt.a,.int .u64 b.tgt.b,.int .u64 b.tgt.c,.int .u64 b.tgt.d,.bool b.self,.int .i64 b.cls,.int .u32 b.perms,.int .i64 b.cond]] w0 (fun(r:Ending) (w':World)=>r=.returned (.tuple #[.agg #[.int .i64 (((aF a b).getD a).kind),.int .u64 (((aF a b).getD a).src.a),.int .u64 (((aF a b).getD a).src.b),.int .u64 (((aF a b).getD a).src.c),.int .u64 (((aF a b).getD a).src.d),.int .u64 (((aF a b).getD a).tgt.a),.int .u64 (((aF a b).getD a).tgt.b),.int .u64 (((aF a b).getD a).tgt.c),.int .u64 (((aF a b).getD a).tgt.d),.bool (((aF a b).getD a).self),.int .i64 (((aF a b).getD a).cls),.int .u32 (((aF a b).getD a).perms),.int .i64 (((aF a b).getD a).cond)],.bool (aF a b).isSome])∧ar6 w0.heap.size w0 w'):=by
 refine bX [] (fn:=Tryz.f169) Tryz.func169 rfl Tryz.ntmps169 rfl<|fun g1 w1 M1=>fun g2 w2 M2=>ei<|an oH fun g3 w3 M3=>lb 2<|an rfl<|lb 1<|an rfl<|lb 2<|an (fun _=>rfl)<|lb 1<|an (fun _=>rfl)<|lb 2<|an (fun _=>rfl)<|lb 1<|an (fun _=>rfl)<|lb 2<|an (fun _=>rfl)<|lb 1<|an (fun _=>rfl)<|an (fun h1=>?_) fun h1=>?_
 ·exact lb 2<|an rfl<|lb 0<|an ⟨rfl,rfl⟩ fun w4 M4=>ei (x:=0)<|an rfl fun M=>⟨join_none (by unfold aF;rw[if_pos h1]),M.below⟩
 refine lb 2<|an rfl<|lb 1<|an rfl<|ei (x:=decide (a.src=b.src))<|an ⟨yF,fun w=>xP a.src b.src w⟩<|lb 2<|an (fun _=>rfl)<|lb 1<|an (fun _=>rfl)<|ei (x:=decide (a.tgt=b.tgt))<|an (fun _=>⟨yF,fun w=>xP a.tgt b.tgt w⟩)<|an (fun h2=>?_) fun h2=>?_
 ·exact lb 2<|an rfl<|lb 1<|an rfl<|ei (x:=bits .or .u32 a.perms b.perms)<|an rfl<|lb 2<|an ⟨rfl,rfl⟩ fun w5 M5=>lb 2<|an rfl<|lb 0<|an ⟨rfl,rfl⟩ fun w6 M6=>ei (x:=0)<|an rfl fun M=>⟨join_some (by unfold aF;rw[if_neg (by rw[h1];decide),if_pos h2]),M.below⟩
 refine lb 2<|an rfl<|lb 1<|an rfl<|lb 2<|an (fun _=>rfl)<|lb 1<|an (fun _=>rfl)<|ei (x:=decide (a.src=b.src))<|an (fun _=>⟨yF,fun w=>xP a.src b.src w⟩)<|an (fun h3=>?_) fun h3=>?_
 ·exact lb 2<|an rfl<|lb 1<|an rfl<|cl<|an (CU _ a.tgt b.tgt ha.tgt hb.tgt) fun w7 M7=>lb 2<|an ⟨rfl,rfl⟩ fun w8 M8=>lb 2<|an rfl<|lb 0<|an ⟨rfl,rfl⟩ fun w9 M9=>ei (x:=0)<|an rfl fun M=>⟨join_some (by unfold aF;rw[if_neg (by rw[h1];decide),if_neg (by rw[h2];decide),if_pos h3]),M.below⟩
 refine lb 2<|an rfl<|lb 1<|an rfl<|lb 2<|an (fun _=>rfl)<|lb 1<|an (fun _=>rfl)<|ei (x:=decide (a.tgt=b.tgt))<|an (fun _=>⟨yF,fun w=>xP a.tgt b.tgt w⟩)<|an (fun h4=>?_) fun h4=>?_
 ·exact lb 2<|an rfl<|lb 1<|an rfl<|cl<|an (CU _ a.src b.src ha.src hb.src) fun yq oK=>lb 2<|an ⟨rfl,rfl⟩ fun Gx M11=>lb 2<|an rfl<|lb 0<|an ⟨rfl,rfl⟩ fun JA Gf=>ei (x:=0)<|an rfl fun M=>⟨join_some (by unfold aF;rw[if_neg (by rw[h1];decide),if_neg (by rw[h2];decide),if_neg (by rw[h3];decide),if_pos h4]),M.below⟩
 exact lb 2<|an rfl<|lb 0<|an ⟨rfl,rfl⟩ fun MS yK=>ei (x:=0)<|an rfl fun M=>⟨join_none (by unfold aF;rw[if_neg (by rw[h1];decide),if_neg (by rw[h2];decide),if_neg (by rw[h3];decide),if_neg (by rw[h4];decide)]),M.below⟩
section
variable {ops:Array Oper} {Q:Exit→Act→World→Prop} {rest:List Oper} {a:Act} {B:Nat} {w w0:World} {o:Oper} {bs:List Bx} {rs:List Rw} {mb:Nat} {L:List (Int×Value)}
theorem afR(hg:o.guard=none){t e:TypeId}{m x:Operand}{k:Int}(ho:o.op=.call { callee:=.builtin .delete,args:=#[m,x],argTypes:=#[t,3] })(ht:Tryz.prog.underlying t=some (.map 3 e))(hm:a.eval m=.map (some mb))(hx:a.eval x=.int .i64 k)(hk:iU k)(hd:o.dst=none)(M:aV B w0 w bs rs)(i:Nat)(h:bs[i]?=some (mb,9003,dU L))(hin:(jt L k).isSome=true)
 (next:∀ w',aV B w0 w' (bs.set i (mb,9003,dU (gB L k))) rs→wpList Tryz.prog ops Q rest a w'):wpList Tryz.prog ops Q (o::rest) a w:=
 rC w hg m x t 3 ho _ _ hm hx _ (M.afK ht i h hk hin) fun w' M'=>by
  rw[hd];exact next w' M'
end
def lval(z:(aj×Int)×Nat):Value:=.agg (lV z).toArray
def Gg(N:List ((aj×Int)×Nat))(A:Nat→Bool)(L:List (Int×Value)):Prop:=∀ k:Nat,jt L (k:Int)=if A k=true then (N[k]?).map lval else none
section
variable {N:List ((aj×Int)×Nat)} {A A':Nat→Bool} {L:List (Int×Value)} {m:Nat} {z:(aj×Int)×Nat}
theorem Gg.congr(h:Gg N A L)(e:∀ k,k<N.length→A' k=A k):Gg N A' L:=fun k=>by
 rw[h k];by_cases hk:k<N.length
 ·rw[e k hk]
 ·rw[List.getElem?_eq_none (by omega)];split<;>split<;>rfl
theorem Gg.put(h:Gg N A L)(hz:N[m]?=some z):Gg N (fun k=>decide (k=m)||A k) (((m:Int),lval z)::gB L (m:Int)):=fun k=>by
 rw[zj];by_cases e:k=m
 ·subst e;simp[hz]
 ·rw[if_neg (by omega),h k];simp[e]
theorem Gg.cut(h:Gg N A L):Gg N (fun k=>A k&&!decide (k=m)) (gB L (m:Int)):=fun k=>by
 rw[Es];by_cases e:k=m
 ·subst e;simp
 ·rw[if_neg (by omega),h k];simp[e]
theorem Gg.yes(h:Gg N A L){k:Nat}(hA:A k=true)(hz:N[k]?=some z):jt L (k:Int)=some (lval z):=by rw[h k,if_pos hA,hz];rfl
theorem Gg.no(h:Gg N A L){k:Nat}(hA:A k=false):jt L (k:Int)=none:=by rw[h k,if_neg (by rw[hA];decide)]
theorem Gg.nil:Gg N (fun k=>decide (k<0)) []:=fun k=>by simp[jt]
end
def eF{α:Type}(l:List α)(o:List Nat)(m n:Nat):List α:=(List.range n).filterMap fun k=>if (o.contains k||decide (k=m))=true then none else l[k]?
section
variable {α:Type} {l:List α} {o:List Nat} {m j:Nat} {z:α}
theorem Wn(hz:l[j]?=some z)(h:(o.contains j||decide (j=m))=false):eF l o m (j+1)=eF l o m j++[z]:=by
 unfold eF;rw[List.range_succ,asr,List.filterMap_cons,if_neg (by rw[h];decide),hz];rfl
theorem Zy(h:(o.contains j||decide (j=m))=true):eF l o m (j+1)=eF l o m j:=by
 unfold eF;rw[List.range_succ,asr,List.filterMap_cons,if_pos h];simp
theorem NG{β:Type}(f:α→β):(iP l o m).map f=iP (l.map f) o m:=by
 unfold iP;rw[ar9,List.map_filterMap];congr 1
 funext k
 split
 ·rfl
 ·rw[ar_]
theorem NH:∀ n,(eF l o m n).length≤n:=fun n=>asb (List.length_filterMap_le _ _) (by simp)
end
section
variable {N:List ((aj×Int)×Nat)} {o:List Nat} {m:Nat} {z:(aj×Int)×Nat}
theorem Wi(ho:o=iu (N.map (·.1)) m)(hz:N[m]?=some z)(h:iz z.1 ((iP N o m).map (·.1))=true):o++[m]=iu (N.map (·.1)) (m+1):=by
 rw[iu,ar_,hz,← ho];show _=if iz z.1 (iP (N.map (·.1)) o m)=true then o++[m] else o
 rw[← NG,if_pos h]
theorem Zw(ho:o=iu (N.map (·.1)) m)(hz:N[m]?=some z)(h:iz z.1 ((iP N o m).map (·.1))=false):o=iu (N.map (·.1)) (m+1):=by
 rw[iu,ar_,hz,← ho];show _=if iz z.1 (iP (N.map (·.1)) o m)=true then o++[m] else o
 rw[← NG,if_neg (by rw[h];decide)]
theorem Wj(ho:o=iu (N.map (·.1)) m):o.contains m=false:=by
 cases h:o.contains m with
 | false=>rfl
 | true=>
  have:m∈o:=by simpa using h
  rw[ho] at this;exact absurd (pO _ _ _ this) (Nat.lt_irrefl _)
end
theorem Wo{N:List ((aj×Int)×Nat)}{o:List Nat}{m j:Nat}{z:(aj×Int)×Nat}{v:Value}{e:TypeId}{k:Nat}{rs:List Rw}(hz:N[j]?=some z)(h:(o.contains j||decide (j=m))=false):
 (⟨v,e,k,(eF N o m j).length+1,(eF N o m j).flatMap lV++lV z⟩::rs:List Rw)=⟨v,e,k,(eF N o m (j+1)).length,(eF N o m (j+1)).flatMap lV⟩::rs:=by
 rw[Wn hz h,asi,asl,List.flatMap_cons,List.flatMap_nil,List.append_nil];rfl
theorem oW{x:Option Value}{v z:Value}(h:x=some v):Value.tuple #[x.getD z,.bool x.isSome]=.tuple #[v,.bool true]:=by rw[h];rfl
theorem oZ{x:Option Value}{z:Value}(h:x=none):Value.tuple #[x.getD z,.bool x.isSome]=.tuple #[z,.bool false]:=by rw[h];rfl
theorem bV.sub{α:Type}{w:World}{b:Nat}{N N':List ((α×Int)×Nat)}(h:bV w b N)(hs:∀ z∈N',z∈N):bV w b N':=fun z hz=>h z (hs z hz)
theorem ND{α:Type}{l:List α}{o:List Nat}{m:Nat}:∀ z∈iP l o m,z∈l:=Ao
theorem WC{p:aA}(hok:p.Ok){N:List ((aj×Int)×Nat)}{f:aj→Int}(hN:N.map (·.1)=p.rules.map fun y=>(y,f y)):∀ z∈N,z.1.1.Ok:=fun z hz=>by
 have:z.1∈N.map (·.1):=ar8.2 ⟨z,hz,rfl⟩;rw[hN] at this;obtain⟨r,hr,e⟩:=ar8.1 this;rw[← e];exact⟨(hok.rules r hr).src,(hok.rules r hr).tgt⟩
theorem P7(o:List Nat)(m:Nat):ints o++[Value.int .i64 (m:Int)]=ints (o++[m]):=by unfold ints;rw[asf];rfl
def vI(p:aA):List Nat:=iu (fN p) p.rules.length
theorem Nv(l:List (aj×Int)):∀ m,(iu l m).length≤m
 | 0=>Nat.le_refl _
 | m+1=>by
  have:=Nv l m;unfold iu;split
  ·split
   ·rw[asi];simp;omega
   ·omega
  ·omega
theorem rK(w0:World)(c0 c1 c2 c3 c4 c5 c6 c7 c8 c9 aS aN aM aR aQ aP aO:Value)(p:aA)(hp:aJ w0 c0 c1 c2 c3 c4 c5 c6 c7 c8 c9 aS aN aM aR aQ aP aO p)(hok:p.Ok)(hn:p.bools.length≤5)(hcl:p.conds.length≤1000)(hcr:p.rules.length≤900):Calls Tryz.prog 27 #[.agg #[c0,c1,c2,c3,c4,c5,c6,c7,c8,c9,aS,aN,aM,aR,aQ,aP,aO]] w0 (fun(r:Ending) (w':World)=>∃ v,r=.returned v∧((w'.ownsRow w0.heap.size 3 1 v (vI p).length (ints (vI p)))∧ar6 w0.heap.size w0 w')):=by
 obtain⟨gW,gU,rfl,hk5,hm5,LJ⟩:=SliceAt.form hp.bools (by decide);obtain⟨Ya,Vv,rfl,hk9,hm9,Ua⟩:=SliceAt.form hp.rules (by decide);have bS:=hr1 Tryz.prog Tryz.f27 (fun(r:Ending) (w':World)=>∃ v,r=.returned v∧((w'.ownsRow w0.heap.size 3 1 v (vI p).length (ints (vI p)))∧ar6 w0.heap.size w0 w')) 66 2 rfl;refine en Tryz.func27 rfl Tryz.ntmps27 rfl (vs:=[.agg #[c0,c1,c2,c3,c4,.slice gW p.bools.length gU,c6,c7,c8,.slice Ya p.rules.length Vv,aS,aN,aM,aR,aQ,aP,aO]]) rfl fun _ F=>?_
 have M:=Mm.start w0;refine asn fun K1 jd=>ah<|NW (on rfl) rfl (F.u rf) rfl F rfl M fun g1 _ _ F M=>xA (v:=.slice none 0 0) F rf rf rf fun _ F=>aso<|jd _ _ ?_
 refine asn fun K2 jy=>ah<|xW F (M.b 0 rfl) rf rf rf M_ rf z8 rf fun _ F=>kt (on rfl) (eZ rfl Tryz.func78 afH rfl (args1 (F.u rf))) (AF _ _ _ _ _ _ _ _ _ _ _ _ _ _ _ _ _ _ p (hp.keep M.below) hok hn hcl (by omega)) rfl F rfl fun v9 _ w1 hR F=>?_
 obtain⟨⟨N,Cq,hoR,hN⟩,hB1⟩:=hR;have DI:=(M.below).trans (hB1.mono (M.below).size);have HS1:=M.below.trans (hB1.mono M.below.size);have af_:∀ j uu,[c0,c1,c2,c3,c4,.slice gW p.bools.length gU,c6,c7,c8,.slice Ya p.rules.length Vv,aS,aN,aM,aR,aQ,aP,aO][j]?=some uu→w1.cell? ⟨g1,0+j,none⟩=some uu:=fun j u hu=>by rw[Nat.zero_add];exact((Whole.under hB1 (M.b 0 rfl) (M.b 0 rfl).lt).cell j).trans (by simpa using hu)
 replace M:=Mm.start w1;have hLs:=SliceAt.bR hoR (Dj N);obtain⟨ra,rc,rfl,hrc,hrm,TU⟩:=hLs.form (by decide)
 have hNl:N.length=p.rules.length:=by
  have h:=congrArg List.length Cq;simpa using h
 refine xA F rf rf rf fun _ F=>aso<|jy _ _ ?_
 refine asn fun K3 qg=>ah<|kmk (on rfl) rfl rfl F rfl M fun mb _ _ F M=>xA F rf rf rf fun _ F=>aso<|qg _ _ ?_
 refine asn fun K4 qd=>asn fun K5 p7=>ah<|xM F rf rf rf fun _ F=>kz F rf (gA rfl (F.u rf) yw) fun _ F=>xM (v:=.int .i64 0) F rf rf rf fun _ F=>aso<|p7 _ _ ?_
 refine asp<|?_;refine fH (ι:=Nat×List (Int×Value)) (fun|(t,L),a,w=>Fs a 66 [(3,.slice ra N.length rc),(4,(.map (some mb))),(17,.slice ra N.length rc),(18,.int .i64 (N.length:Int)),(19,.int .i64 (t:Int))]∧Mm w1 w [(mb,9003,dU L)] []∧t≤N.length∧Gg N (fun k=>decide (k<t)) L) (fun|(t,L)=>N.length-t) (0,[]) ⟨F.sub ⟨rfl,rfl,rfl,rfl,rfl,trivial⟩,M,asg _,Gg.nil⟩ ?_
 (repeat clear F);(repeat clear M)
 rintro⟨t,L⟩ _ _ ⟨F,M,hm,Yv⟩;refine asn fun K6 rM=>ah<|kz F rf (j5 rfl (F.u rf) (F.u rf)) fun _ F=>aso<|rM _ _ ?_
 refine asn fun K7 uj=>?_
 refine asq (F.e 20 rfl) (fun hc2=>?_) (fun hc2=>?_)
 ·have hd3:=of_decide_eq_true hc2;refine wp_skip<|uj _ _ ?_;refine asn fun K8 Bc=>asp<|asn fun K9 zx=>?_
  have hltz:t<N.length:=by omega
  obtain⟨z,hz⟩:∃ z,N[t]?=some z:=⟨_,ash hltz⟩;obtain⟨bz,obz,rfl,aah⟩:=TU t hltz
  have ZX:∀ j uu,[.int .i64 z.1.1.kind,.int .u64 z.1.1.src.a,.int .u64 z.1.1.src.b,.int .u64 z.1.1.src.c,.int .u64 z.1.1.src.d,.int .u64 z.1.1.tgt.a,.int .u64 z.1.1.tgt.b,.int .u64 z.1.1.tgt.c,.int .u64 z.1.1.tgt.d,.bool z.1.1.self,.int .i64 z.1.1.cls,.int .u32 z.1.1.perms,.int .i64 z.1.1.cond,.slice (some ⟨z.2,0,none⟩) 1 1][j]?=some uu→w1.cell? ⟨bz,obz+t*14+j,none⟩=some uu:=fun j u hu=>aah j u (by
   rw[lX vV hz j (asc.1 hu).1];exact hu)
  refine ah<|xM F rf rf rf fun _ F=>
   kz F rf (bT (i:=t) rfl (F.u rf) (F.u rf) (by omega) yw jC) fun _ F=>
   kz F rf (gu [.int .i64 z.1.1.kind,.int .u64 z.1.1.src.a,.int .u64 z.1.1.src.b,.int .u64 z.1.1.src.c,.int .u64 z.1.1.src.d,.int .u64 z.1.1.tgt.a,.int .u64 z.1.1.tgt.b,.int .u64 z.1.1.tgt.c,.int .u64 z.1.1.tgt.d,.bool z.1.1.self,.int .i64 z.1.1.cls,.int .u32 z.1.1.perms,.int .i64 z.1.1.cond,.slice (some ⟨z.2,0,none⟩) 1 1] rfl (F.u rf) GD rfl jC (cG M.below ZX)) fun _ F=>
   Lq (on rfl) rfl wR rfl F rfl M fun g4 _ _ F M=>
   xA F rf rf rf fun _ F=>
   Lm (on rfl) rfl (F.u rf) (F.u rf) F M 0 rfl jC rfl rfl rfl fun _ M=>
   aso<|
   zx _ _ ?_
  refine ah<|xM F rf rf rf fun _ F=>xM F rf rf rf fun _ F=>xW F (M.b 0 rfl) rf rf rf GD rf jC rf fun _ F=>
   kmp rfl rfl rfl R5 (F.u rf) (F.u rf) (F.u rf) (by constructor<;>omega) M 1 rfl fun _ M=>
   aso<|
   Bc _ _ ?_
  refine ah<|
   ke (on rfl) (fS rfl (F.u rf) rfl) rfl F rfl (congrArg (Value.int .i64) (wrap_i64 (by omega))) fun _ F=>
   xM F rf rf rf fun _ F=>
   aso<|?_
  exact⟨(t+1,((t:Int),.agg #[.int .i64 z.1.1.kind,.int .u64 z.1.1.src.a,.int .u64 z.1.1.src.b,.int .u64 z.1.1.src.c,.int .u64 z.1.1.src.d,.int .u64 z.1.1.tgt.a,.int .u64 z.1.1.tgt.b,.int .u64 z.1.1.tgt.c,.int .u64 z.1.1.tgt.d,.bool z.1.1.self,.int .i64 z.1.1.cls,.int .u32 z.1.1.perms,.int .i64 z.1.1.cond,.slice (some ⟨z.2,0,none⟩) 1 1])::gB L (t:Int)),⟨F.sub ⟨rfl,rfl,rfl,rfl,rfl,trivial⟩,(M.only (.cons _ (.cons_cons _ .slnil)) .slnil),by omega,(Yv.put hz).congr fun k _=>by rw[← Bool.decide_or];exact decide_eq_decide.2 (by omega)⟩,by show N.length-(t+1)<N.length-t;omega⟩
 ·have T5:=of_decide_eq_false hc2;refine wp_exit<|qd _ _ ?_;refine asn fun VE mG=>?_
  have M:=M.cL 3 1;refine ah<|xA (v:=.slice none 0 0) F rf rf rf fun _ F=>aso<|mG _ _ ?_
  refine asn fun K11 sE=>asn fun K12 sC=>?_
  have acZ:=WC hok Cq;refine ah<|xM F rf rf rf fun _ F=>kz F rf (gA rfl (F.u rf) yw) fun _ F=>xM (v:=.int .i64 0) F rf rf rf fun _ F=>aso<|sC _ _ ?_
  refine asp<|?_;refine fH (ι:=Nat×Value×List Nat×List (Int×Value)) (fun|(m,v,o,L),a,w=>Fs a 66 [(3,.slice ra N.length rc),(4,(.map (some mb))),(7,v),(28,.slice ra N.length rc),(29,.int .i64 (N.length:Int)),(30,.int .i64 (m:Int))]∧Mm w1 w [(mb,9003,dU L)] [⟨v,3,1,o.length,ints o⟩]∧m≤N.length∧o=iu (N.map (·.1)) m∧Gg N (fun k=>!o.contains k) L) (fun|(m,v,o,L)=>N.length-m) (0,.slice none 0 0,[],L) ⟨F.sub ⟨rfl,rfl,rfl,rfl,rfl,rfl,trivial⟩,M,asg _,rfl,Yv.congr fun k hk=>by simp;omega⟩ ?_
  (repeat clear F);(repeat clear M)
  rintro⟨m,v,o,L⟩ _ _ ⟨F,M,hm,ho,Yv⟩;refine asn fun K13 ru=>ah<|kz F rf (j5 rfl (F.u rf) (F.u rf)) fun _ F=>aso<|ru _ _ ?_
  refine asn fun K14 wk=>?_
  refine asq (F.e 31 rfl) (fun wj=>?_) (fun wj=>?_)
  ·have hd7:=of_decide_eq_true wj;refine wp_skip<|wk _ _ ?_;refine asn fun K15 um=>asp<|asn fun K16 EB=>?_
   have hltz:m<N.length:=by omega
   obtain⟨z,hz⟩:∃ z,N[m]?=some z:=⟨_,ash hltz⟩;obtain⟨bz,obz,rfl,aah⟩:=TU m hltz
   have ZX:∀ j uu,[.int .i64 z.1.1.kind,.int .u64 z.1.1.src.a,.int .u64 z.1.1.src.b,.int .u64 z.1.1.src.c,.int .u64 z.1.1.src.d,.int .u64 z.1.1.tgt.a,.int .u64 z.1.1.tgt.b,.int .u64 z.1.1.tgt.c,.int .u64 z.1.1.tgt.d,.bool z.1.1.self,.int .i64 z.1.1.cls,.int .u32 z.1.1.perms,.int .i64 z.1.1.cond,.slice (some ⟨z.2,0,none⟩) 1 1][j]?=some uu→w1.cell? ⟨bz,obz+m*14+j,none⟩=some uu:=fun j u hu=>aah j u (by
    rw[lX vV hz j (asc.1 hu).1];exact hu)
   have hmo:=Wj ho
   refine ah<|xM F rf rf rf fun _ F=>
    kz F rf (bT (i:=m) rfl (F.u rf) (F.u rf) (by omega) yw jC) fun _ F=>
    kz F rf (gu [.int .i64 z.1.1.kind,.int .u64 z.1.1.src.a,.int .u64 z.1.1.src.b,.int .u64 z.1.1.src.c,.int .u64 z.1.1.src.d,.int .u64 z.1.1.tgt.a,.int .u64 z.1.1.tgt.b,.int .u64 z.1.1.tgt.c,.int .u64 z.1.1.tgt.d,.bool z.1.1.self,.int .i64 z.1.1.cls,.int .u32 z.1.1.perms,.int .i64 z.1.1.cond,.slice (some ⟨z.2,0,none⟩) 1 1] rfl (F.u rf) GD rfl jC (cG M.below ZX)) fun _ F=>
    Lq (on rfl) rfl wR rfl F rfl M fun g8 _ _ F M=>
    xA F rf rf rf fun _ F=>
    Lm (on rfl) rfl (F.u rf) (F.u rf) F M 0 rfl jC rfl rfl rfl fun _ M=>
    aso<|
    EB _ _ ?_
   refine asn fun K17 Uq=>ah<|xM F rf rf rf fun _ F=>xM F rf rf rf fun _ F=>
    afR rfl rfl R5 (F.u rf) (F.u rf) (by constructor<;>omega) rfl M 1 rfl (by rw[Yv.yes (by rw[hmo];rfl) hz];rfl) fun _ M=>
    aso<|
    Uq _ _ ?_
   refine asn fun K18 aax=>?_
   have M:=M.cL 146 14;refine ah<|xA (v:=.slice none 0 0) F rf rf rf fun _ F=>aso<|aax _ _ ?_
   refine asn fun K19 aaw=>asn fun K20 aav=>ah<|xM F rf rf rf fun _ F=>kz F rf (gA rfl (F.u rf) yw) fun _ F=>xM (v:=.int .i64 0) F rf rf rf fun _ F=>aso<|aav _ _ ?_
   refine asp<|?_;refine fH (ι:=Nat×Value) (fun|(j,v2),a,w=>Fs a 66 [(3,.slice (some ⟨bz,obz,none⟩) N.length rc),(4,(.map (some mb))),(7,v),(8,.int .i64 (m:Int)),(9,.pointer (some ⟨g8,0,none⟩)),(10,v2),(28,.slice (some ⟨bz,obz,none⟩) N.length rc),(29,.int .i64 (N.length:Int)),(30,.int .i64 (m:Int)),(38,.int .i64 (N.length:Int)),(39,.int .i64 (j:Int))]∧Mm w1 w [(g8,146,#[.int .i64 z.1.1.kind,.int .u64 z.1.1.src.a,.int .u64 z.1.1.src.b,.int .u64 z.1.1.src.c,.int .u64 z.1.1.src.d,.int .u64 z.1.1.tgt.a,.int .u64 z.1.1.tgt.b,.int .u64 z.1.1.tgt.c,.int .u64 z.1.1.tgt.d,.bool z.1.1.self,.int .i64 z.1.1.cls,.int .u32 z.1.1.perms,.int .i64 z.1.1.cond,.slice (some ⟨z.2,0,none⟩) 1 1]),(mb,9003,dU (gB L (m:Int)))] [⟨v2,146,14,(eF N o m j).length,(eF N o m j).flatMap lV⟩,⟨v,3,1,o.length,ints o⟩]∧j≤N.length) (fun|(j,v2)=>N.length-j) (0,.slice none 0 0) ⟨F.sub ⟨rfl,rfl,rfl,rfl,rfl,rfl,rfl,rfl,rfl,rfl,rfl,trivial⟩,M,asg _⟩ ?_
   (repeat clear F);(repeat clear M)
   rintro⟨j,v2⟩ _ _ ⟨F,M,hj⟩;refine asn fun K21 aau=>ah<|kz F rf (j5 rfl (F.u rf) (F.u rf)) fun _ F=>aso<|aau _ _ ?_
   refine asn fun K22 aat=>?_
   refine asq (F.e 40 rfl) (fun hc9=>?_) (fun hc9=>?_)
   ·have agG:=of_decide_eq_true hc9;refine wp_skip<|aat _ _ ?_;refine asn fun K23 W_=>asp<|asn fun K24 aas=>ah<|xM F rf rf rf fun _ F=>xA F rf rf rf fun _ F=>aso<|aas _ _ ?_
    refine asn fun K25 W9=>?_
    have hlty:j<N.length:=by omega
    obtain⟨y,hy⟩:∃ y,N[j]?=some y:=⟨_,ash hlty⟩
    cases ac8:((o.contains j||decide (j=m)):Bool) with
    | true=>
     have hoff:(o.contains j||decide (j=m))=true:=ac8;have hlk:=Yv.cut.no (k:=j) (by rw[← Bool.not_or,hoff];rfl)
     refine ah<|xM F rf rf rf fun _ F=>xM F rf rf rf fun _ F=>
      ke (on rfl) (EV (z:=.agg #[.int .i64 0,.int .u64 0,.int .u64 0,.int .u64 0,.int .u64 0,.int .u64 0,.int .u64 0,.int .u64 0,.int .u64 0,.bool false,.int .i64 0,.int .u32 0,.int .i64 0,.slice none 0 0]) R5 (by kernel_rfl) M 1 rfl rfl (F.u rf) (F.u rf) (by constructor<;>omega)) rfl F rfl (show _=.tuple #[.agg #[.int .i64 0,.int .u64 0,.int .u64 0,.int .u64 0,.int .u64 0,.int .u64 0,.int .u64 0,.int .u64 0,.int .u64 0,.bool false,.int .i64 0,.int .u32 0,.int .i64 0,.slice none 0 0],.bool false] from oZ hlk) fun _ F=>
      xM F rf rf rf fun _ F=>
      kz F rf (bO rfl (F.u rf) rfl) fun _ F=>
      kz F rf (bO rfl (F.u rf) rfl) fun _ F=>
      Lq (on rfl) rfl wR rfl F rfl M fun g12 _ _ F M=>
      Lm (on rfl) rfl (F.u rf) (F.u rf) F M 0 rfl jC rfl rfl rfl fun _ M=>
      xA F rf rf rf fun _ F=>
      aso<|
      W9 _ _ ?_
     refine asn fun K26 aar=>ah<|xM F rf rf rf fun _ F=>aso<|aar _ _ ?_
     refine wp_cond_false (F.e 48 rfl) ?_;refine wp_skip<|W_ _ _ ?_
     refine ah<|
      ke (on rfl) (fS rfl (F.u rf) rfl) rfl F rfl (congrArg (Value.int .i64) (wrap_i64 (by omega))) fun _ F=>
      xM F rf rf rf fun _ F=>
      aso<|?_
     exact⟨(j+1,v2),⟨F.sub ⟨rfl,rfl,rfl,rfl,rfl,rfl,rfl,rfl,rfl,rfl,rfl,trivial⟩,((M.only (.cons _ (.cons_cons _ (.cons_cons _ .slnil))) (.cons_cons _ (.cons_cons _ .slnil)))).cast rfl (by rw[Zy hoff]),by omega⟩,by show N.length-(j+1)<N.length-j;omega⟩
    | false=>
     have hoff:(o.contains j||decide (j=m))=false:=ac8;have hlk:=Yv.cut.yes (k:=j) (by rw[← Bool.not_or,hoff];rfl) hy
     refine ah<|xM F rf rf rf fun _ F=>xM F rf rf rf fun _ F=>
      ke (on rfl) (EV (z:=.agg #[.int .i64 0,.int .u64 0,.int .u64 0,.int .u64 0,.int .u64 0,.int .u64 0,.int .u64 0,.int .u64 0,.int .u64 0,.bool false,.int .i64 0,.int .u32 0,.int .i64 0,.slice none 0 0]) R5 (by kernel_rfl) M 1 rfl rfl (F.u rf) (F.u rf) (by constructor<;>omega)) rfl F rfl (show _=.tuple #[.agg #[.int .i64 y.1.1.kind,.int .u64 y.1.1.src.a,.int .u64 y.1.1.src.b,.int .u64 y.1.1.src.c,.int .u64 y.1.1.src.d,.int .u64 y.1.1.tgt.a,.int .u64 y.1.1.tgt.b,.int .u64 y.1.1.tgt.c,.int .u64 y.1.1.tgt.d,.bool y.1.1.self,.int .i64 y.1.1.cls,.int .u32 y.1.1.perms,.int .i64 y.1.1.cond,.slice (some ⟨y.2,0,none⟩) 1 1],.bool true] from oW hlk) fun _ F=>
      xM F rf rf rf fun _ F=>
      kz F rf (bO rfl (F.u rf) rfl) fun _ F=>
      kz F rf (bO rfl (F.u rf) rfl) fun _ F=>
      Lq (on rfl) rfl wR rfl F rfl M fun g13 _ _ F M=>
      Lm (on rfl) rfl (F.u rf) (F.u rf) F M 0 rfl jC rfl rfl rfl fun _ M=>
      xA F rf rf rf fun _ F=>
      aso<|
      W9 _ _ ?_
     refine asn fun K27 aaq=>ah<|xM F rf rf rf fun _ F=>aso<|aaq _ _ ?_
     refine wp_cond_true (F.e 48 rfl) ?_;have al0:=NH (l:=N) (o:=o) (m:=m) j
     refine ah<|xM F rf rf rf fun _ F=>xW F (M.b 0 rfl) rf rf rf GD rf jC rf fun _ F=>
      kl (on rfl) rfl yw jC wR rfl (pv:=#[(0,.agg #[.int .i64 y.1.1.kind,.int .u64 y.1.1.src.a,.int .u64 y.1.1.src.b,.int .u64 y.1.1.src.c,.int .u64 y.1.1.src.d,.int .u64 y.1.1.tgt.a,.int .u64 y.1.1.tgt.b,.int .u64 y.1.1.tgt.c,.int .u64 y.1.1.tgt.d,.bool y.1.1.self,.int .i64 y.1.1.cls,.int .u32 y.1.1.perms,.int .i64 y.1.1.cond,.slice (some ⟨y.2,0,none⟩) 1 1])]) (by simp[(F.e 50 rfl)]) (cells:=#[.int .i64 y.1.1.kind,.int .u64 y.1.1.src.a,.int .u64 y.1.1.src.b,.int .u64 y.1.1.src.c,.int .u64 y.1.1.src.d,.int .u64 y.1.1.tgt.a,.int .u64 y.1.1.tgt.b,.int .u64 y.1.1.tgt.c,.int .u64 y.1.1.tgt.d,.bool y.1.1.self,.int .i64 y.1.1.cls,.int .u32 y.1.1.perms,.int .i64 y.1.1.cond,.slice (some ⟨y.2,0,none⟩) 1 1]) (by kernel_rfl) rfl F rfl M fun g14 _ _ F M=>
      kp (on rfl) rfl yw TH rfl M 0 rfl (F.u rf) (F.u rf) (M.slice 0 rfl rfl rfl (by simp[maxLen])) ⟨by unfold maxLen;omega,by omega⟩ rfl F rfl fun v15 _ _ F M=>
      xA F rf rf rf fun _ F=>
      aso<|
      W_ _ _ ?_
     refine ah<|
      ke (on rfl) (fS rfl (F.u rf) rfl) rfl F rfl (congrArg (Value.int .i64) (wrap_i64 (by omega))) fun _ F=>
      xM F rf rf rf fun _ F=>
      aso<|?_
     exact⟨(j+1,v15),⟨F.sub ⟨rfl,rfl,rfl,rfl,rfl,rfl,rfl,rfl,rfl,rfl,rfl,trivial⟩,((M.only (.cons _ (.cons _ (.cons_cons _ (.cons_cons _ .slnil)))) (.cons_cons _ (.cons_cons _ .slnil)))).cast rfl (Wo hy hoff),by omega⟩,by show N.length-(j+1)<N.length-j;omega⟩
   ·have amu:=of_decide_eq_false hc9;refine wp_exit<|aaw _ _ ?_;refine asn fun K28 aap=>?_
    have hjN:j=N.length:=by omega
    subst hjN
    have hol:((iP N o m).map (·.1)).length≤1000:=by
     rw[ar9];exact asb (NH N.length) (by omega)
    refine ah<|xW F (M.b 0 rfl) rf rf rf GD rf jC rf fun _ F=>xM F rf rf rf fun _ F=>
     xC F M rf rf q80 (args2 (F.u rf) (F.u rf)) (xR _ z.1 (acZ z (asa hz)) z.2 (by simpa using((hN.keep M.below) z (asa hz)).1.cell 0) _ v2 ((iP N o m).map (·.1)) (Ld (M.r 0 rfl) rfl ((hN.keep M.below).sub ND)) hol (fun y hy=>by obtain⟨x,hx,rfl⟩:=ar8.1 hy;exact acZ x (ND x hx))) fun _ _ F M=>
     aso<|
     aap _ _ ?_
    refine asq (F.e 56 rfl) (fun hc17=>?_) (fun hc17=>?_)
    ·have hcv:iz z.1 ((iP N o m).map (·.1))=true:=hc17;have alZ:o.length≤1000:=by rw[ho];exact asb (Nv _ _) (by omega)
     refine ah<|xM F rf rf rf fun _ F=>xM F rf rf rf fun _ F=>xS F M rf rf rf u64 XU zr3 rf rf fun g18 _ _ F M=>
      kp (on rfl) rfl u64 afY rfl M 1 rfl (F.u rf) (F.u rf) (M.slice 0 rfl rfl rfl (by simp[maxLen])) ⟨by unfold maxLen;omega,by omega⟩ rfl F rfl fun v19 _ _ F M=>
      xA F rf rf rf fun _ F=>
      aso<|
      um _ _ ?_
     refine ah<|
      ke (on rfl) (fS rfl (F.u rf) rfl) rfl F rfl (congrArg (Value.int .i64) (wrap_i64 (by omega))) fun _ F=>
      xM F rf rf rf fun _ F=>
      aso<|?_
     exact⟨(m+1,v19,o++[m],gB L (m:Int)),⟨F.sub ⟨rfl,rfl,rfl,rfl,rfl,rfl,trivial⟩,((M.only (.cons _ (.cons _ (.cons_cons _ .slnil))) (.cons _ (.cons_cons _ .slnil)))).cast rfl (by rw[P7,asi];rfl),by omega,Wi ho hz hcv,Yv.cut.congr fun k _=>by simp[Bool.and_comm]⟩,by show N.length-(m+1)<N.length-m;omega⟩
    ·have hcv:iz z.1 ((iP N o m).map (·.1))=false:=hc17
     refine ah<|xM F rf rf rf fun _ F=>xM F rf rf rf fun _ F=>xW F (M.b 0 rfl) rf rf rf GD rf jC rf fun _ F=>
      kmp rfl rfl rfl R5 (F.u rf) (F.u rf) (F.u rf) (by constructor<;>omega) M 1 rfl fun _ M=>
      aso<|
      um _ _ ?_
     refine ah<|
      ke (on rfl) (fS rfl (F.u rf) rfl) rfl F rfl (congrArg (Value.int .i64) (wrap_i64 (by omega))) fun _ F=>
      xM F rf rf rf fun _ F=>
      aso<|?_
     exact⟨(m+1,v,o,((m:Int),.agg #[.int .i64 z.1.1.kind,.int .u64 z.1.1.src.a,.int .u64 z.1.1.src.b,.int .u64 z.1.1.src.c,.int .u64 z.1.1.src.d,.int .u64 z.1.1.tgt.a,.int .u64 z.1.1.tgt.b,.int .u64 z.1.1.tgt.c,.int .u64 z.1.1.tgt.d,.bool z.1.1.self,.int .i64 z.1.1.cls,.int .u32 z.1.1.perms,.int .i64 z.1.1.cond,.slice (some ⟨z.2,0,none⟩) 1 1])::gB (gB L (m:Int)) (m:Int)),⟨F.sub ⟨rfl,rfl,rfl,rfl,rfl,rfl,trivial⟩,(M.only (.cons _ (.cons_cons _ .slnil)) (.cons _ (.cons_cons _ .slnil))),by omega,Zw ho hz hcv,(Yv.cut.put hz).congr fun k _=>by
      by_cases e:k=m
      ·subst e;rw[hmo];simp
      ·simp[e]⟩,by show N.length-(m+1)<N.length-m;omega⟩
  ·have amt:=of_decide_eq_false wj;refine wp_exit<|sE _ _ ?_;refine asn fun K29 aao=>ah<|xM F rf rf rf fun _ F=>xA F rf rf rf fun _ F=>aso<|aao _ _ ?_
   refine wp_ret<|bS _ _ _ _ F rfl ?_;have hmN:m=N.length:=by omega
   have hor:o=vI p:=by rw[ho,hmN,hNl,Cq];rfl
   subst hor;exact⟨_,rfl,tT (M.r 0 rfl) DI.size,(DI.trans (M.below.mono DI.size))⟩
end Go.Proofs.YtdcofoaihmongaaGreat

import Derived.Ground.Names2Prog
import Derived.Laws.Bits64b
import Derived.Shelf.Slices.CompactS
import Derived.Shelf.Slices.In.SortNone
import Derived.Shelf.Sort.Plain
import Derived.Sort.OwnSorted
import Derived.Test.YtdcofoaihmongaaGreatS3
open Bool renaming and_eq_true→aw4
open Go renaming cell_later→aw0,wp_seq_k→axe,wpList_nil→axf,wp_block→axg,wp_cond_split→axh,wp_cond_false→axj
open Go.RowKit renaming Below→awX
open List renaming getElem?_eq_getElem→awZ,take_length→aw2,mem_of_getElem?→aw3,mem_singleton→aw5,length_map→aw6,mem_cons→aw7,mem_map→aw8,mem_append→aw9,filterMap_append→aw_,getElem?_map→axa,length_append→axc,flatMap_append→axd,getElem?_eq_some_iff→axi,mem_cons_of_mem→axm,mem_cons_self→axn
open Nat renaming zero_le→awY,le_trans→axb,lt_of_lt_of_le→axk,mul_le_mul_right→axl
open Option.some renaming inj→aw1
set_option maxRecDepth 100000
set_option maxHeartbeats 8000000
namespace Go.Proofs.YtdcofoaihmongaaGreat
open Go Go.RowKit
theorem nX(w0:World)(v v':Value)(l l':List ByteArray)(h:aU w0 v l)(h':aU w0 v' l'):Calls Tryz.prog 131 #[v,v'] w0 fun r w'=>r=.returned (.bool (decide (l=l')))∧awX w0.heap.size w0 w':=by
 obtain⟨la,lk,rfl,xI,hcell⟩:=h.get;obtain⟨la',lk',rfl,-,Cu⟩:=h'.get;have no:l≠l'→Ending.returned (kQ [Value.bool false])=.returned (.bool (decide (l=l'))):=fun h=>by rw[decide_eq_false h];rfl
 refine dD [] (fn:=Tryz.f131) Tryz.func131 rfl Tryz.ntmps131 rfl<|an (fun h M=>⟨no fun e=>by rw[e] at h;simp at h,M.below⟩) fun h=>lr (ι:=Nat) (fun m=>[(5,.int .i64 (m:Int))]) (fun m _=>m≤l.length∧l.take m=l'.take m) (fun m=>l.length-m) 0 (an ⟨⟨rfl,trivial⟩,fun M=>⟨M,awY _,rfl⟩⟩ ?_)
 have hll:l.length=l'.length:=Int.ofNat_inj.1 (by simpa using h);rintro m w M ⟨hm,ht⟩;refine an (fun h2=>?_) fun h2 M=>⟨?_,M.below⟩
 ·simp only[decide_eq_true_eq] at h2;obtain⟨x,hx⟩:∃ x,l[m]?=some x:=⟨_,awZ (by omega)⟩;obtain⟨y,hy⟩:∃ y,l'[m]?=some y:=⟨_,awZ (by omega)⟩;obtain⟨b,off,e1,hc⟩:=hcell m x hx;obtain⟨b',off',e2,hc'⟩:=Cu m y hy;refine dr (by kernel_rfl)<|ia<|an ⟨e1,rfl,by omega⟩<|lc<|an (aw0 M.below hc)<|ia<|an ⟨e2,rfl,by omega⟩<|lc<|an (aw0 M.below hc') fun w2 hb2 M=>an (fun h3 M=>⟨no fun e=>?_,M.below⟩) fun h3=>an (by omega) (bk (m+1) ⟨rfl,trivial⟩ (fun M=>⟨M,by omega,jd ht hx hy ?_⟩) (by dsimp only;omega))
  ·subst e;rw[hx] at hy;obtain rfl:=aw1 hy;simp at h3
  ·rw[oJ] at h3;simpa using h3
 ·simp only[decide_eq_false_iff_not] at h2;rw[decide_eq_true (ql ht hll (by omega))];rfl
section
variable {α:Type} {p:α→α→Bool} {l r:List α} {m:Nat} {x y:α}
theorem fq(hx:l[m]?=some x)(hy:r[m]?=some y):au p (l.take (m+1)) (r.take (m+1))=(au p (l.take m) (r.take m)&&p x y):=by
 induction l generalizing r m with
 | nil=>simp at hx
 | cons a l ih=>cases r with
  | nil=>simp at hy
  | cons b r=>cases m with
   | zero=>
    simp only[List.getElem?_cons_zero,Option.some.injEq] at hx hy;subst hx hy;simp[au]
   | succ m=>
    simp only[List.getElem?_cons_succ] at hx hy;simp only[List.take_succ_cons,au,ih hx hy,Bool.and_assoc]
theorem fu(h:l.length=r.length):au p (l.take l.length) (r.take l.length)=au p l r:=by
 rw[aw2,h,aw2]
theorem eZ:au p (l.take 0) (r.take 0)=true:=by rw[List.take_zero,List.take_zero];rfl
end
theorem kI{α:Type}[DecidableEq α]:∀ l r:List α,au (fun x y=>decide (x=y)) l r=decide (l=r)
 | [],[]=>by simp[au]
 | [],_::_=>by simp[au]
 | _::_,[]=>by simp[au]
 | x::l,y::r=>by
  rw[au,kI l r];by_cases h:x=y<;>simp[h]
theorem eB{a b:Bool}(h:a=b):(some (Value.bool a))=some (Value.bool b):=by rw[h]
theorem Xo{α:Type}{p:α→α→Bool}{l r:List α}{m:Nat}{x y:α}(hx:l[m]?=some x)(hy:r[m]?=some y)(h:p x y=false):au p l r=false:=by
 induction l generalizing r m with
 | nil=>simp at hx
 | cons a l ih=>cases r with
  | nil=>simp at hy
  | cons b r=>cases m with
   | zero=>
    simp only[List.getElem?_cons_zero,Option.some.injEq] at hx hy;subst hx hy;simp[au,h]
   | succ m=>
    simp only[List.getElem?_cons_succ] at hx hy;simp[au,ih hx hy]
theorem qp:∀ e:aA,∀ (w0:World) (cs cs':List Value) (y:aA),bB w0 cs e→bB w0 cs' y→Calls Tryz.prog 132 #[.agg cs.toArray,.agg cs'.toArray] w0 fun r w'=>r=.returned (.bool (eW e y))∧awX w0.heap.size w0 w':=by
 refine aA.ind fun e ih=>?_
 intro w0 cs cs' y h h';obtain⟨nv,kv,rfl,Nv,hk⟩:=h.open;obtain⟨ka,kc,rfl,-,xI,hcell⟩:=hk.form (by decide);obtain⟨nv',kv',rfl,ajv,hk'⟩:=h'.open;obtain⟨ka',kc',rfl,-,-,Cu⟩:=hk'.form (by decide);have no:eW e y=false→Ending.returned (kQ [Value.bool false])=.returned (.bool (eW e y)):=fun h=>by rw[h];rfl
 refine dD [] (fn:=Tryz.f132) Tryz.func132 rfl Tryz.ntmps132 rfl fun g1 w1 M1=>fun g2 w2 M2=>lb 1<|an rfl<|lb 0<|an rfl<|lb 1<|an (fun _=>rfl)<|lb 0<|an (fun _=>rfl)<|lb 1<|an (fun _=>rfl)<|lb 0<|an (fun _=>rfl)<|lb 1<|an (fun _=>rfl)<|lb 0<|an (fun _=>rfl)<|lb 1<|an (fun _=>rfl)<|lb 0<|an (fun _=>rfl)<|ei<|an (fun _=>⟨rV,fun w=>pK e.set y.set w⟩)<|lb 1<|an (fun _=>rfl)<|lb 0<|an (fun _=>rfl)<|cl<|an (fun _=>nX _ _ _ _ _ (Nv.keep M2.below) (ajv.keep M2.below)) fun w3 M=>lb 1<|an (fun _=>rfl)<|lb 0<|an (fun _=>rfl)<|an (fun h M=>⟨no ?_,M.below⟩) fun h=>?_
 ·rw[Bp];by_cases hl:e.kids.length=y.kids.length
  ·simp only[hl] at h;simp at h ⊢;intro a1 a2 a3 a4 a5 a6
   simp_all
  ·rw[← tY hl,Bool.and_false]
 simp only[Bool.or_eq_false_iff,Bool.not_eq_false',decide_eq_true_eq] at h;obtain⟨⟨⟨⟨⟨⟨h1,h2⟩,h3⟩,h4⟩,h5⟩,h6⟩,h7⟩:=h;have hll:e.kids.length=y.kids.length:=by omega
 have hE:eW e y=au eW e.kids y.kids:=by
  rw[Bp];simp[h1,h2,h3,h4,h5,h6]
 refine lr (ι:=Nat) (fun m=>[(5,.int .i64 (m:Int))]) (fun m _=>m≤e.kids.length∧au eW (e.kids.take m) (y.kids.take m)=true) (fun m=>e.kids.length-m) 0 (an ⟨⟨rfl,trivial⟩,fun M=>⟨M,awY _,eZ⟩⟩ ?_);rintro m w M ⟨hm,ht⟩;refine lb 1<|an rfl<|an (fun h8=>?_) fun h8 M=>⟨?_,M.below⟩
 ·simp only[decide_eq_true_eq] at h8;obtain⟨x1,hx⟩:∃ x,e.kids[m]?=some x:=⟨_,awZ (by omega)⟩;obtain⟨x2,hy⟩:∃ x,y.kids[m]?=some x:=⟨_,awZ (by omega)⟩;obtain⟨b1,o1,z1,e1,Ct,-,hr1⟩:=hcell m x1 hx;obtain⟨b2,o2,z2,e2,he2,-,Nu⟩:=Cu m x2 hy;obtain⟨JA,VA,rfl,-⟩:=Ct.open;obtain⟨Va,kv2,rfl,-⟩:=he2.open;refine dr (by kernel_rfl)<|lb 1<|an rfl<|ia<|an ⟨e1,rfl,by omega⟩<|lc<|an (dH M.below hr1)<|lb 0<|an rfl<|ia<|an ⟨e2,rfl,by omega⟩<|lc<|an (dH M.below Nu)<|cl<|an (fun w' hb' M'=>ih x1 (aw3 hx) _ _ _ x2 (bB.keep M'.below Ct) (bB.keep M'.below he2)) fun w4 hb4 M=>an (fun h9 M=>⟨no ?_,M.below⟩) fun h9=>an (by omega) (bk (m+1) ⟨rfl,trivial⟩ (fun M=>⟨M,by omega,?_⟩) (by dsimp only;omega))
  ·rw[hE,Xo hx hy (by simpa using h9)]
  ·rw[fq hx hy,ht];simpa using h9
 ·simp only[decide_eq_false_iff_not] at h8;obtain rfl:m=e.kids.length:=by omega
  rw[hE,← fu hll,ht];rfl
theorem AF{α:Type}{p:α→α→Bool}{l r:List α}(h:au p l r=true):l.length=r.length:=by
 by_cases hl:l.length=r.length
 ·exact hl
 ·rw[← tY hl] at h;cases h
theorem Fv{p q:aF}(h:kE p q=true):p.classes.length=q.classes.length∧p.types.length=q.types.length∧p.attrs=q.attrs∧p.roles=q.roles∧p.users=q.users∧p.bools=q.bools∧p.bf=q.bf∧p.cats=q.cats:=by
 unfold kE at h;simp only[aw4,decide_eq_true_eq] at h;obtain⟨⟨⟨⟨⟨⟨⟨h1,h2⟩,h3⟩,h4⟩,h5⟩,h6⟩,h7⟩,h8⟩:=h;exact⟨AF h1,AF h2,h3,h4,h5,h6,h7,h8⟩
theorem uE(w0:World)(c0 c1 c2 c3 c4 c5 c6 c7 c8 c9 aR aO aN aQ aM aL aP d0 d1 d2 d3 d4 d5 d6 d7 d8 d9 sQ sP sO sM sK sJ sI:Value)(p q:aF)(hp:aK w0 c0 c1 c2 c3 c4 c5 c6 c7 c8 c9 aR aO aN aQ aM aL aP p)(hq:aK w0 d0 d1 d2 d3 d4 d5 d6 d7 d8 d9 sQ sP sO sM sK sJ sI q):Calls Tryz.prog 67 #[.agg #[c0,c1,c2,c3,c4,c5,c6,c7,c8,c9,aR,aO,aN,aQ,aM,aL,aP],.agg #[d0,d1,d2,d3,d4,d5,d6,d7,d8,d9,sQ,sP,sO,sM,sK,sJ,sI]] w0 fun r w'=>r=.returned (.bool (kE p q))∧awX w0.heap.size w0 w':=by
 obtain⟨la0,lk0,rfl,-,hm0,hc0⟩:=aC.form hp.classes (by decide);obtain⟨ma0,mk0,rfl,-,-,hd0⟩:=aC.form hq.classes (by decide);obtain⟨la1,lk1,rfl,-,hm1,hc1⟩:=aC.form hp.types (by decide);obtain⟨ma1,mk1,rfl,-,-,hd1⟩:=aC.form hq.types (by decide);obtain⟨la2,lk2,rfl,-,hm2,-⟩:=SliceAt.form hp.attrs (by decide);obtain⟨ma2,mk2,rfl,-⟩:=SliceAt.form hq.attrs (by decide);obtain⟨la3,lk3,rfl,-,hm3,-⟩:=SliceAt.form hp.roles (by decide);obtain⟨ma3,mk3,rfl,-⟩:=SliceAt.form hq.roles (by decide);obtain⟨la4,lk4,rfl,-,hm4,-⟩:=SliceAt.form hp.users (by decide);obtain⟨ma4,mk4,rfl,-⟩:=SliceAt.form hq.users (by decide);obtain⟨iu,iq,rfl,-,hm5,-⟩:=SliceAt.form hp.bools (by decide);obtain⟨ma5,mk5,rfl,-⟩:=SliceAt.form hq.bools (by decide);obtain⟨ka6,kk6,hv6,-⟩:=aU.get hp.bf;have no:kE p q=false→Ending.returned (kQ [Value.bool false])=.returned (.bool (kE p q)):=fun h=>by rw[h];rfl
 refine dD [] (fn:=Tryz.f67) Tryz.func67 rfl Tryz.ntmps67 rfl fun g1 w1 M1=>fun g2 w2 M2=>lb 1<|an rfl<|lb 0<|an rfl<|lb 1<|an (fun _=>rfl)<|lb 0<|an (fun _=>rfl)<|lb 1<|an (fun _=>rfl)<|lb 0<|an (fun _=>rfl)<|lb 1<|an (fun _=>rfl)<|lb 0<|an (fun _=>rfl)<|lb 1<|an (fun _=>rfl)<|lb 0<|an (fun _=>rfl)<|lb 1<|an (fun _=>rfl)<|lb 0<|an (fun _=>rfl)<|lb 1<|an (fun _=>rfl)<|lb 0<|an (fun _=>rfl)<|cl<|an (fun _=>nX _ _ _ _ _ (aU.keep hp.bf M2.below) (aU.keep hq.bf M2.below)) fun w3 M=>lb 1<|an (fun _=>rfl)<|lb 0<|an (fun _=>rfl)<|cl<|an (fun _=>nX _ _ _ _ _ (aU.keep hp.cats M.below) (aU.keep hq.cats M.below)) fun w4 M=>an (fun h M=>⟨no ?_,M.below⟩) fun h=>?_
 ·cases hs:kE p q with
  | false=>rfl
  | true=>
   obtain⟨a1,a2,a3,a4,a5,a6,a7,a8⟩:=Fv hs;simp[a1,a2,a3,a4,a5,a6,a7,a8] at h
 simp only[Bool.or_eq_false_iff,Bool.not_eq_false',decide_eq_true_eq] at h;obtain⟨⟨⟨⟨⟨⟨⟨ND,Wi⟩,Wp⟩,Wl⟩,Wh⟩,Wo⟩,hS1⟩,hS2⟩:=h;have Nw:p.classes.length=q.classes.length:=by have:=ND;omega
 have V2:p.types.length=q.types.length:=by have:=Wi;omega
 have J7:p.attrs.length=q.attrs.length:=by have:=Wp;omega
 have J4:p.roles.length=q.roles.length:=by have:=Wl;omega
 have JZ:p.users.length=q.users.length:=by have:=Wh;omega
 have J6:p.bools.length=q.bools.length:=by have:=Wo;omega
 refine lr (ι:=Nat) (fun m=>[(5,.bool (true&&au mP (p.classes.take m) (q.classes.take m))),(6,.int .i64 (m:Int))]) (fun m _=>m≤p.classes.length) (fun m=>p.classes.length-m) 0 (an ⟨⟨eB (by rw[eZ];rfl),rfl,trivial⟩,fun M=>⟨M,awY _⟩⟩ ?_);intro m w M hm;refine lb 1<|an rfl<|an (fun h=>?_) fun h=>?_
 ·simp only[decide_eq_true_eq] at h;obtain⟨x,hx⟩:∃ x,p.classes[m]?=some x:=⟨_,awZ (by omega)⟩;obtain⟨y,hy⟩:∃ y,q.classes[m]?=some y:=⟨_,awZ (by omega)⟩;obtain⟨b,o,z,e1,hz,-,hc⟩:=hc0 m x hx;obtain⟨b',o',z',e2,hz',-,hc'⟩:=hd0 m y hy;obtain⟨pv,rfl,hpv⟩:=hz;obtain⟨pv',rfl,acF⟩:=hz';refine dr (by kernel_rfl)<|lb 1<|an (fun _=>rfl)<|ia<|an (fun _=>⟨e1,rfl,by omega⟩)<|lc<|an (fun _=>aw0 M.below (hc 0 _ rfl))<|lb 0<|an (fun _=>rfl)<|ia<|an (fun _=>⟨e2,rfl,by omega⟩)<|lc<|an (fun _=>aw0 M.below (hc' 0 _ rfl))<|lb 1<|an (fun _=>rfl)<|ia<|an (fun _=>⟨e1,rfl,by omega⟩)<|lc<|an (fun _=>aw0 M.below (hc 1 _ rfl))<|lb 0<|an (fun _=>rfl)<|ia<|an (fun _=>⟨e2,rfl,by omega⟩)<|lc<|an (fun _=>aw0 M.below (hc' 1 _ rfl))<|cl<|an (fun _ w' hb' M'=>nX w' _ _ _ _ (hpv.keep M'.below) (acF.keep M'.below)) fun w2 hb M=>an (by omega) (bk (m+1) ⟨eB (by rw[fq hx hy];unfold mP;simp[Bool.and_assoc,oJ]),rfl,trivial⟩ (fun M=>⟨M,by omega⟩) (by dsimp only;omega))
 simp only[decide_eq_false_iff_not] at h;obtain rfl:m=p.classes.length:=by omega
 refine lr (ι:=Nat) (fun m=>[(5,.bool ((true&&au mP p.classes q.classes)&&au nZ (p.types.take m) (q.types.take m))),(7,.int .i64 (m:Int))]) (fun m _=>m≤p.types.length) (fun m=>p.types.length-m) 0 (an ⟨⟨eB (by rw[fu Nw,eZ,Bool.and_true]),rfl,trivial⟩,fun M=>⟨M,awY _⟩⟩ ?_);intro m w M hm;refine lb 1<|an rfl<|an (fun h=>?_) fun h=>?_
 ·simp only[decide_eq_true_eq] at h;obtain⟨x,hx⟩:∃ x,p.types[m]?=some x:=⟨_,awZ (by omega)⟩;obtain⟨y,hy⟩:∃ y,q.types[m]?=some y:=⟨_,awZ (by omega)⟩;obtain⟨b,o,z,e1,hz,-,hc⟩:=hc1 m x hx;obtain⟨b',o',z',e2,hz',-,hc'⟩:=hd1 m y hy;obtain⟨pv,rfl,hpv⟩:=hz;obtain⟨pv',rfl,acF⟩:=hz';refine dr (by kernel_rfl)<|lb 1<|an (fun _=>rfl)<|ia<|an (fun _=>⟨e1,rfl,by omega⟩)<|lc<|an (fun _=>aw0 M.below (hc 0 _ rfl))<|lb 0<|an (fun _=>rfl)<|ia<|an (fun _=>⟨e2,rfl,by omega⟩)<|lc<|an (fun _=>aw0 M.below (hc' 0 _ rfl))<|lb 1<|an (fun _=>rfl)<|ia<|an (fun _=>⟨e1,rfl,by omega⟩)<|lc<|an (fun _=>aw0 M.below (hc 2 _ rfl))<|lb 0<|an (fun _=>rfl)<|ia<|an (fun _=>⟨e2,rfl,by omega⟩)<|lc<|an (fun _=>aw0 M.below (hc' 2 _ rfl))<|lb 1<|an (fun _=>rfl)<|ia<|an (fun _=>⟨e1,rfl,by omega⟩)<|lc<|an (fun _=>aw0 M.below (hc 1 _ rfl))<|lb 0<|an (fun _=>rfl)<|ia<|an (fun _=>⟨e2,rfl,by omega⟩)<|lc<|an (fun _=>aw0 M.below (hc' 1 _ rfl))<|cl<|an (fun _ w' hb' M'=>nX w' _ _ _ _ (hpv.keep M'.below) (acF.keep M'.below)) fun w2 hb M=>an (by omega) (bk (m+1) ⟨eB (by rw[fq hx hy];unfold nZ;simp[Bool.and_assoc,oJ]),rfl,trivial⟩ (fun M=>⟨M,by omega⟩) (by dsimp only;omega))
 simp only[decide_eq_false_iff_not] at h;obtain rfl:m=p.types.length:=by omega
 refine lr (ι:=Nat) (fun m=>[(5,.bool (((true&&au mP p.classes q.classes)&&au nZ p.types q.types)&&au (fun x y=>decide (x=y)) (p.attrs.take m) (q.attrs.take m))),(8,.int .i64 (m:Int))]) (fun m _=>m≤p.attrs.length) (fun m=>p.attrs.length-m) 0 (an ⟨⟨eB (by rw[fu V2,eZ,Bool.and_true]),rfl,trivial⟩,fun M=>⟨M,awY _⟩⟩ ?_);intro m w M hm;refine lb 1<|an rfl<|an (fun h=>?_) fun h=>?_
 ·simp only[decide_eq_true_eq] at h;obtain⟨x,y,b,o,b',o',hx,hy,⟨e1,hc⟩,e2,hc'⟩:=dS (f:=lD.cells) (fun _=>rfl) (by decide) hp.attrs hq.attrs rfl rfl (m:=m) (by omega) J7 M.below;refine dr (by kernel_rfl)<|lb 1<|an (fun _=>rfl)<|ia<|an (fun _=>⟨e1,rfl,by omega⟩)<|lc<|an (fun _=>hc)<|lb 0<|an (fun _=>rfl)<|ia<|an (fun _=>⟨e2,rfl,by omega⟩)<|lc<|an (fun _=>hc')<|ei<|an (fun _=>⟨aa_,fun w=>WT x y w⟩) fun w2 hb M=>an (by omega) (bk (m+1) ⟨eB (by rw[fq hx hy,Bool.and_assoc]),rfl,trivial⟩ (fun M=>⟨M,by omega⟩) (by dsimp only;omega))
 simp only[decide_eq_false_iff_not] at h;obtain rfl:m=p.attrs.length:=by omega
 refine lr (ι:=Nat) (fun m=>[(5,.bool ((((true&&au mP p.classes q.classes)&&au nZ p.types q.types)&&au (fun x y=>decide (x=y)) p.attrs q.attrs)&&au (fun x y=>decide (x=y)) (p.roles.take m) (q.roles.take m))),(9,.int .i64 (m:Int))]) (fun m _=>m≤p.roles.length) (fun m=>p.roles.length-m) 0 (an ⟨⟨eB (by rw[fu J7,eZ,Bool.and_true]),rfl,trivial⟩,fun M=>⟨M,awY _⟩⟩ ?_);intro m w M hm;refine lb 1<|an rfl<|an (fun h=>?_) fun h=>?_
 ·simp only[decide_eq_true_eq] at h;obtain⟨x,y,b,o,b',o',hx,hy,⟨e1,hc⟩,e2,hc'⟩:=dS (f:=iI.cells) (fun _=>rfl) (by decide) hp.roles hq.roles rfl rfl (m:=m) (by omega) J4 M.below;refine dr (by kernel_rfl)<|lb 1<|an (fun _=>rfl)<|ia<|an (fun _=>⟨e1,rfl,by omega⟩)<|lc<|an (fun _=>hc)<|lb 0<|an (fun _=>rfl)<|ia<|an (fun _=>⟨e2,rfl,by omega⟩)<|lc<|an (fun _=>hc')<|ei<|an (fun _=>⟨WZ,fun w=>WS x y w⟩) fun w2 hb M=>an (by omega) (bk (m+1) ⟨eB (by rw[fq hx hy,Bool.and_assoc]),rfl,trivial⟩ (fun M=>⟨M,by omega⟩) (by dsimp only;omega))
 simp only[decide_eq_false_iff_not] at h;obtain rfl:m=p.roles.length:=by omega
 refine lr (ι:=Nat) (fun m=>[(5,.bool (((((true&&au mP p.classes q.classes)&&au nZ p.types q.types)&&au (fun x y=>decide (x=y)) p.attrs q.attrs)&&au (fun x y=>decide (x=y)) p.roles q.roles)&&au (fun x y=>decide (x=y)) (p.users.take m) (q.users.take m))),(10,.int .i64 (m:Int))]) (fun m _=>m≤p.users.length) (fun m=>p.users.length-m) 0 (an ⟨⟨eB (by rw[fu J4,eZ,Bool.and_true]),rfl,trivial⟩,fun M=>⟨M,awY _⟩⟩ ?_);intro m w M hm;refine lb 1<|an rfl<|an (fun h=>?_) fun h=>?_
 ·simp only[decide_eq_true_eq] at h;obtain⟨x,y,b,o,b',o',hx,hy,⟨e1,hc⟩,e2,hc'⟩:=dS (f:=kJ.cells) (fun _=>rfl) (by decide) hp.users hq.users rfl rfl (m:=m) (by omega) JZ M.below;refine dr (by kernel_rfl)<|lb 1<|an (fun _=>rfl)<|ia<|an (fun _=>⟨e1,rfl,by omega⟩)<|lc<|an (fun _=>hc)<|lb 0<|an (fun _=>rfl)<|ia<|an (fun _=>⟨e2,rfl,by omega⟩)<|lc<|an (fun _=>hc')<|ei<|an (fun _=>⟨aa9,fun w=>WR x y w⟩) fun w2 hb M=>an (by omega) (bk (m+1) ⟨eB (by rw[fq hx hy,Bool.and_assoc]),rfl,trivial⟩ (fun M=>⟨M,by omega⟩) (by dsimp only;omega))
 simp only[decide_eq_false_iff_not] at h;obtain rfl:m=p.users.length:=by omega
 refine lr (ι:=Nat) (fun m=>[(5,.bool ((((((true&&au mP p.classes q.classes)&&au nZ p.types q.types)&&au (fun x y=>decide (x=y)) p.attrs q.attrs)&&au (fun x y=>decide (x=y)) p.roles q.roles)&&au (fun x y=>decide (x=y)) p.users q.users)&&au (fun x y=>decide (x=y)) (p.bools.take m) (q.bools.take m))),(11,.int .i64 (m:Int))]) (fun m _=>m≤p.bools.length) (fun m=>p.bools.length-m) 0 (an ⟨⟨eB (by rw[fu JZ,eZ,Bool.and_true]),rfl,trivial⟩,fun M=>⟨M,awY _⟩⟩ ?_);intro m w M hm;refine lb 1<|an rfl<|an (fun h=>?_) fun h=>?_
 ·simp only[decide_eq_true_eq] at h;obtain⟨x,y,b,o,b',o',hx,hy,⟨e1,hc⟩,e2,hc'⟩:=dS (f:=iP.cells) (fun _=>rfl) (by decide) hp.bools hq.bools rfl rfl (m:=m) (by omega) J6 M.below;refine dr (by kernel_rfl)<|lb 1<|an (fun _=>rfl)<|ia<|an (fun _=>⟨e1,rfl,by omega⟩)<|lc<|an (fun _=>hc)<|lb 0<|an (fun _=>rfl)<|ia<|an (fun _=>⟨e2,rfl,by omega⟩)<|lc<|an (fun _=>hc')<|ei<|an (fun _=>⟨aa8,fun w=>WQ x y w⟩) fun w2 hb M=>an (by omega) (bk (m+1) ⟨eB (by rw[fq hx hy,Bool.and_assoc]),rfl,trivial⟩ (fun M=>⟨M,by omega⟩) (by dsimp only;omega))
 simp only[decide_eq_false_iff_not] at h;obtain rfl:m=p.bools.length:=by omega
 intro M;refine⟨?_,M.below⟩;have e7:p.bf=q.bf:=by simpa using hS1
 have e8:p.cats=q.cats:=by simpa using hS2
 rw[fu J6,kI,kI,kI,kI];unfold kE;simp only[e7,e8,decide_true,Bool.and_true,Bool.true_and,kQ]
def nr(p q:aF):Bool:=(((((au eW p.conds q.conds&&decide (p.rules=q.rules))&&decide (p.trans=q.trans))&&decide (p.aT=q.aT))&&decide (p.ranges=q.ranges))&&au sC p.cons q.cons)
theorem Fw{p q:aF}(h:nr p q=true):p.conds.length=q.conds.length∧p.rules=q.rules∧p.trans=q.trans∧p.aT=q.aT∧p.ranges=q.ranges∧p.cons.length=q.cons.length:=by
 unfold nr at h;simp only[aw4,decide_eq_true_eq] at h;obtain⟨⟨⟨⟨⟨h1,h2⟩,h3⟩,h4⟩,h5⟩,h6⟩:=h;exact⟨AF h1,h2,h3,h4,h5,AF h6⟩
theorem zP(w0:World)(c0 c1 c2 c3 c4 c5 c6 c7 c8 c9 aR aO aN aQ aM aL aP d0 d1 d2 d3 d4 d5 d6 d7 d8 d9 sQ sP sO sM sK sJ sI:Value)(p q:aF)(hp:aK w0 c0 c1 c2 c3 c4 c5 c6 c7 c8 c9 aR aO aN aQ aM aL aP p)(hq:aK w0 d0 d1 d2 d3 d4 d5 d6 d7 d8 d9 sQ sP sO sM sK sJ sI q):Calls Tryz.prog 68 #[.agg #[c0,c1,c2,c3,c4,c5,c6,c7,c8,c9,aR,aO,aN,aQ,aM,aL,aP],.agg #[d0,d1,d2,d3,d4,d5,d6,d7,d8,d9,sQ,sP,sO,sM,sK,sJ,sI]] w0 fun r w'=>r=.returned (.bool (nr p q))∧awX w0.heap.size w0 w':=by
 obtain⟨la8,lk8,rfl,-,hm8,hc8⟩:=aC.form hp.conds (by decide);obtain⟨ma8,mk8,rfl,-,-,hd8⟩:=aC.form hq.conds (by decide);obtain⟨YW,Vt,rfl,-,hm9,-⟩:=SliceAt.form hp.rules (by decide);obtain⟨ma9,mk9,rfl,-⟩:=SliceAt.form hq.rules (by decide);obtain⟨RR,RL,rfl,-,afS,-⟩:=SliceAt.form hp.trans (by decide);obtain⟨apt,apk,rfl,-⟩:=SliceAt.form hq.trans (by decide);obtain⟨apI,apz,rfl,-,aqx,-⟩:=SliceAt.form hp.aT (by decide);obtain⟨apr,apj,rfl,-⟩:=SliceAt.form hq.aT (by decide);obtain⟨apH,apy,rfl,-,aqw,-⟩:=SliceAt.form hp.ranges (by decide);obtain⟨apq,aph,rfl,-⟩:=SliceAt.form hq.ranges (by decide);obtain⟨apG,apx,rfl,-,ajG,ajW⟩:=aC.form hp.cons (by decide);obtain⟨apo,apg,rfl,-,-,ajR⟩:=aC.form hq.cons (by decide);have no:nr p q=false→Ending.returned (kQ [Value.bool false])=.returned (.bool (nr p q)):=fun h=>by rw[h];rfl
 refine dD [] (fn:=Tryz.f68) Tryz.func68 rfl Tryz.ntmps68 rfl fun g1 w1 M1=>fun g2 w2 M2=>lb 1<|an rfl<|lb 0<|an rfl<|lb 1<|an (fun _=>rfl)<|lb 0<|an (fun _=>rfl)<|lb 1<|an (fun _=>rfl)<|lb 0<|an (fun _=>rfl)<|lb 1<|an (fun _=>rfl)<|lb 0<|an (fun _=>rfl)<|lb 1<|an (fun _=>rfl)<|lb 0<|an (fun _=>rfl)<|lb 1<|an (fun _=>rfl)<|lb 0<|an (fun _=>rfl)<|an (fun h M=>⟨no ?_,M.below⟩) fun h=>?_
 ·cases hs:nr p q with
  | false=>rfl
  | true=>
   obtain⟨a1,a2,a3,a4,a5,a6⟩:=Fw hs;simp[a1,a2,a3,a4,a5,a6] at h
 simp only[Bool.or_eq_false_iff,Bool.not_eq_false',decide_eq_true_eq] at h;obtain⟨⟨⟨⟨⟨Wn,Wk⟩,Wj⟩,Sb⟩,Sc⟩,Zr⟩:=h;have V3:p.conds.length=q.conds.length:=by have:=Wn;omega
 have J3:p.rules.length=q.rules.length:=by have:=Wk;omega
 have J2:p.trans.length=q.trans.length:=by have:=Wj;omega
 have EF:p.aT.length=q.aT.length:=by have:=Sb;omega
 have EG:p.ranges.length=q.ranges.length:=by have:=Sc;omega
 have Zg:p.cons.length=q.cons.length:=by have:=Zr;omega
 refine lr (ι:=Nat) (fun m=>[(5,.bool (true&&au eW (p.conds.take m) (q.conds.take m))),(6,.int .i64 (m:Int))]) (fun m _=>m≤p.conds.length) (fun m=>p.conds.length-m) 0 (an ⟨⟨eB (by rw[eZ];rfl),rfl,trivial⟩,fun M=>⟨M,awY _⟩⟩ ?_);intro m w M hm;refine lb 1<|an rfl<|an (fun h=>?_) fun h=>?_
 ·simp only[decide_eq_true_eq] at h;obtain⟨x,hx⟩:∃ x,p.conds[m]?=some x:=⟨_,awZ (by omega)⟩;obtain⟨y,hy⟩:∃ y,q.conds[m]?=some y:=⟨_,awZ (by omega)⟩;obtain⟨b,o,z,e1,hz,-,hc⟩:=hc8 m x hx;obtain⟨b',o',z',e2,hz',-,hc'⟩:=hd8 m y hy;obtain⟨JA,VA,rfl,-⟩:=hz.open;obtain⟨Va,kv2,rfl,-⟩:=hz'.open;refine dr (by kernel_rfl)<|lb 1<|an (fun _=>rfl)<|ia<|an (fun _=>⟨e1,rfl,by omega⟩)<|lc<|an (fun _=>dH M.below hc)<|lb 0<|an (fun _=>rfl)<|ia<|an (fun _=>⟨e2,rfl,by omega⟩)<|lc<|an (fun _=>dH M.below hc')<|cl<|an (fun _ w' hb' M'=>qp x _ _ _ y (bB.keep M'.below hz) (bB.keep M'.below hz')) fun w2 hb M=>an (by omega) (bk (m+1) ⟨eB (by rw[fq hx hy];simp),rfl,trivial⟩ (fun M=>⟨M,by omega⟩) (by dsimp only;omega))
 simp only[decide_eq_false_iff_not] at h;obtain rfl:m=p.conds.length:=by omega
 refine lr (ι:=Nat) (fun m=>[(5,.bool ((true&&au eW p.conds q.conds)&&au (fun x y=>decide (x=y)) (p.rules.take m) (q.rules.take m))),(7,.int .i64 (m:Int))]) (fun m _=>m≤p.rules.length) (fun m=>p.rules.length-m) 0 (an ⟨⟨eB (by rw[fu V3,eZ,Bool.and_true]),rfl,trivial⟩,fun M=>⟨M,awY _⟩⟩ ?_);intro m w M hm;refine lb 1<|an rfl<|an (fun h=>?_) fun h=>?_
 ·simp only[decide_eq_true_eq] at h;obtain⟨x,y,b,o,b',o',hx,hy,⟨e1,hc⟩,e2,hc'⟩:=dS (f:=aj.cells) (fun _=>rfl) (by decide) hp.rules hq.rules rfl rfl (m:=m) (by omega) J3 M.below;refine dr (by kernel_rfl)<|lb 1<|an (fun _=>rfl)<|ia<|an (fun _=>⟨e1,rfl,by omega⟩)<|lc<|an (fun _=>hc)<|lb 0<|an (fun _=>rfl)<|ia<|an (fun _=>⟨e2,rfl,by omega⟩)<|lc<|an (fun _=>hc')<|ei<|an (fun _=>⟨adB,fun w=>WL x y w⟩) fun w2 hb M=>an (by omega) (bk (m+1) ⟨eB (by rw[fq hx hy,Bool.and_assoc]),rfl,trivial⟩ (fun M=>⟨M,by omega⟩) (by dsimp only;omega))
 simp only[decide_eq_false_iff_not] at h;obtain rfl:m=p.rules.length:=by omega
 refine lr (ι:=Nat) (fun m=>[(5,.bool (((true&&au eW p.conds q.conds)&&au (fun x y=>decide (x=y)) p.rules q.rules)&&au (fun x y=>decide (x=y)) (p.trans.take m) (q.trans.take m))),(8,.int .i64 (m:Int))]) (fun m _=>m≤p.trans.length) (fun m=>p.trans.length-m) 0 (an ⟨⟨eB (by rw[fu J3,eZ,Bool.and_true]),rfl,trivial⟩,fun M=>⟨M,awY _⟩⟩ ?_);intro m w M hm;refine lb 1<|an rfl<|an (fun h=>?_) fun h=>?_
 ·simp only[decide_eq_true_eq] at h;obtain⟨x,y,b,o,b',o',hx,hy,⟨e1,hc⟩,e2,hc'⟩:=dS (f:=bV.cells) (fun _=>rfl) (by decide) hp.trans hq.trans rfl rfl (m:=m) (by omega) J2 M.below;refine dr (by kernel_rfl)<|lb 1<|an (fun _=>rfl)<|ia<|an (fun _=>⟨e1,rfl,by omega⟩)<|lc<|an (fun _=>hc)<|lb 0<|an (fun _=>rfl)<|ia<|an (fun _=>⟨e2,rfl,by omega⟩)<|lc<|an (fun _=>hc')<|ei<|an (fun _=>⟨adA,fun w=>WK x y w⟩) fun w2 hb M=>an (by omega) (bk (m+1) ⟨eB (by rw[fq hx hy,Bool.and_assoc]),rfl,trivial⟩ (fun M=>⟨M,by omega⟩) (by dsimp only;omega))
 simp only[decide_eq_false_iff_not] at h;obtain rfl:m=p.trans.length:=by omega
 refine lr (ι:=Nat) (fun m=>[(5,.bool ((((true&&au eW p.conds q.conds)&&au (fun x y=>decide (x=y)) p.rules q.rules)&&au (fun x y=>decide (x=y)) p.trans q.trans)&&au (fun x y=>decide (x=y)) (p.aT.take m) (q.aT.take m))),(9,.int .i64 (m:Int))]) (fun m _=>m≤p.aT.length) (fun m=>p.aT.length-m) 0 (an ⟨⟨eB (by rw[fu J2,eZ,Bool.and_true]),rfl,trivial⟩,fun M=>⟨M,awY _⟩⟩ ?_);intro m w M hm;refine lb 1<|an rfl<|an (fun h=>?_) fun h=>?_
 ·simp only[decide_eq_true_eq] at h;obtain⟨x,y,b,o,b',o',hx,hy,⟨e1,hc⟩,e2,hc'⟩:=dS (f:=k_.cells) (fun _=>rfl) (by decide) hp.aT hq.aT rfl rfl (m:=m) (by omega) EF M.below;refine dr (by kernel_rfl)<|lb 1<|an (fun _=>rfl)<|ia<|an (fun _=>⟨e1,rfl,by omega⟩)<|lc<|an (fun _=>hc)<|lb 0<|an (fun _=>rfl)<|ia<|an (fun _=>⟨e2,rfl,by omega⟩)<|lc<|an (fun _=>hc')<|ei<|an (fun _=>⟨aa7,fun w=>WO x y w⟩) fun w2 hb M=>an (by omega) (bk (m+1) ⟨eB (by rw[fq hx hy,Bool.and_assoc]),rfl,trivial⟩ (fun M=>⟨M,by omega⟩) (by dsimp only;omega))
 simp only[decide_eq_false_iff_not] at h;obtain rfl:m=p.aT.length:=by omega
 refine lr (ι:=Nat) (fun m=>[(5,.bool (((((true&&au eW p.conds q.conds)&&au (fun x y=>decide (x=y)) p.rules q.rules)&&au (fun x y=>decide (x=y)) p.trans q.trans)&&au (fun x y=>decide (x=y)) p.aT q.aT)&&au (fun x y=>decide (x=y)) (p.ranges.take m) (q.ranges.take m))),(10,.int .i64 (m:Int))]) (fun m _=>m≤p.ranges.length) (fun m=>p.ranges.length-m) 0 (an ⟨⟨eB (by rw[fu EF,eZ,Bool.and_true]),rfl,trivial⟩,fun M=>⟨M,awY _⟩⟩ ?_);intro m w M hm;refine lb 1<|an rfl<|an (fun h=>?_) fun h=>?_
 ·simp only[decide_eq_true_eq] at h;obtain⟨x,y,b,o,b',o',hx,hy,⟨e1,hc⟩,e2,hc'⟩:=dS (f:=lu.cells) (fun _=>rfl) (by decide) hp.ranges hq.ranges rfl rfl (m:=m) (by omega) EG M.below;refine dr (by kernel_rfl)<|lb 1<|an (fun _=>rfl)<|ia<|an (fun _=>⟨e1,rfl,by omega⟩)<|lc<|an (fun _=>hc)<|lb 0<|an (fun _=>rfl)<|ia<|an (fun _=>⟨e2,rfl,by omega⟩)<|lc<|an (fun _=>hc')<|ei<|an (fun _=>⟨aa6,fun w=>WM x y w⟩) fun w2 hb M=>an (by omega) (bk (m+1) ⟨eB (by rw[fq hx hy,Bool.and_assoc]),rfl,trivial⟩ (fun M=>⟨M,by omega⟩) (by dsimp only;omega))
 simp only[decide_eq_false_iff_not] at h;obtain rfl:m=p.ranges.length:=by omega
 refine lr (ι:=Nat) (fun m=>[(5,.bool ((((((true&&au eW p.conds q.conds)&&au (fun x y=>decide (x=y)) p.rules q.rules)&&au (fun x y=>decide (x=y)) p.trans q.trans)&&au (fun x y=>decide (x=y)) p.aT q.aT)&&au (fun x y=>decide (x=y)) p.ranges q.ranges)&&au sC (p.cons.take m) (q.cons.take m))),(11,.int .i64 (m:Int))]) (fun m _=>m≤p.cons.length) (fun m=>p.cons.length-m) 0 (an ⟨⟨eB (by rw[fu EG,eZ,Bool.and_true]),rfl,trivial⟩,fun M=>⟨M,awY _⟩⟩ ?_);intro m w M hm;refine lb 1<|an rfl<|an (fun h=>?_) fun h=>?_
 ·simp only[decide_eq_true_eq] at h;obtain⟨x,hx⟩:∃ x,p.cons[m]?=some x:=⟨_,awZ (by omega)⟩;obtain⟨y,hy⟩:∃ y,q.cons[m]?=some y:=⟨_,awZ (by omega)⟩;obtain⟨b,o,z,e1,hz,-,hc⟩:=ajW m x hx;obtain⟨b',o',z',e2,hz',-,hc'⟩:=ajR m y hy;obtain⟨Ss,rfl,hz1⟩:=hz;obtain⟨es2,rfl,hz2⟩:=hz';obtain⟨JA,VA,rfl,hn1,hk1⟩:=hz1.open;obtain⟨Va,kv2,rfl,hn2,hk2⟩:=hz2.open;obtain⟨_,_,rfl,-⟩:=hn1.get;obtain⟨_,_,rfl,-⟩:=hn2.get;obtain⟨_,_,rfl,-⟩:=hk1.form (by decide);obtain⟨_,_,rfl,-⟩:=hk2.form (by decide);refine dp (by kernel_rfl)<|lb 1<|an rfl<|ia<|an ⟨e1,rfl,by omega⟩<|lc<|an (dH M.below hc)<|lb 0<|an rfl<|ia<|an ⟨e2,rfl,by omega⟩<|lc<|an (dH M.below hc')<|ei<|ei<|an ⟨Qp,Qp⟩<|an ⟨rfl,rfl⟩ fun g3 g4 w2 hb2 M=>?_
  refine lb 0<|an (fun _=>rfl)<|lb 1<|an (fun _=>rfl)<|lb 0<|an (fun _=>rfl)<|lb 1<|an (fun _=>rfl)<|lb 0<|an (fun _=>rfl)<|lb 1<|an (fun _=>rfl)<|lb 0<|an (fun _=>rfl)<|lb 1<|an (fun _=>rfl)<|cl<|an (fun _=>qp x.expr _ _ _ y.expr (bB.keep M.below hz1) (bB.keep M.below hz2)) fun w3 M=>an (by omega) (bk (m+1) ⟨eB (by rw[fq hx hy];unfold sC;simp[Bool.and_assoc]),rfl,trivial⟩ (fun M=>⟨M.only (.cons _ (.cons _ (.refl _))) (.refl _),by omega⟩) (by dsimp only;omega))
 simp only[decide_eq_false_iff_not] at h;obtain rfl:m=p.cons.length:=by omega
 intro M;refine⟨?_,M.below⟩;rw[fu Zg,kI,kI,kI,kI];unfold nr;simp only[Bool.true_and,kQ]
theorem n_(w0:World)(c0 c1 c2 c3 c4 c5 c6 c7 c8 c9 aR aO aN aQ aM aL aP d0 d1 d2 d3 d4 d5 d6 d7 d8 d9 sQ sP sO sM sK sJ sI:Value)(p q:aF)(hp:aK w0 c0 c1 c2 c3 c4 c5 c6 c7 c8 c9 aR aO aN aQ aM aL aP p)(hq:aK w0 d0 d1 d2 d3 d4 d5 d6 d7 d8 d9 sQ sP sO sM sK sJ sI q):Calls Tryz.prog 23 #[.agg #[c0,c1,c2,c3,c4,c5,c6,c7,c8,c9,aR,aO,aN,aQ,aM,aL,aP],.agg #[d0,d1,d2,d3,d4,d5,d6,d7,d8,d9,sQ,sP,sO,sM,sK,sJ,sI]] w0 fun r w'=>r=.returned (.bool (gJ p q))∧awX w0.heap.size w0 w':=by
 obtain⟨apF,apw,rfl,-,aqv,-⟩:=SliceAt.form hp.bL (by decide);obtain⟨apn,apf,rfl,-⟩:=SliceAt.form hq.bL (by decide);obtain⟨apE,apv,rfl,-,aqu,-⟩:=SliceAt.form hp.files (by decide);obtain⟨apm,ape,rfl,-⟩:=SliceAt.form hq.files (by decide);obtain⟨apD,apu,rfl,-,aqt,-⟩:=SliceAt.form hp.asserts (by decide);obtain⟨apl,apd,rfl,-⟩:=SliceAt.form hq.asserts (by decide)
 have hE:gJ p q=((((kE p q&&nr p q)&&decide (p.bL=q.bL))&&decide (p.files=q.files))&&decide (p.asserts=q.asserts)):=by
  unfold gJ nr;simp only[Bool.and_assoc]
 have no:gJ p q=false→Ending.returned (kQ [Value.bool false])=.returned (.bool (gJ p q)):=fun h=>by rw[h];rfl
 refine dD [] (fn:=Tryz.f23) Tryz.func23 rfl Tryz.ntmps23 rfl fun g1 w1 M1=>fun g2 w2 M2=>lb 1<|an rfl<|lb 0<|an rfl<|cl<|an (uE _ _ _ _ _ _ _ _ _ _ _ _ _ _ _ _ _ _ _ _ _ _ _ _ _ _ _ _ _ _ _ _ _ _ _ p q (hp.keep M2.below) (hq.keep M2.below)) fun w3 M3=>lb 1<|an (fun _=>rfl)<|lb 0<|an (fun _=>rfl)<|cl<|an (fun _=>zP _ _ _ _ _ _ _ _ _ _ _ _ _ _ _ _ _ _ _ _ _ _ _ _ _ _ _ _ _ _ _ _ _ _ _ p q (hp.keep M3.below) (hq.keep M3.below)) fun w4 M4=>lb 1<|an (fun _=>rfl)<|lb 0<|an (fun _=>rfl)<|lb 1<|an (fun _=>rfl)<|lb 0<|an (fun _=>rfl)<|lb 1<|an (fun _=>rfl)<|lb 0<|an (fun _=>rfl)<|an (fun h M=>⟨no ?_,M.below⟩) fun h=>?_
 ·rw[hE]
  cases hs:(((kE p q&&nr p q)&&decide (p.bL=q.bL))&&decide (p.files=q.files))&&decide (p.asserts=q.asserts) with
  | false=>rfl
  | true=>
   simp only[aw4,decide_eq_true_eq] at hs;obtain⟨⟨⟨⟨a1,a2⟩,a3⟩,a4⟩,a5⟩:=hs;simp[a1,a2,a3,a4,a5] at h
 simp only[Bool.or_eq_false_iff,Bool.not_eq_false',decide_eq_true_eq] at h;obtain⟨⟨⟨⟨hsy,hru⟩,Zq⟩,Wm⟩,NG⟩:=h;have PD:p.bL.length=q.bL.length:=by have:=Zq;omega
 have J5:p.files.length=q.files.length:=by have:=Wm;omega
 have Cq:p.asserts.length=q.asserts.length:=by have:=NG;omega
 refine lr (ι:=Nat) (fun m=>[(5,.bool (true&&au (fun x y=>decide (x=y)) (p.bL.take m) (q.bL.take m))),(6,.int .i64 (m:Int))]) (fun m _=>m≤p.bL.length) (fun m=>p.bL.length-m) 0 (an ⟨⟨eB (by rw[eZ];rfl),rfl,trivial⟩,fun M=>⟨M,awY _⟩⟩ ?_);intro m w M hm;refine lb 1<|an rfl<|an (fun h=>?_) fun h=>?_
 ·simp only[decide_eq_true_eq] at h;obtain⟨x,y,b,o,b',o',hx,hy,⟨e1,hc⟩,e2,hc'⟩:=dS (f:=kZ.cells) (fun _=>rfl) (by decide) hp.bL hq.bL rfl rfl (m:=m) (by omega) PD M.below;refine dr (by kernel_rfl)<|lb 1<|an (fun _=>rfl)<|ia<|an (fun _=>⟨e1,rfl,by omega⟩)<|lc<|an (fun _=>hc)<|lb 0<|an (fun _=>rfl)<|ia<|an (fun _=>⟨e2,rfl,by omega⟩)<|lc<|an (fun _=>hc')<|ei<|an (fun _=>⟨abe,fun w=>WW x y w⟩) fun w2 hb M=>an (by omega) (bk (m+1) ⟨eB (by rw[fq hx hy,Bool.and_assoc]),rfl,trivial⟩ (fun M=>⟨M,by omega⟩) (by dsimp only;omega))
 simp only[decide_eq_false_iff_not] at h;obtain rfl:m=p.bL.length:=by omega
 refine lr (ι:=Nat) (fun m=>[(5,.bool ((true&&au (fun x y=>decide (x=y)) p.bL q.bL)&&au (fun x y=>decide (x=y)) (p.files.take m) (q.files.take m))),(7,.int .i64 (m:Int))]) (fun m _=>m≤p.files.length) (fun m=>p.files.length-m) 0 (an ⟨⟨eB (by rw[fu PD,eZ,Bool.and_true]),rfl,trivial⟩,fun M=>⟨M,awY _⟩⟩ ?_);intro m w M hm;refine lb 1<|an rfl<|an (fun h=>?_) fun h=>?_
 ·simp only[decide_eq_true_eq] at h;obtain⟨x,y,b,o,b',o',hx,hy,⟨e1,hc⟩,e2,hc'⟩:=dS (f:=lC.cells) (fun _=>rfl) (by decide) hp.files hq.files rfl rfl (m:=m) (by omega) J5 M.below;refine dr (by kernel_rfl)<|lb 1<|an (fun _=>rfl)<|ia<|an (fun _=>⟨e1,rfl,by omega⟩)<|lc<|an (fun _=>hc)<|lb 0<|an (fun _=>rfl)<|ia<|an (fun _=>⟨e2,rfl,by omega⟩)<|lc<|an (fun _=>hc')<|ei<|an (fun _=>⟨abd,fun w=>WV x y w⟩) fun w2 hb M=>an (by omega) (bk (m+1) ⟨eB (by rw[fq hx hy,Bool.and_assoc]),rfl,trivial⟩ (fun M=>⟨M,by omega⟩) (by dsimp only;omega))
 simp only[decide_eq_false_iff_not] at h;obtain rfl:m=p.files.length:=by omega
 refine lr (ι:=Nat) (fun m=>[(5,.bool (((true&&au (fun x y=>decide (x=y)) p.bL q.bL)&&au (fun x y=>decide (x=y)) p.files q.files)&&au (fun x y=>decide (x=y)) (p.asserts.take m) (q.asserts.take m))),(8,.int .i64 (m:Int))]) (fun m _=>m≤p.asserts.length) (fun m=>p.asserts.length-m) 0 (an ⟨⟨eB (by rw[fu J5,eZ,Bool.and_true]),rfl,trivial⟩,fun M=>⟨M,awY _⟩⟩ ?_);intro m w M hm;refine lb 1<|an rfl<|an (fun h=>?_) fun h=>?_
 ·simp only[decide_eq_true_eq] at h;obtain⟨x,y,b,o,b',o',hx,hy,⟨e1,hc⟩,e2,hc'⟩:=dS (f:=lE.cells) (fun _=>rfl) (by decide) hp.asserts hq.asserts rfl rfl (m:=m) (by omega) Cq M.below;refine dr (by kernel_rfl)<|lb 1<|an (fun _=>rfl)<|ia<|an (fun _=>⟨e1,rfl,by omega⟩)<|lc<|an (fun _=>hc)<|lb 0<|an (fun _=>rfl)<|ia<|an (fun _=>⟨e2,rfl,by omega⟩)<|lc<|an (fun _=>hc')<|ei<|an (fun _=>⟨abb,fun w=>WU x y w⟩) fun w2 hb M=>an (by omega) (bk (m+1) ⟨eB (by rw[fq hx hy,Bool.and_assoc]),rfl,trivial⟩ (fun M=>⟨M,by omega⟩) (by dsimp only;omega))
 simp only[decide_eq_false_iff_not] at h;obtain rfl:m=p.asserts.length:=by omega
 intro M;refine⟨?_,M.below⟩;rw[fu Cq,kI,kI,kI,hE,hsy,hru];simp only[Bool.true_and,kQ]
def sA{α:Type}(x y:(α×Int)×Nat):Bool:=decide ([x.1.2]=[y.1.2])
theorem D5{α:Type}(N:List ((α×Int)×Nat)):∀ u∈N.flatMap sw,u.oneCell'=true:=fun u hu=>by
 obtain⟨z,-,hz⟩:=List.mem_flatMap.1 hu;rw[aw5.1 hz];rfl
theorem QX(w0:World)(g1 g2:Nat)(x y:Int)(hx:w0.cell? ⟨g1,0,none⟩=some (.int .u64 x))(hy:w0.cell? ⟨g2,0,none⟩=some (.int .u64 y)):Calls Tryz.prog 76 #[.slice (some ⟨g1,0,none⟩) 1 1,.slice (some ⟨g2,0,none⟩) 1 1] w0 (fun(r:Ending) (w':World)=>r=.returned (.bool (decide ([x]=[y])))∧awX w0.heap.size w0 w'):=by
 exact dD [] (fn:=Tryz.f76) Tryz.func76 rfl Tryz.ntmps76 rfl<|cl<|an (qN _ _ _ [x] [y] (wN hx) (wN hy)) fun w1 M1=>fun M=>⟨rfl,M.below⟩
theorem Ga{α:Type}(w0:World)(base:Nat)(v1 v2:Value)(l1 l2:List ((α×Int)×Nat))(h1:SliceAt w0 v1 1 l1.length (l1.flatMap sw))(h2:SliceAt w0 v2 1 l2.length (l2.flatMap sw))(hN1:cG w0 base l1)(hN2:cG w0 base l2):Calls Tryz.prog 75 #[v1,v2,.func (.func 76) #[] #[]] w0 (fun(r:Ending) (w':World)=>r=.returned (.bool (au sA l1 l2))∧awX w0.heap.size w0 w'):=by
 obtain⟨_,_,rfl,-,hm1,-⟩:=h1.form (by decide);obtain⟨_,_,rfl,-⟩:=h2.form (by decide);refine dD [] (fn:=Tryz.f75) Tryz.func75 rfl Tryz.ntmps75 rfl<|an (fun h M=>⟨rb (tY (by simp at h;omega)).symm,M.below⟩) fun h=>?_
 have hl:l1.length=l2.length:=by simp at h;omega
 refine lr (ι:=Nat) (fun m=>[(17,.int .i64 (m:Int))]) (fun m _=>m≤l1.length∧au sA l1 l2=au sA (l1.drop m) (l2.drop m)) (fun m=>l1.length-m) 0 (an ⟨⟨rfl,trivial⟩,fun M=>⟨M,awY _,rfl⟩⟩ ?_);intro m w M ⟨hm,hI⟩;refine an (fun h3=>?_) fun h3 M=>⟨rb (C8 (by simp at h3;omega) hl hI).symm,M.below⟩
 have hlt:m<l1.length:=by simp at h3;omega
 have hlt2:m<l2.length:=by omega
 obtain⟨x,hx⟩:∃ x,l1[m]?=some x:=⟨_,awZ hlt⟩;obtain⟨y,hy⟩:∃ y,l2[m]?=some y:=⟨_,awZ hlt2⟩;obtain⟨b1,o1,e1,hc1⟩:=SliceAt.elt h1 (fun _=>rfl) (by decide) hx hlt;obtain⟨b2,o2,e2,hc2⟩:=SliceAt.elt h2 (fun _=>rfl) (by decide) hy hlt2;have hwx:=aw0 M.below ((Whole.cell (hN1 x (aw3 hx)).1) 0);have hwy:=aw0 M.below ((Whole.cell (hN2 y (aw3 hy)).1) 0);exact ia<|an ⟨e1,rfl,hlt⟩<|lc (x:=.slice (some ⟨x.2,0,none⟩) 1 1)<|an (dH M.below hc1 0 _ rfl)<|ia<|an ⟨e2,rfl,hlt2⟩<|lc (x:=.slice (some ⟨y.2,0,none⟩) 1 1)<|an (dH M.below hc2 0 _ rfl)<|cl<|an (QX _ x.2 y.2 x.1.2 y.1.2 hwx hwy) fun w5 M5=>an (fun hq M=>⟨rb (KT hx hy hI (by simpa[sA] using hq)).symm,M.below⟩) fun hq=>an (by omega)<|bk (m+1) ⟨rfl,trivial⟩ (fun M=>⟨M,by omega,KS hx hy hI (by simpa[sA] using hq)⟩) (by dsimp only;omega)
def kA(p:aF):aF:={ p with rules:=[],conds:=[],trans:=[] }
def nW(N:List ((bV×Int)×Nat)):List bV:=N.map fun z=>z.1.1
theorem I4{w:World}{v:Value}{N:List ((bV×Int)×Nat)}(h:SliceAt w v 13 N.length (N.flatMap Ea)):SliceAt w v 13 (nW N).length ((nW N).flatMap bV.cells):=by
 unfold nW;rw[aw6,List.flatMap_map];exact h
theorem cG.low{α:Type}{w:World}{b:Nat}{N:List ((α×Int)×Nat)}(h:cG w b N):cG w 0 N:=fun z hz=>⟨(h z hz).1,awY _⟩
theorem D_(N:List ((bV×Int)×Nat)):∀ u∈N.flatMap Ea,u.oneCell'=true:=fun u hu=>by
 obtain⟨z,-,hz⟩:=List.mem_flatMap.1 hu;simp only[Ea,bV.cells,aw7,List.not_mem_nil,or_false] at hz;rcases hz with rfl|rfl|rfl|rfl|rfl|rfl|rfl|rfl|rfl|rfl|rfl|rfl|rfl<;>rfl
def eD(p:aF):List (aj×Int):=p.rules.map fun y=>(y,ez (aZ p.bools.length) p.bools.length p.conds (DH y))
theorem gI.low{w:World}{b:Nat}{v:Value}{l:List (aj×Int)}(h:gI w b v l):gI w 0 v l:=by
 obtain⟨es,h1,h2,h3,h4⟩:=h
 exact⟨es,h1,h2,h3,fun i x y hx hy=>by
  obtain⟨v,e,hs⟩:=h4 i x y hx hy;exact⟨v,e,hs.low (awY _)⟩⟩
theorem FC{p:aF}(h:p.rules.length≤1000):(eD p).length≤1000:=by unfold eD;rw[aw6];exact h
theorem O8{p:aF}(h:p.Ok):∀ y∈eD p,y.1.Ok:=fun y hy=>by
 obtain⟨r,hr,rfl⟩:=aw8.1 hy;exact⟨(h.rules r hr).src,(h.rules r hr).tgt⟩
theorem Ew(w0:World)(c0 c1 c2 c3 c4 c5 c6 c7 c8 c9 aR aO aN aQ aM aL aP:Value)(p:aF)(hp:aK w0 c0 c1 c2 c3 c4 c5 c6 c7 c8 c9 aR aO aN aQ aM aL aP p)(hok:p.Ok)(hn:p.bools.length≤5)(hcl:p.conds.length≤1000)(hcr:p.rules.length≤1000):Calls Tryz.prog 78 #[.agg #[c0,c1,c2,c3,c4,c5,c6,c7,c8,c9,aR,aO,aN,aQ,aM,aL,aP]] w0 fun e w'=>∃ v,e=.returned v∧(gI w' 0 v (eD p)∧awX w0.heap.size w0 w'):=
 (BW w0 c0 c1 c2 c3 c4 c5 c6 c7 c8 c9 aR aO aN aQ aM aL aP p hp hok hn hcl (by omega)).mono fun _ _ ⟨v,e,⟨N,hN,ho,hs⟩,hb⟩=>⟨v,e,(by have h:=(MX ho rfl hs).low;rw[hN] at h;exact h),hb⟩
def OY(p:aF):List (bV×Int):=p.trans.filterMap (DA (aZ p.bools.length) p.bools.length p.conds)
def O5{α:Type}(x y:α×Int):Bool:=decide ([x.2]=[y.2])
def yM(p q:aF):Bool:=gJ (kA p) (kA q)&&((decide ((OY p).map (·.1)=(OY q).map (·.1))&&au O5 (OY p) (OY q))&&(uY (eD p) (eD q)&&uY (eD q) (eD p)))
theorem zB{α β:Type}{f:α→β}{P:β→β→Bool}{P':α→α→Bool}(h:∀ x y,P' x y=P (f x) (f y)):∀ l m:List α,au P' l m=au P (l.map f) (m.map f)
 | [],[]=>rfl
 | [],_::_=>rfl
 | _::_,[]=>rfl
 | x::l,y::m=>by
  show(P' x y&&au P' l m)=(P (f x) (f y)&&au P (l.map f) (m.map f));rw[h,zB h l m]
section
variable {p q:aF} {Np Nq:List ((bV×Int)×Nat)}
theorem abZ(h:gJ (kA p) (kA q)=false):false=yM p q:=by unfold yM;rw[h];rfl
theorem UG(hp:Np.map (·.1)=OY p)(hq:Nq.map (·.1)=OY q):(decide (nW Np=nW Nq)&&au sA Np Nq)=(decide ((OY p).map (·.1)=(OY q).map (·.1))&&au O5 (OY p) (OY q)):=by
 rw[show au sA Np Nq=au O5 (Np.map (·.1)) (Nq.map (·.1)) from zB (f:=fun z:(bV×Int)×Nat=>z.1) (P:=O5) (P':=sA) (fun x y=>rfl) Np Nq,hp,hq];have e:∀ N:List ((bV×Int)×Nat),nW N=(N.map (·.1)).map (·.1):=fun N=>by unfold nW;rw[List.map_map];rfl
 rw[e,e,hp,hq]
theorem abY(hp:Np.map (·.1)=OY p)(hq:Nq.map (·.1)=OY q)(h:((!(decide (nW Np=nW Nq)))||(!(au sA Np Nq)))=true):false=yM p q:=by
 rw[← Bool.not_and,Bool.not_eq_true',UG hp hq] at h;unfold yM;rw[h,Bool.false_and,Bool.and_false]
theorem abX(hp:Np.map (·.1)=OY p)(hq:Nq.map (·.1)=OY q)(h1:gJ (kA p) (kA q)=true)(h:((!(decide (nW Np=nW Nq)))||(!(au sA Np Nq)))=false):(uY (eD p) (eD q)&&uY (eD q) (eD p))=yM p q:=by
 rw[← Bool.not_and,Bool.not_eq_false',UG hp hq] at h;unfold yM;rw[h,h1,Bool.true_and,Bool.true_and]
end
theorem AA{w:World}{c0 c1 c2 c3 c4 c5 c6 c7 c8 c9 aR aO aN aQ aM aL aP:Value}{p:aF}(h:aK w c0 c1 c2 c3 c4 c5 c6 c7 c8 c9 aR aO aN aQ aM aL aP p):aK w c0 c1 c2 c3 c4 c5 c6 c7 (.slice none 0 0) (.slice none 0 0) (.slice none 0 0) aO aN aQ aM aL aP (kA p):=
 { h with conds:=⟨[],rfl,by simp,SliceAt.nil _ _,by simp⟩,rules:=SliceAt.nil _ _,trans:=SliceAt.nil _ _ }
theorem UH(w0:World)(c0 c1 c2 c3 c4 c5 c6 c7 c8 c9 aR aO aN aQ aM aL aP d0 d1 d2 d3 d4 d5 d6 d7 d8 d9 sQ sP sO sM sK sJ sI:Value)(p q:aF)(hp:aK w0 c0 c1 c2 c3 c4 c5 c6 c7 c8 c9 aR aO aN aQ aM aL aP p)(hq:aK w0 d0 d1 d2 d3 d4 d5 d6 d7 d8 d9 sQ sP sO sM sK sJ sI q)(Zf:p.Ok)(Ze:q.Ok)(hnp:p.bools.length≤5)(af8:p.conds.length≤1000)(ajU:p.trans.length≤4096)(hnq:q.bools.length≤5)(af7:q.conds.length≤1000)(ajT:q.trans.length≤4096)(acU:p.rules.length≤1000)(acT:q.rules.length≤1000):Calls Tryz.prog 26 #[.agg #[c0,c1,c2,c3,c4,c5,c6,c7,c8,c9,aR,aO,aN,aQ,aM,aL,aP],.agg #[d0,d1,d2,d3,d4,d5,d6,d7,d8,d9,sQ,sP,sO,sM,sK,sJ,sI]] w0 (fun(r:Ending) (w':World)=>r=.returned (.bool (yM p q))∧awX w0.heap.size w0 w'):=by
 obtain⟨_,_,_,_,_,_,_,_,_,_,_,_,_,_,_,_,_,_,_,_,_,_,_,_,_,_,_,_,_,_,_,_,_,_,rfl,rfl,rfl,rfl,rfl,rfl,rfl,rfl,rfl,rfl,rfl,rfl,rfl,rfl,rfl,rfl,rfl⟩:=hp.open;obtain⟨_,_,_,_,_,_,_,_,_,_,_,_,_,_,_,_,_,_,_,_,_,_,_,_,_,_,_,_,_,_,_,_,_,_,rfl,rfl,rfl,rfl,rfl,rfl,rfl,rfl,rfl,rfl,rfl,rfl,rfl,rfl,rfl,rfl,rfl⟩:=hq.open;refine dD [] (fn:=Tryz.f26) Tryz.func26 rfl Tryz.ntmps26 rfl<|fun g1 w1 M1=>fun g2 w2 M2=>dp (by kernel_rfl)<|lb 1<|an rfl<|lb 0<|an rfl<|ei<|ei<|an ⟨lJ,lJ⟩<|an ⟨rfl,rfl⟩ fun g3 g4 w3 sG M3=>?_
 refine lb 0<|an ⟨rfl,rfl⟩ fun w4 M4=>lb 0<|an ⟨rfl,rfl⟩ fun w5 M5=>lb 0<|an ⟨rfl,rfl⟩ fun w6 M6=>lb 1<|an ⟨rfl,rfl⟩ fun w7 M7=>lb 1<|an ⟨rfl,rfl⟩ fun w8 M8=>lb 1<|an ⟨rfl,rfl⟩ fun w9 M9=>lb 0<|an rfl<|lb 1<|an rfl<|cl<|an (F9 _ _ _ _ _ _ _ _ _ _ _ _ _ _ _ _ _ _ _ _ _ _ _ _ _ _ _ _ _ _ _ _ _ _ _ (kA p) (kA q) (AA (hp.keep M9.below)) (AA (hq.keep M9.below))) fun rz nI=>an (fun h1 M=>⟨rb (abZ (by simpa using h1)).symm,M.below⟩) fun h1=>?_
 refine lb 3<|an rfl<|cf nI (pJ _ _ _ _ _ _ _ _ _ _ _ _ _ _ _ _ _ _ p (hp.keep nI.below) Zf hnp af8 ajU) fun _ Dp ⟨tp,up,Np,hv,agl,hop,hwp,hNp⟩ Nz M11=>?_
 subst hv;refine lb 2<|an rfl<|cf M11 (pJ _ _ _ _ _ _ _ _ _ _ _ _ _ _ _ _ _ _ q (hq.keep M11.below) Ze hnq af7 ajT) fun _ Ie ⟨tq,uq,Nq,hv,agk,hoq,hwq,hNq⟩ J9 EW=>?_
 subst hv;refine cb EW (zj _ _ _ (nW Np) (nW Nq) (I4 ((SliceAt.bC hop (D_ Np)).keep J9)) (I4 (SliceAt.bC hoq (D_ Nq)))) fun LK Zp zC=>cl<|an (fun _=>Ga _ 0 _ _ Np Nq ((SliceAt.bC hwp (D5 Np)).keep (J9.trans (Zp.mono J9.size))) ((SliceAt.bC hwq (D5 Nq)).keep Zp) (hNp.keep (J9.trans (Zp.mono J9.size))).low (hNq.keep Zp).low) fun XH Lg=>an (fun h2 M=>⟨rb (abY agl agk h2).symm,M.below⟩) fun h2=>?_
 refine dr (by kernel_rfl)<|lb 3<|an rfl<|cr (fun u w=>gI w 0 u (eD p))<|an (fun _ _ _ h hb=>h.keep hb)<|an (fun w' hb' M'=>Ew _ _ _ _ _ _ _ _ _ _ _ _ _ _ _ _ _ _ p (hp.keep M'.below) Zf hnp af8 acU)<|lb 2<|an rfl<|cr (fun u w=>gI w 0 u (eD q))<|an (fun _ _ _ h hb=>h.keep hb)<|an (fun w' hb' M'=>Ew _ _ _ _ _ _ _ _ _ _ _ _ _ _ _ _ _ _ q (hq.keep M'.below) Ze hnq af7 acT)<|mva (R:=fun u w=>gI w 0 u (eD p)) (fun _ _ _ h hb=>h.keep hb)<|mva (R:=fun u w=>gI w 0 u (eD q)) (fun _ _ _ h hb=>h.keep hb)<|fun u1 u2 Qz hR aqY Ij=>?_
 have hLp:gI Qz 0 u2 (eD p):=hR.1;have hLq:gI Qz 0 u1 (eD q):=hR.2;exact cb Ij (uX _ 0 _ (eD q) hLq (FC acT) (O8 Ze) _ (eD p) hLp (FC acU) (O8 Zf)) fun w16 agb Og=>cl<|an (fun _=>uX _ 0 _ (eD p) (hLp.keep agb) (FC acU) (O8 Zf) _ (eD q) (hLq.keep agb) (FC acT) (O8 Ze)) fun w17 Z6 M=>⟨rb (abX agl agk (by simpa using h1) h2).symm,M.below⟩
end Go.Proofs.YtdcofoaihmongaaGreat
namespace Go.Proofs.YtdcofoaihmongaaGreat
section
variable {α:Type} (J:α→α→Option α)
def eT(a:α):List α→Option (α×List α)
 | []=>none
 | b::r=>match J a b with
  | some c=>some (c,r)
  | none=>(eT a r).map fun z=>(z.1,b::z.2)
def cH:List α→Option (List α)
 | []=>none
 | a::r=>match eT J a r with
  | some z=>some (z.1::z.2)
  | none=>(cH r).map (a::·)
def MO:Nat→List α→List α
 | 0,l=>l
 | n+1,l=>match cH J l with
  | some l'=>MO n l'
  | none=>l
def tF(l:List α):List α:=MO J l.length l
theorem Cz{a:α}:∀ {l:List α} {z:α×List α},eT J a l=some z→z.2.length+1=l.length
 | [],_,h=>by cases h
 | b::r,z,h=>by
  unfold eT at h
  cases e:J a b with
  | some c=>rw[e] at h;obtain rfl:=aw1 h;rfl
  | none=>
   rw[e] at h
   cases e2:eT J a r with
   | none=>rw[e2] at h;cases h
   | some y=>rw[e2] at h;obtain rfl:=aw1 h;have:=Cz e2;simp;omega
theorem jE:∀ {l l':List α},cH J l=some l'→l'.length+1=l.length
 | [],_,h=>by cases h
 | a::r,l',h=>by
  unfold cH at h
  cases e:eT J a r with
  | some z=>rw[e] at h;obtain rfl:=aw1 h;have:=Cz J e;simp;omega
  | none=>
   rw[e] at h
   cases e2:cH J r with
   | none=>rw[e2] at h;cases h
   | some y=>rw[e2] at h;obtain rfl:=aw1 h;have:=jE e2;simp;omega
theorem uR{l l':List α}(h:cH J l=some l'):tF J l=tF J l':=by
 unfold tF;have:=jE J h;rw[← this,MO,h]
theorem uT{l:List α}(h:cH J l=none):tF J l=l:=by
 unfold tF
 cases l with
 | nil=>rfl
 | cons a r=>rw[List.length_cons,MO,h]
def Dh:List α→List α→Prop
 | [],_=>True
 | x::p,r=>(∀ y∈p++r,J x y=none)∧Dh p r
theorem qJ{a:α}:∀ {l:List α},(∀ y∈l,J a y=none)→eT J a l=none
 | [],_=>rfl
 | b::r,h=>by unfold eT;rw[h b (by simp),qJ fun y hy=>h y (by simp[hy])];rfl
theorem EI{a b c:α}:∀ {l r:List α},(∀ y∈l,J a y=none)→J a b=some c→eT J a (l++b::r)=some (c,l++r)
 | [],r,_,h=>by show eT J a (b::r)=_;unfold eT;rw[h];rfl
 | x::l,r,hl,h=>by
  show eT J a (x::(l++b::r))=_;unfold eT;rw[hl x (by simp),EI (fun y hy=>hl y (by simp[hy])) h];rfl
theorem Ep:∀ {p r:List α},Dh J p r→cH J (p++r)=(cH J r).map (p++·)
 | [],r,_=>by cases h:cH J r<;>simp[h]
 | x::p,r,h=>by
  show cH J (x::(p++r))=_
  have e:cH J (x::(p++r))=(cH J (p++r)).map (x::·):=by
   rw[cH,qJ J h.1]
  rw[e,Ep h.2];cases cH J r<;>rfl
theorem BP:∀ {p:List α},Dh J p []→cH J p=none
 | [],_=>rfl
 | x::p,h=>by unfold cH;rw[qJ J (by simpa using h.1),BP h.2];rfl
theorem Jx{p m r:List α}{a b c:α}(hp:Dh J p (a::(m++b::r)))(hm:∀ y∈m,J a y=none)(h:J a b=some c):cH J (p++a::(m++b::r))=some (p++c::(m++r)):=by
 rw[Ep J hp];unfold cH;rw[EI J hm h];rfl
theorem Dh.append{p q r:List α}(h1:Dh J p (q++r))(h2:Dh J q r):Dh J (p++q) r:=by
 induction p with
 | nil=>exact h2
 | cons x p ih=>exact⟨fun y hy=>h1.1 y (by simpa using hy),ih h1.2⟩
theorem Dh.left{p q r:List α}(h:Dh J (p++q) r):Dh J p (q++r):=by
 induction p with
 | nil=>trivial
 | cons x p ih=>exact⟨fun y hy=>h.1 y (by simpa using hy),ih h.2⟩
theorem Dh.right{p q r:List α}(h:Dh J (p++q) r):Dh J q r:=by
 induction p with
 | nil=>exact h
 | cons x p ih=>exact ih h.2
theorem Dh.mono{p r r':List α}(h:Dh J p r)(hr:∀ y∈r',y∈r):Dh J p r':=by
 induction p with
 | nil=>trivial
 | cons x p ih=>exact⟨fun y hy=>h.1 y (by
  rcases aw9.1 hy with hy|hy
  ·exact aw9.2 (.inl hy)
  ·exact aw9.2 (.inr (hr y hy))),ih h.2⟩
def seg(f:Nat→Option α)(i n:Nat):List α:=(List.range' i (n-i)).filterMap f
theorem Ab(f:Nat→Option α){i n:Nat}(h:n≤i):seg f i n=[]:=by unfold seg;rw[Nat.sub_eq_zero_of_le h];rfl
theorem jg(f:Nat→Option α){i n:Nat}(h:i<n):seg f i n=(f i).toList++seg f (i+1) n:=by
 unfold seg;rw[show n-i=(n-(i+1))+1 by omega,List.range'_succ,List.filterMap_cons];cases f i<;>rfl
theorem iR(f:Nat→Option α){i j n:Nat}(h1:i≤j)(h2:j≤n):seg f i n=seg f i j++seg f j n:=by
 unfold seg;have h:=List.range'_append_1 (s:=i) (m:=j-i) (n:=n-j);rw[show i+(j-i)=j by omega,show j-i+(n-j)=n-i by omega] at h;rw[← aw_,h]
theorem wO{f g:Nat→Option α}{i n:Nat}(h:∀ k,i≤k→k<n→f k=g k):seg f i n=seg g i n:=by
 unfold seg
 have key:∀ l:List Nat,(∀ k∈l,f k=g k)→l.filterMap f=l.filterMap g:=by
  intro l
  induction l with
  | nil=>intro _;rfl
  | cons x l ih=>intro h;rw[List.filterMap_cons,List.filterMap_cons,h x (by simp),ih fun k hk=>h k (by simp[hk])]
 refine key _ fun k hk=>?_
 rw[List.mem_range'_1] at hk;exact h k hk.1 (by omega)
theorem Pt{f:Nat→Option α}{i n:Nat}{y:α}:y∈seg f i n↔∃ k,i≤k∧k<n∧f k=some y:=by
 unfold seg;rw[List.mem_filterMap];constructor
 ·rintro⟨k,hk,e⟩;rw[List.mem_range'_1] at hk;exact⟨k,hk.1,by omega,e⟩
 ·rintro⟨k,h1,h2,e⟩;exact⟨k,List.mem_range'_1.2 ⟨h1,by omega⟩,e⟩
def NP(f:Nat→Option α)(n i e:Nat):Prop:=∀ h x k y,h<i→f h=some x→h<k→k<n→k≠e→f k=some y→J x y=none
theorem Vg{f:Nat→Option α}{n:Nat}:∀ {i s:Nat},s≤i→i≤n→(∀ h x k y,s≤h→h<i→f h=some x→h<k→k<n→f k=some y→J x y=none)→Dh J (seg f s i) (seg f i n):=by
 intro i s hsi hin H;obtain⟨d,hd⟩:∃ d,d=i-s:=⟨_,rfl⟩
 induction d generalizing s with
 | zero=>rw[Ab f (by omega)];trivial
 | succ d ih=>
  have hlt:s<i:=by omega
  have h2:=ih (s:=s+1) (by omega) (fun h x k y h1=>H h x k y (by omega)) (by omega);rw[jg f hlt]
  cases e:f s with
  | none=>exact h2
  | some x=>
   refine⟨fun y hy=>?_,h2⟩
   change y∈seg f (s+1) i++seg f i n at hy
   rw[← iR f (by omega) hin] at hy;obtain⟨k,k1,k2,k3⟩:=Pt.1 hy;exact H s x k y (Nat.le_refl _) hlt e (by omega) k2 k3
def kD(f:Nat→Option α)(i:Nat)(v:Option α):Nat→Option α:=fun k=>if k=i then v else f k
theorem rA(f:Nat→Option α)(i:Nat)(v:Option α):kD f i v i=v:=if_pos rfl
theorem fI(f:Nat→Option α){i k:Nat}(v:Option α)(h:k≠i):kD f i v k=f k:=if_neg h
theorem Jg{f:Nat→Option α}{n i k:Nat}{a b c:α}(hi:i<k)(hk:k<n)(ha:f i=some a)(hb:f k=some b)(hc:J a b=some c)
 (hp:NP J f n i n) (hm:∀ j y,i<j→j<k→f j=some y→J a y=none):cH J (seg f 0 n)=some (seg (kD (kD f i (some c)) k none) 0 n):=by
 have e1:seg f 0 n=seg f 0 i++a::(seg f (i+1) k++b::seg f (k+1) n):=by
  rw[iR f (awY i) (by omega:i≤n),jg f (by omega:i<n),ha,iR f (by omega:i+1≤k) (by omega:k≤n),jg f hk,hb];rfl
 have e2:seg (kD (kD f i (some c)) k none) 0 n=seg f 0 i++c::(seg f (i+1) k++seg f (k+1) n):=by
  rw[iR _ (awY i) (by omega:i≤n),jg _ (by omega:i<n),iR _ (by omega:i+1≤k) (by omega:k≤n),jg _ hk,rA,fI _ _ (by omega:i≠k),rA,
   wO (g:=f) (i:=0) (n:=i) (fun j h1 h2=>by rw[fI _ _ (by omega),fI _ _ (by omega)]),
   wO (g:=f) (i:=i+1) (n:=k) (fun j h1 h2=>by rw[fI _ _ (by omega),fI _ _ (by omega)]),
   wO (g:=f) (i:=k+1) (n:=n) (fun j h1 h2=>by rw[fI _ _ (by omega),fI _ _ (by omega)])];rfl
 rw[e1,e2];refine Jx J ?_ (fun y hy=>?_) hc
 ·have h:=Vg J (f:=f) (n:=n) (awY i) (by omega) (fun h x k y _ h1 h2 h3 h4 h5=>hp h x k y h1 h2 h3 h4 (by omega) h5);rw[jg f (by omega:i<n),ha,iR f (by omega:i+1≤k) (by omega:k≤n),jg f hk,hb] at h;exact h
 ·obtain⟨j,j1,j2,j3⟩:=Pt.1 hy;exact hm j y (by omega) j2 j3
theorem NP.joined{f:Nat→Option α}{n i k:Nat}{c:α}(hp:NP J f n i n):NP J (kD (kD f i (some c)) k none) n i i:=by
 intro h x j y h1 h2 h3 h4 h5 h6;have hj:j≠k:=fun e=>by subst e;rw[rA] at h6;cases h6
 rw[fI _ _ hj,fI _ _ h5] at h6;have hh:h≠k:=fun e=>by subst e;rw[rA] at h2;cases h2
 rw[fI _ _ hh,fI _ _ (by omega)] at h2;exact hp h x j y h1 h2 h3 h4 (by omega) h6
end
end Go.Proofs.YtdcofoaihmongaaGreat
namespace Go.Proofs.YtdcofoaihmongaaGreat
open Go Go.RowKit
def ay.or(x y:ay):ay:=⟨x.a|||y.a,x.b|||y.b,x.c|||y.c,x.d|||y.d⟩
def orW(m:Nat)(x y:ay)(i:Nat):Nat:=if i<m then x.word i|||y.word i else x.word i
def aD(a b:aj):Option aj:=
 if (((!decide (a.kind=b.kind)||!decide (a.cls=b.cls))||!decide (a.cond=b.cond))||!(a.self == b.self))=true then none
 else if (decide (a.src=b.src)&&decide (a.tgt=b.tgt))=true then some { a with perms:=bits .or .u32 a.perms b.perms }
 else if (decide (a.perms=b.perms)&&decide (a.src=b.src))=true then some { a with tgt:=a.tgt.or b.tgt }
 else if (decide (a.perms=b.perms)&&decide (a.tgt=b.tgt))=true then some { a with src:=a.src.or b.src }
 else none
theorem join_none{a b:aj}(h:aD a b=none):Ending.returned (.tuple #[.agg #[.int .i64 a.kind,.int .u64 a.src.a,.int .u64 a.src.b,.int .u64 a.src.c,.int .u64 a.src.d,.int .u64 a.tgt.a,.int .u64 a.tgt.b,.int .u64 a.tgt.c,.int .u64 a.tgt.d,.bool a.self,.int .i64 a.cls,.int .u32 a.perms,.int .i64 a.cond],.bool false])=.returned (.tuple #[.agg #[.int .i64 (((aD a b).getD a).kind),.int .u64 (((aD a b).getD a).src.a),.int .u64 (((aD a b).getD a).src.b),.int .u64 (((aD a b).getD a).src.c),.int .u64 (((aD a b).getD a).src.d),.int .u64 (((aD a b).getD a).tgt.a),.int .u64 (((aD a b).getD a).tgt.b),.int .u64 (((aD a b).getD a).tgt.c),.int .u64 (((aD a b).getD a).tgt.d),.bool (((aD a b).getD a).self),.int .i64 (((aD a b).getD a).cls),.int .u32 (((aD a b).getD a).perms),.int .i64 (((aD a b).getD a).cond)],.bool (aD a b).isSome]):=by rw[h];rfl
theorem join_some{a b c:aj}(h:aD a b=some c):Ending.returned (.tuple #[.agg #[.int .i64 c.kind,.int .u64 c.src.a,.int .u64 c.src.b,.int .u64 c.src.c,.int .u64 c.src.d,.int .u64 c.tgt.a,.int .u64 c.tgt.b,.int .u64 c.tgt.c,.int .u64 c.tgt.d,.bool c.self,.int .i64 c.cls,.int .u32 c.perms,.int .i64 c.cond],.bool true])=.returned (.tuple #[.agg #[.int .i64 (((aD a b).getD a).kind),.int .u64 (((aD a b).getD a).src.a),.int .u64 (((aD a b).getD a).src.b),.int .u64 (((aD a b).getD a).src.c),.int .u64 (((aD a b).getD a).src.d),.int .u64 (((aD a b).getD a).tgt.a),.int .u64 (((aD a b).getD a).tgt.b),.int .u64 (((aD a b).getD a).tgt.c),.int .u64 (((aD a b).getD a).tgt.d),.bool (((aD a b).getD a).self),.int .i64 (((aD a b).getD a).cls),.int .u32 (((aD a b).getD a).perms),.int .i64 (((aD a b).getD a).cond)],.bool (aD a b).isSome]):=by rw[h];rfl
theorem D7(w0:World)(x y:ay)(hx:x.Ok)(hy:y.Ok):Calls Tryz.prog 227 #[.agg #[.int .u64 x.a,.int .u64 x.b,.int .u64 x.c,.int .u64 x.d],.agg #[.int .u64 y.a,.int .u64 y.b,.int .u64 y.c,.int .u64 y.d]] w0 (fun(r:Ending) (w':World)=>r=.returned (.agg #[.int .u64 ((x.or y).a),.int .u64 ((x.or y).b),.int .u64 ((x.or y).c),.int .u64 ((x.or y).d)])∧awX w0.heap.size w0 w'):=by
 refine dD [] (fn:=Tryz.f227) Tryz.func227 rfl Tryz.ntmps227 rfl<|fun gx w1 M1=>fun gy w2 M2=>ei<|an Im fun go w3 M3=>lp (ι:=Nat) (fun m=>[(6,.int .i64 (m:Int))]) (fun m=>[(go,54,#[.int .u64 0,.int .u64 0,.int .u64 0,.int .u64 0]),(gy,54,#[.int .u64 y.a,.int .u64 y.b,.int .u64 y.c,.int .u64 y.d]),(gx,54,#[.int .u64 ((orW m x y 0:Nat):Int),.int .u64 ((orW m x y 1:Nat):Int),.int .u64 ((orW m x y 2:Nat):Int),.int .u64 ((orW m x y 3:Nat):Int)])]) (fun _=>[]) (fun m _=>m≤4) (fun m=>4-m) 0 (an ⟨⟨rfl,trivial⟩,fun M=>⟨M,awY _⟩⟩ ?_)
 intro m w M hm;refine an (fun h=>?_) fun h=>?_
 ·have hlt:m<4:=by simp at h;omega
  obtain rfl|rfl|rfl|rfl:m=0∨m=1∨m=2∨m=3:=by omega
  all_goals
   refine dr (by kernel_rfl)<|ei<|an ⟨rfl,by decide⟩<|lb 2<|an rfl<|ei<|an ⟨rfl,by decide⟩<|lb 1<|an rfl<|ei<|an rfl<|ei<|an ⟨rfl,by decide⟩<|fun w hb M=>lb 2<|an ⟨rfl,rfl⟩ fun w M=>an (by omega)<|bk _ ⟨rfl,trivial⟩ (fun M=>⟨M.cast ?_ rfl,by decide⟩) (by decide)
  ·exact congrArg (fun v:Int=>[(_:Bx),_,(gx,54,(#[Value.int .u64 v,_,_,_]:Array Value))]) (bits_or_u64_nat _ _ hx.a hy.a)
  ·exact congrArg (fun v:Int=>[(_:Bx),_,(gx,54,(#[_,Value.int .u64 v,_,_]:Array Value))]) (bits_or_u64_nat _ _ hx.b hy.b)
  ·exact congrArg (fun v:Int=>[(_:Bx),_,(gx,54,(#[_,_,Value.int .u64 v,_]:Array Value))]) (bits_or_u64_nat _ _ hx.c hy.c)
  ·exact congrArg (fun v:Int=>[(_:Bx),_,(gx,54,(#[_,_,_,Value.int .u64 v]:Array Value))]) (bits_or_u64_nat _ _ hx.d hy.d)
 obtain rfl:m=4:=by simp at h;omega
 exact lb 2<|an rfl<|lb 0<|an ⟨rfl,rfl⟩ fun w M=>ei (x:=0)<|an rfl fun M=>⟨rfl,M.below⟩
theorem JV(w0:World)(a b:aj)(ha:a.Ok)(hb:b.Ok):Calls Tryz.prog 169 #[.agg #[.int .i64 a.kind,.int .u64 a.src.a,.int .u64 a.src.b,.int .u64 a.src.c,.int .u64 a.src.d,.int .u64 a.tgt.a,.int .u64 a.tgt.b,.int .u64 a.tgt.c,.int .u64 a.tgt.d,.bool a.self,.int .i64 a.cls,.int .u32 a.perms,.int .i64 a.cond],.agg #[.int .i64 b.kind,.int .u64 b.src.a,.int .u64 b.src.b,.int .u64 b.src.c,.int .u64 b.src.d,.int .u64 b.tgt.a,.int .u64 b.tgt.b,.int .u64 b.tgt.c,.int .u64 b.tgt.d,.bool b.self,.int .i64 b.cls,.int .u32 b.perms,.int .i64 b.cond]] w0 (fun(r:Ending) (w':World)=>r=.returned (.tuple #[.agg #[.int .i64 (((aD a b).getD a).kind),.int .u64 (((aD a b).getD a).src.a),.int .u64 (((aD a b).getD a).src.b),.int .u64 (((aD a b).getD a).src.c),.int .u64 (((aD a b).getD a).src.d),.int .u64 (((aD a b).getD a).tgt.a),.int .u64 (((aD a b).getD a).tgt.b),.int .u64 (((aD a b).getD a).tgt.c),.int .u64 (((aD a b).getD a).tgt.d),.bool (((aD a b).getD a).self),.int .i64 (((aD a b).getD a).cls),.int .u32 (((aD a b).getD a).perms),.int .i64 (((aD a b).getD a).cond)],.bool (aD a b).isSome])∧awX w0.heap.size w0 w'):=by
 refine dD [] (fn:=Tryz.f169) Tryz.func169 rfl Tryz.ntmps169 rfl<|fun g1 w1 M1=>fun g2 w2 M2=>ei<|an mJ fun g3 w3 M3=>lb 2<|an rfl<|lb 1<|an rfl<|lb 2<|an (fun _=>rfl)<|lb 1<|an (fun _=>rfl)<|lb 2<|an (fun _=>rfl)<|lb 1<|an (fun _=>rfl)<|lb 2<|an (fun _=>rfl)<|lb 1<|an (fun _=>rfl)<|an (fun h1=>?_) fun h1=>?_
 ·exact lb 2<|an rfl<|lb 0<|an ⟨rfl,rfl⟩ fun w4 M4=>ei (x:=0)<|an rfl fun M=>⟨join_none (by unfold aD;rw[if_pos h1]),M.below⟩
 refine lb 2<|an rfl<|lb 1<|an rfl<|ei (x:=decide (a.src=b.src))<|an ⟨rV,fun w=>pK a.src b.src w⟩<|lb 2<|an (fun _=>rfl)<|lb 1<|an (fun _=>rfl)<|ei (x:=decide (a.tgt=b.tgt))<|an (fun _=>⟨rV,fun w=>pK a.tgt b.tgt w⟩)<|an (fun h2=>?_) fun h2=>?_
 ·exact lb 2<|an rfl<|lb 1<|an rfl<|ei (x:=bits .or .u32 a.perms b.perms)<|an rfl<|lb 2<|an ⟨rfl,rfl⟩ fun w5 M5=>lb 2<|an rfl<|lb 0<|an ⟨rfl,rfl⟩ fun w6 M6=>ei (x:=0)<|an rfl fun M=>⟨join_some (by unfold aD;rw[if_neg (by rw[h1];decide),if_pos h2]),M.below⟩
 refine lb 2<|an rfl<|lb 1<|an rfl<|lb 2<|an (fun _=>rfl)<|lb 1<|an (fun _=>rfl)<|ei (x:=decide (a.src=b.src))<|an (fun _=>⟨rV,fun w=>pK a.src b.src w⟩)<|an (fun h3=>?_) fun h3=>?_
 ·exact lb 2<|an rfl<|lb 1<|an rfl<|cl<|an (D7 _ a.tgt b.tgt ha.tgt hb.tgt) fun w7 M7=>lb 2<|an ⟨rfl,rfl⟩ fun w8 M8=>lb 2<|an rfl<|lb 0<|an ⟨rfl,rfl⟩ fun w9 M9=>ei (x:=0)<|an rfl fun M=>⟨join_some (by unfold aD;rw[if_neg (by rw[h1];decide),if_neg (by rw[h2];decide),if_pos h3]),M.below⟩
 refine lb 2<|an rfl<|lb 1<|an rfl<|lb 2<|an (fun _=>rfl)<|lb 1<|an (fun _=>rfl)<|ei (x:=decide (a.tgt=b.tgt))<|an (fun _=>⟨rV,fun w=>pK a.tgt b.tgt w⟩)<|an (fun h4=>?_) fun h4=>?_
 ·exact lb 2<|an rfl<|lb 1<|an rfl<|cl<|an (D7 _ a.src b.src ha.src hb.src) fun rz nI=>lb 2<|an ⟨rfl,rfl⟩ fun Dp M11=>lb 2<|an rfl<|lb 0<|an ⟨rfl,rfl⟩ fun Ie EW=>ei (x:=0)<|an rfl fun M=>⟨join_some (by unfold aD;rw[if_neg (by rw[h1];decide),if_neg (by rw[h2];decide),if_neg (by rw[h3];decide),if_pos h4]),M.below⟩
 exact lb 2<|an rfl<|lb 0<|an ⟨rfl,rfl⟩ fun LK zC=>ei (x:=0)<|an rfl fun M=>⟨join_none (by unfold aD;rw[if_neg (by rw[h1];decide),if_neg (by rw[h2];decide),if_neg (by rw[h3];decide),if_neg (by rw[h4];decide)]),M.below⟩
section
variable {ops:Array Oper} {Q:Exit→Act→World→Prop} {rest:List Oper} {a:Act} {B:Nat} {w w0:World} {o:Oper} {bs:List Bx} {rs:List Rw} {mb:Nat} {L:List (Int×Value)}
theorem aiT(hg:o.guard=none){t e:TypeId}{m x:Operand}{k:Int}(ho:o.op=.call { callee:=.builtin .delete,args:=#[m,x],argTypes:=#[t,3] })(ht:Tryz.prog.underlying t=some (.map 3 e))(hm:a.eval m=.map (some mb))(hx:a.eval x=.int .i64 k)(hk:iX k)(hd:o.dst=none)(M:aW B w0 w bs rs)(i:Nat)(h:bs[i]?=some (mb,9003,eF L))(hin:(jU L k).isSome=true)
 (next:∀ w',aW B w0 w' (bs.set i (mb,9003,eF (gW L k))) rs→wpList Tryz.prog ops Q rest a w'):wpList Tryz.prog ops Q (o::rest) a w:=
 rZ w hg m x t 3 ho _ _ hm hx _ (M.aiK ht i h hk hin) fun w' M'=>by
  rw[hd];exact next w' M'
end
def lval(z:(aj×Int)×Nat):Value:=.agg (mV z).toArray
def Ik(N:List ((aj×Int)×Nat))(A:Nat→Bool)(L:List (Int×Value)):Prop:=∀ k:Nat,jU L (k:Int)=if A k=true then (N[k]?).map lval else none
section
variable {N:List ((aj×Int)×Nat)} {A A':Nat→Bool} {L:List (Int×Value)} {m:Nat} {z:(aj×Int)×Nat}
theorem Ik.congr(h:Ik N A L)(e:∀ k,k<N.length→A' k=A k):Ik N A' L:=fun k=>by
 rw[h k];by_cases hk:k<N.length
 ·rw[e k hk]
 ·rw[List.getElem?_eq_none (by omega)];split<;>split<;>rfl
theorem Ik.put(h:Ik N A L)(hz:N[m]?=some z):Ik N (fun k=>decide (k=m)||A k) (((m:Int),lval z)::gW L (m:Int)):=fun k=>by
 rw[Al];by_cases e:k=m
 ·subst e;simp[hz]
 ·rw[if_neg (by omega),h k];simp[e]
theorem Ik.cut(h:Ik N A L):Ik N (fun k=>A k&&!decide (k=m)) (gW L (m:Int)):=fun k=>by
 rw[FU];by_cases e:k=m
 ·subst e;simp
 ·rw[if_neg (by omega),h k];simp[e]
theorem Ik.yes(h:Ik N A L){k:Nat}(hA:A k=true)(hz:N[k]?=some z):jU L (k:Int)=some (lval z):=by rw[h k,if_pos hA,hz];rfl
theorem Ik.no(h:Ik N A L){k:Nat}(hA:A k=false):jU L (k:Int)=none:=by rw[h k,if_neg (by rw[hA];decide)]
theorem Ik.nil:Ik N (fun k=>decide (k<0)) []:=fun k=>by simp[jU]
end
def fC{α:Type}(l:List α)(o:List Nat)(m n:Nat):List α:=(List.range n).filterMap fun k=>if (o.contains k||decide (k=m))=true then none else l[k]?
section
variable {α:Type} {l:List α} {o:List Nat} {m j:Nat} {z:α}
theorem YE(hz:l[j]?=some z)(h:(o.contains j||decide (j=m))=false):fC l o m (j+1)=fC l o m j++[z]:=by
 unfold fC;rw[List.range_succ,aw_,List.filterMap_cons,if_neg (by rw[h];decide),hz];rfl
theorem ab3(h:(o.contains j||decide (j=m))=true):fC l o m (j+1)=fC l o m j:=by
 unfold fC;rw[List.range_succ,aw_,List.filterMap_cons,if_pos h];simp
theorem Pk{β:Type}(f:α→β):(g_ l o m).map f=g_ (l.map f) o m:=by
 unfold g_;rw[aw6,List.map_filterMap];congr 1
 funext k
 split
 ·rfl
 ·rw[axa]
theorem Pm:∀ n,(fC l o m n).length≤n:=fun n=>axb (List.length_filterMap_le _ _) (by simp)
end
section
variable {N:List ((aj×Int)×Nat)} {o:List Nat} {m:Nat} {z:(aj×Int)×Nat}
theorem Yz(ho:o=dA (N.map (·.1)) m)(hz:N[m]?=some z)(h:f_ z.1 ((g_ N o m).map (·.1))=true):o++[m]=dA (N.map (·.1)) (m+1):=by
 rw[dA,axa,hz,← ho];show _=if f_ z.1 (g_ (N.map (·.1)) o m)=true then o++[m] else o
 rw[← Pk,if_pos h]
theorem ab1(ho:o=dA (N.map (·.1)) m)(hz:N[m]?=some z)(h:f_ z.1 ((g_ N o m).map (·.1))=false):o=dA (N.map (·.1)) (m+1):=by
 rw[dA,axa,hz,← ho];show _=if f_ z.1 (g_ (N.map (·.1)) o m)=true then o++[m] else o
 rw[← Pk,if_neg (by rw[h];decide)]
theorem YA(ho:o=dA (N.map (·.1)) m):o.contains m=false:=by
 cases h:o.contains m with
 | false=>rfl
 | true=>
  have:m∈o:=by simpa using h
  rw[ho] at this;exact absurd (og _ _ _ this) (Nat.lt_irrefl _)
end
theorem YF{N:List ((aj×Int)×Nat)}{o:List Nat}{m j:Nat}{z:(aj×Int)×Nat}{v:Value}{e:TypeId}{k:Nat}{rs:List Rw}(hz:N[j]?=some z)(h:(o.contains j||decide (j=m))=false):
 (⟨v,e,k,(fC N o m j).length+1,(fC N o m j).flatMap mV++mV z⟩::rs:List Rw)=⟨v,e,k,(fC N o m (j+1)).length,(fC N o m (j+1)).flatMap mV⟩::rs:=by
 rw[YE hz h,axc,axd,List.flatMap_cons,List.flatMap_nil,List.append_nil];rfl
theorem p9{x:Option Value}{v z:Value}(h:x=some v):Value.tuple #[x.getD z,.bool x.isSome]=.tuple #[v,.bool true]:=by rw[h];rfl
theorem qd{x:Option Value}{z:Value}(h:x=none):Value.tuple #[x.getD z,.bool x.isSome]=.tuple #[z,.bool false]:=by rw[h];rfl
theorem cG.sub{α:Type}{w:World}{b:Nat}{N N':List ((α×Int)×Nat)}(h:cG w b N)(hs:∀ z∈N',z∈N):cG w b N':=fun z hz=>h z (hs z hz)
theorem Pj{α:Type}{l:List α}{o:List Nat}{m:Nat}:∀ z∈g_ l o m,z∈l:=oM
theorem YV{p:aF}(hok:p.Ok){N:List ((aj×Int)×Nat)}{f:aj→Int}(hN:N.map (·.1)=p.rules.map fun y=>(y,f y)):∀ z∈N,z.1.1.Ok:=fun z hz=>by
 have:z.1∈N.map (·.1):=aw8.2 ⟨z,hz,rfl⟩;rw[hN] at this;obtain⟨r,hr,e⟩:=aw8.1 this;rw[← e];exact⟨(hok.rules r hr).src,(hok.rules r hr).tgt⟩
theorem rK(o:List Nat)(m:Nat):ints o++[Value.int .i64 (m:Int)]=ints (o++[m]):=by unfold ints;rw[List.map_append];rfl
def j8(p:aF):List Nat:=dA (eD p) p.rules.length
theorem O9(l:List (aj×Int)):∀ m,(dA l m).length≤m
 | 0=>Nat.le_refl _
 | m+1=>by
  have:=O9 l m;unfold dA;split
  ·split
   ·rw[axc];simp;omega
   ·omega
  ·omega
theorem jR(w0:World)(c0 c1 c2 c3 c4 c5 c6 c7 c8 c9 aR aO aN aQ aM aL aP:Value)(p:aF)(hp:aK w0 c0 c1 c2 c3 c4 c5 c6 c7 c8 c9 aR aO aN aQ aM aL aP p)(hok:p.Ok)(hn:p.bools.length≤5)(hcl:p.conds.length≤1000)(hcr:p.rules.length≤900):Calls Tryz.prog 27 #[.agg #[c0,c1,c2,c3,c4,c5,c6,c7,c8,c9,aR,aO,aN,aQ,aM,aL,aP]] w0 (fun(r:Ending) (w':World)=>∃ v,r=.returned v∧((w'.ownsRow w0.heap.size 3 1 v (j8 p).length (ints (j8 p)))∧awX w0.heap.size w0 w')):=by
 obtain⟨iu,iq,rfl,hk5,hm5,Ny⟩:=SliceAt.form hp.bools (by decide);obtain⟨YW,Vt,rfl,hk9,hm9,V7⟩:=SliceAt.form hp.rules (by decide);have bJ:=hr1 Tryz.prog Tryz.f27 (fun(r:Ending) (w':World)=>∃ v,r=.returned v∧((w'.ownsRow w0.heap.size 3 1 v (j8 p).length (ints (j8 p)))∧awX w0.heap.size w0 w')) 66 2 rfl;refine en Tryz.func27 rfl Tryz.ntmps27 rfl (vs:=[.agg #[c0,c1,c2,c3,c4,.slice iu p.bools.length iq,c6,c7,c8,.slice YW p.rules.length Vt,aR,aO,aN,aQ,aM,aL,aP]]) rfl fun _ F=>?_
 have M:=Mm.start w0;refine axe fun K1 gU=>ah<|Ig (on rfl) rfl (F.u rf) rfl F rfl M fun g1 _ _ F M=>xA (v:=.slice none 0 0) F rf rf rf fun _ F=>axf<|gU _ _ ?_
 refine axe fun K2 iy=>ah<|xW F (M.b 0 rfl) rf rf rf OW rf Bh rf fun _ F=>kt (on rfl) (fL rfl Tryz.func78 aiJ rfl (args1 (F.u rf))) (BW _ _ _ _ _ _ _ _ _ _ _ _ _ _ _ _ _ _ p (hp.keep M.below) hok hn hcl (by omega)) rfl F rfl fun v9 _ w1 hR F=>?_
 obtain⟨⟨N,DG,hoR,hN⟩,hB1⟩:=hR;have jy:=(M.below).trans (hB1.mono (M.below).size);have HS1:=M.below.trans (hB1.mono M.below.size);have ajg:∀ j uu,[c0,c1,c2,c3,c4,.slice iu p.bools.length iq,c6,c7,c8,.slice YW p.rules.length Vt,aR,aO,aN,aQ,aM,aL,aP][j]?=some uu→w1.cell? ⟨g1,0+j,none⟩=some uu:=fun j u hu=>by rw[Nat.zero_add];exact((Whole.under hB1 (M.b 0 rfl) (M.b 0 rfl).lt).cell j).trans (by simpa using hu)
 replace M:=Mm.start w1;have hLs:=SliceAt.bC hoR (Ey N);obtain⟨ra,rc,rfl,hrc,hrm,VX⟩:=hLs.form (by decide)
 have hNl:N.length=p.rules.length:=by
  have h:=congrArg List.length DG;simpa using h
 refine xA F rf rf rf fun _ F=>axf<|iy _ _ ?_
 refine axe fun K3 nE=>ah<|kmk (on rfl) rfl rfl F rfl M fun mb _ _ F M=>xA F rf rf rf fun _ F=>axf<|nE _ _ ?_
 refine axe fun K4 ox=>axe fun K5 ow=>ah<|xM F rf rf rf fun _ F=>kz F rf (fK rfl (F.u rf) zM) fun _ F=>xM (v:=.int .i64 0) F rf rf rf fun _ F=>axf<|ow _ _ ?_
 refine axg<|?_;refine eH (ι:=Nat×List (Int×Value)) (fun|(t,L),a,w=>Fs a 66 [(3,.slice ra N.length rc),(4,(.map (some mb))),(17,.slice ra N.length rc),(18,.int .i64 (N.length:Int)),(19,.int .i64 (t:Int))]∧Mm w1 w [(mb,9003,eF L)] []∧t≤N.length∧Ik N (fun k=>decide (k<t)) L) (fun|(t,L)=>N.length-t) (0,[]) ⟨F.sub ⟨rfl,rfl,rfl,rfl,rfl,trivial⟩,M,awY _,Ik.nil⟩ ?_
 (repeat clear F);(repeat clear M)
 rintro⟨t,L⟩ _ _ ⟨F,M,hm,hLv⟩;refine axe fun K6 pT=>ah<|kz F rf (jo rfl (F.u rf) (F.u rf)) fun _ F=>axf<|pT _ _ ?_
 refine axe fun K7 rS=>?_
 refine axh (F.e 20 rfl) (fun hc2=>?_) (fun hc2=>?_)
 ·have hd3:=of_decide_eq_true hc2;refine wp_skip<|rS _ _ ?_;refine axe fun K8 xK=>axg<|axe fun K9 zf=>?_
  have hltz:t<N.length:=by omega
  obtain⟨z,hz⟩:∃ z,N[t]?=some z:=⟨_,awZ hltz⟩;obtain⟨bz,obz,rfl,acY⟩:=VX t hltz
  have acD:∀ j uu,[.int .i64 z.1.1.kind,.int .u64 z.1.1.src.a,.int .u64 z.1.1.src.b,.int .u64 z.1.1.src.c,.int .u64 z.1.1.src.d,.int .u64 z.1.1.tgt.a,.int .u64 z.1.1.tgt.b,.int .u64 z.1.1.tgt.c,.int .u64 z.1.1.tgt.d,.bool z.1.1.self,.int .i64 z.1.1.cls,.int .u32 z.1.1.perms,.int .i64 z.1.1.cond,.slice (some ⟨z.2,0,none⟩) 1 1][j]?=some uu→w1.cell? ⟨bz,obz+t*14+j,none⟩=some uu:=fun j u hu=>acY j u (by
   rw[cE xB hz j (axi.1 hu).1];exact hu)
  refine ah<|xM F rf rf rf fun _ F=>
   kz F rf (bD (i:=t) rfl (F.u rf) (F.u rf) (by omega) zM j6) fun _ F=>
   kz F rf (gV [.int .i64 z.1.1.kind,.int .u64 z.1.1.src.a,.int .u64 z.1.1.src.b,.int .u64 z.1.1.src.c,.int .u64 z.1.1.src.d,.int .u64 z.1.1.tgt.a,.int .u64 z.1.1.tgt.b,.int .u64 z.1.1.tgt.c,.int .u64 z.1.1.tgt.d,.bool z.1.1.self,.int .i64 z.1.1.cls,.int .u32 z.1.1.perms,.int .i64 z.1.1.cond,.slice (some ⟨z.2,0,none⟩) 1 1] rfl (F.u rf) IZ rfl j6 (dH M.below acD)) fun _ F=>
   JU (on rfl) rfl yB rfl F rfl M fun g4 _ _ F M=>
   xA F rf rf rf fun _ F=>
   Ld (on rfl) rfl (F.u rf) (F.u rf) F M 0 rfl j6 rfl rfl rfl fun _ M=>
   axf<|
   zf _ _ ?_
  refine ah<|xM F rf rf rf fun _ F=>xM F rf rf rf fun _ F=>xW F (M.b 0 rfl) rf rf rf IZ rf j6 rf fun _ F=>
   kmp rfl rfl rfl Uq (F.u rf) (F.u rf) (F.u rf) (by constructor<;>omega) M 1 rfl fun _ M=>
   axf<|
   xK _ _ ?_
  refine ah<|
   ke (on rfl) (eX rfl (F.u rf) rfl) rfl F rfl (congrArg (Value.int .i64) (wrap_i64 (by omega))) fun _ F=>
   xM F rf rf rf fun _ F=>
   axf<|?_
  exact⟨(t+1,((t:Int),.agg #[.int .i64 z.1.1.kind,.int .u64 z.1.1.src.a,.int .u64 z.1.1.src.b,.int .u64 z.1.1.src.c,.int .u64 z.1.1.src.d,.int .u64 z.1.1.tgt.a,.int .u64 z.1.1.tgt.b,.int .u64 z.1.1.tgt.c,.int .u64 z.1.1.tgt.d,.bool z.1.1.self,.int .i64 z.1.1.cls,.int .u32 z.1.1.perms,.int .i64 z.1.1.cond,.slice (some ⟨z.2,0,none⟩) 1 1])::gW L (t:Int)),⟨F.sub ⟨rfl,rfl,rfl,rfl,rfl,trivial⟩,(M.only (.cons _ (.cons_cons _ .slnil)) .slnil),by omega,(hLv.put hz).congr fun k _=>by rw[← Bool.decide_or];exact decide_eq_decide.2 (by omega)⟩,by show N.length-(t+1)<N.length-t;omega⟩
 ·have TL:=of_decide_eq_false hc2;refine wp_exit<|ox _ _ ?_;refine axe fun Xy lZ=>?_
  have M:=M.bM 3 1;refine ah<|xA (v:=.slice none 0 0) F rf rf rf fun _ F=>axf<|lZ _ _ ?_
  refine axe fun K11 qH=>axe fun K12 pR=>?_
  have afz:=YV hok DG;refine ah<|xM F rf rf rf fun _ F=>kz F rf (fK rfl (F.u rf) zM) fun _ F=>xM (v:=.int .i64 0) F rf rf rf fun _ F=>axf<|pR _ _ ?_
  refine axg<|?_;refine eH (ι:=Nat×Value×List Nat×List (Int×Value)) (fun|(m,v,o,L),a,w=>Fs a 66 [(3,.slice ra N.length rc),(4,(.map (some mb))),(7,v),(28,.slice ra N.length rc),(29,.int .i64 (N.length:Int)),(30,.int .i64 (m:Int))]∧Mm w1 w [(mb,9003,eF L)] [⟨v,3,1,o.length,ints o⟩]∧m≤N.length∧o=dA (N.map (·.1)) m∧Ik N (fun k=>!o.contains k) L) (fun|(m,v,o,L)=>N.length-m) (0,.slice none 0 0,[],L) ⟨F.sub ⟨rfl,rfl,rfl,rfl,rfl,rfl,trivial⟩,M,awY _,rfl,hLv.congr fun k hk=>by simp;omega⟩ ?_
  (repeat clear F);(repeat clear M)
  rintro⟨m,v,o,L⟩ _ _ ⟨F,M,hm,ho,hLv⟩;refine axe fun K13 pQ=>ah<|kz F rf (jo rfl (F.u rf) (F.u rf)) fun _ F=>axf<|pQ _ _ ?_
  refine axe fun K14 tO=>?_
  refine axh (F.e 31 rfl) (fun rQ=>?_) (fun rQ=>?_)
  ·have hd7:=of_decide_eq_true rQ;refine wp_skip<|tO _ _ ?_;refine axe fun K15 rT=>axg<|axe fun K16 F3=>?_
   have hltz:m<N.length:=by omega
   obtain⟨z,hz⟩:∃ z,N[m]?=some z:=⟨_,awZ hltz⟩;obtain⟨bz,obz,rfl,acY⟩:=VX m hltz
   have acD:∀ j uu,[.int .i64 z.1.1.kind,.int .u64 z.1.1.src.a,.int .u64 z.1.1.src.b,.int .u64 z.1.1.src.c,.int .u64 z.1.1.src.d,.int .u64 z.1.1.tgt.a,.int .u64 z.1.1.tgt.b,.int .u64 z.1.1.tgt.c,.int .u64 z.1.1.tgt.d,.bool z.1.1.self,.int .i64 z.1.1.cls,.int .u32 z.1.1.perms,.int .i64 z.1.1.cond,.slice (some ⟨z.2,0,none⟩) 1 1][j]?=some uu→w1.cell? ⟨bz,obz+m*14+j,none⟩=some uu:=fun j u hu=>acY j u (by
    rw[cE xB hz j (axi.1 hu).1];exact hu)
   have hmo:=YA ho
   refine ah<|xM F rf rf rf fun _ F=>
    kz F rf (bD (i:=m) rfl (F.u rf) (F.u rf) (by omega) zM j6) fun _ F=>
    kz F rf (gV [.int .i64 z.1.1.kind,.int .u64 z.1.1.src.a,.int .u64 z.1.1.src.b,.int .u64 z.1.1.src.c,.int .u64 z.1.1.src.d,.int .u64 z.1.1.tgt.a,.int .u64 z.1.1.tgt.b,.int .u64 z.1.1.tgt.c,.int .u64 z.1.1.tgt.d,.bool z.1.1.self,.int .i64 z.1.1.cls,.int .u32 z.1.1.perms,.int .i64 z.1.1.cond,.slice (some ⟨z.2,0,none⟩) 1 1] rfl (F.u rf) IZ rfl j6 (dH M.below acD)) fun _ F=>
    JU (on rfl) rfl yB rfl F rfl M fun g8 _ _ F M=>
    xA F rf rf rf fun _ F=>
    Ld (on rfl) rfl (F.u rf) (F.u rf) F M 0 rfl j6 rfl rfl rfl fun _ M=>
    axf<|
    F3 _ _ ?_
   refine axe fun K17 Wq=>ah<|xM F rf rf rf fun _ F=>xM F rf rf rf fun _ F=>
    aiT rfl rfl Uq (F.u rf) (F.u rf) (by constructor<;>omega) rfl M 1 rfl (by rw[hLv.yes (by rw[hmo];rfl) hz];rfl) fun _ M=>
    axf<|
    Wq _ _ ?_
   refine axe fun K18 adb=>?_
   have M:=M.bM 146 14;refine ah<|xA (v:=.slice none 0 0) F rf rf rf fun _ F=>axf<|adb _ _ ?_
   refine axe fun K19 ada=>axe fun K20 ac_=>ah<|xM F rf rf rf fun _ F=>kz F rf (fK rfl (F.u rf) zM) fun _ F=>xM (v:=.int .i64 0) F rf rf rf fun _ F=>axf<|ac_ _ _ ?_
   refine axg<|?_;refine eH (ι:=Nat×Value) (fun|(j,v2),a,w=>Fs a 66 [(3,.slice (some ⟨bz,obz,none⟩) N.length rc),(4,(.map (some mb))),(7,v),(8,.int .i64 (m:Int)),(9,.pointer (some ⟨g8,0,none⟩)),(10,v2),(28,.slice (some ⟨bz,obz,none⟩) N.length rc),(29,.int .i64 (N.length:Int)),(30,.int .i64 (m:Int)),(38,.int .i64 (N.length:Int)),(39,.int .i64 (j:Int))]∧Mm w1 w [(g8,146,#[.int .i64 z.1.1.kind,.int .u64 z.1.1.src.a,.int .u64 z.1.1.src.b,.int .u64 z.1.1.src.c,.int .u64 z.1.1.src.d,.int .u64 z.1.1.tgt.a,.int .u64 z.1.1.tgt.b,.int .u64 z.1.1.tgt.c,.int .u64 z.1.1.tgt.d,.bool z.1.1.self,.int .i64 z.1.1.cls,.int .u32 z.1.1.perms,.int .i64 z.1.1.cond,.slice (some ⟨z.2,0,none⟩) 1 1]),(mb,9003,eF (gW L (m:Int)))] [⟨v2,146,14,(fC N o m j).length,(fC N o m j).flatMap mV⟩,⟨v,3,1,o.length,ints o⟩]∧j≤N.length) (fun|(j,v2)=>N.length-j) (0,.slice none 0 0) ⟨F.sub ⟨rfl,rfl,rfl,rfl,rfl,rfl,rfl,rfl,rfl,rfl,rfl,trivial⟩,M,awY _⟩ ?_
   (repeat clear F);(repeat clear M)
   rintro⟨j,v2⟩ _ _ ⟨F,M,hj⟩;refine axe fun K21 ac9=>ah<|kz F rf (jo rfl (F.u rf) (F.u rf)) fun _ F=>axf<|ac9 _ _ ?_
   refine axe fun K22 ac8=>?_
   refine axh (F.e 40 rfl) (fun hc9=>?_) (fun hc9=>?_)
   ·have af5:=of_decide_eq_true hc9;refine wp_skip<|ac8 _ _ ?_;refine axe fun K23 Zt=>axg<|axe fun K24 ac7=>ah<|xM F rf rf rf fun _ F=>xA F rf rf rf fun _ F=>axf<|ac7 _ _ ?_
    refine axe fun K25 Zs=>?_
    have hlty:j<N.length:=by omega
    obtain⟨y,hy⟩:∃ y,N[j]?=some y:=⟨_,awZ hlty⟩
    cases afL:((o.contains j||decide (j=m)):Bool) with
    | true=>
     have hoff:(o.contains j||decide (j=m))=true:=afL;have hlk:=hLv.cut.no (k:=j) (by rw[← Bool.not_or,hoff];rfl)
     refine ah<|xM F rf rf rf fun _ F=>xM F rf rf rf fun _ F=>
      ke (on rfl) (Gn (z:=.agg #[.int .i64 0,.int .u64 0,.int .u64 0,.int .u64 0,.int .u64 0,.int .u64 0,.int .u64 0,.int .u64 0,.int .u64 0,.bool false,.int .i64 0,.int .u32 0,.int .i64 0,.slice none 0 0]) Uq (by kernel_rfl) M 1 rfl rfl (F.u rf) (F.u rf) (by constructor<;>omega)) rfl F rfl (show _=.tuple #[.agg #[.int .i64 0,.int .u64 0,.int .u64 0,.int .u64 0,.int .u64 0,.int .u64 0,.int .u64 0,.int .u64 0,.int .u64 0,.bool false,.int .i64 0,.int .u32 0,.int .i64 0,.slice none 0 0],.bool false] from qd hlk) fun _ F=>
      xM F rf rf rf fun _ F=>
      kz F rf (cq rfl (F.u rf) rfl) fun _ F=>
      kz F rf (cq rfl (F.u rf) rfl) fun _ F=>
      JU (on rfl) rfl yB rfl F rfl M fun g12 _ _ F M=>
      Ld (on rfl) rfl (F.u rf) (F.u rf) F M 0 rfl j6 rfl rfl rfl fun _ M=>
      xA F rf rf rf fun _ F=>
      axf<|
      Zs _ _ ?_
     refine axe fun K26 ac6=>ah<|xM F rf rf rf fun _ F=>axf<|ac6 _ _ ?_
     refine axj (F.e 48 rfl) ?_;refine wp_skip<|Zt _ _ ?_
     refine ah<|
      ke (on rfl) (eX rfl (F.u rf) rfl) rfl F rfl (congrArg (Value.int .i64) (wrap_i64 (by omega))) fun _ F=>
      xM F rf rf rf fun _ F=>
      axf<|?_
     exact⟨(j+1,v2),⟨F.sub ⟨rfl,rfl,rfl,rfl,rfl,rfl,rfl,rfl,rfl,rfl,rfl,trivial⟩,((M.only (.cons _ (.cons_cons _ (.cons_cons _ .slnil))) (.cons_cons _ (.cons_cons _ .slnil)))).cast rfl (by rw[ab3 hoff]),by omega⟩,by show N.length-(j+1)<N.length-j;omega⟩
    | false=>
     have hoff:(o.contains j||decide (j=m))=false:=afL;have hlk:=hLv.cut.yes (k:=j) (by rw[← Bool.not_or,hoff];rfl) hy
     refine ah<|xM F rf rf rf fun _ F=>xM F rf rf rf fun _ F=>
      ke (on rfl) (Gn (z:=.agg #[.int .i64 0,.int .u64 0,.int .u64 0,.int .u64 0,.int .u64 0,.int .u64 0,.int .u64 0,.int .u64 0,.int .u64 0,.bool false,.int .i64 0,.int .u32 0,.int .i64 0,.slice none 0 0]) Uq (by kernel_rfl) M 1 rfl rfl (F.u rf) (F.u rf) (by constructor<;>omega)) rfl F rfl (show _=.tuple #[.agg #[.int .i64 y.1.1.kind,.int .u64 y.1.1.src.a,.int .u64 y.1.1.src.b,.int .u64 y.1.1.src.c,.int .u64 y.1.1.src.d,.int .u64 y.1.1.tgt.a,.int .u64 y.1.1.tgt.b,.int .u64 y.1.1.tgt.c,.int .u64 y.1.1.tgt.d,.bool y.1.1.self,.int .i64 y.1.1.cls,.int .u32 y.1.1.perms,.int .i64 y.1.1.cond,.slice (some ⟨y.2,0,none⟩) 1 1],.bool true] from p9 hlk) fun _ F=>
      xM F rf rf rf fun _ F=>
      kz F rf (cq rfl (F.u rf) rfl) fun _ F=>
      kz F rf (cq rfl (F.u rf) rfl) fun _ F=>
      JU (on rfl) rfl yB rfl F rfl M fun g13 _ _ F M=>
      Ld (on rfl) rfl (F.u rf) (F.u rf) F M 0 rfl j6 rfl rfl rfl fun _ M=>
      xA F rf rf rf fun _ F=>
      axf<|
      Zs _ _ ?_
     refine axe fun K27 ac5=>ah<|xM F rf rf rf fun _ F=>axf<|ac5 _ _ ?_
     refine wp_cond_true (F.e 48 rfl) ?_;have aqj:=Pm (l:=N) (o:=o) (m:=m) j
     refine ah<|xM F rf rf rf fun _ F=>xW F (M.b 0 rfl) rf rf rf IZ rf j6 rf fun _ F=>
      kl (on rfl) rfl zM j6 yB rfl (pv:=#[(0,.agg #[.int .i64 y.1.1.kind,.int .u64 y.1.1.src.a,.int .u64 y.1.1.src.b,.int .u64 y.1.1.src.c,.int .u64 y.1.1.src.d,.int .u64 y.1.1.tgt.a,.int .u64 y.1.1.tgt.b,.int .u64 y.1.1.tgt.c,.int .u64 y.1.1.tgt.d,.bool y.1.1.self,.int .i64 y.1.1.cls,.int .u32 y.1.1.perms,.int .i64 y.1.1.cond,.slice (some ⟨y.2,0,none⟩) 1 1])]) (by simp[(F.e 50 rfl)]) (cells:=#[.int .i64 y.1.1.kind,.int .u64 y.1.1.src.a,.int .u64 y.1.1.src.b,.int .u64 y.1.1.src.c,.int .u64 y.1.1.src.d,.int .u64 y.1.1.tgt.a,.int .u64 y.1.1.tgt.b,.int .u64 y.1.1.tgt.c,.int .u64 y.1.1.tgt.d,.bool y.1.1.self,.int .i64 y.1.1.cls,.int .u32 y.1.1.perms,.int .i64 y.1.1.cond,.slice (some ⟨y.2,0,none⟩) 1 1]) (by kernel_rfl) rfl F rfl M fun g14 _ _ F M=>
      kp (on rfl) rfl zM VL rfl M 0 rfl (F.u rf) (F.u rf) (M.slice 0 rfl rfl rfl (by simp[maxLen])) ⟨by unfold maxLen;omega,by omega⟩ rfl F rfl fun v15 _ _ F M=>
      xA F rf rf rf fun _ F=>
      axf<|
      Zt _ _ ?_
     refine ah<|
      ke (on rfl) (eX rfl (F.u rf) rfl) rfl F rfl (congrArg (Value.int .i64) (wrap_i64 (by omega))) fun _ F=>
      xM F rf rf rf fun _ F=>
      axf<|?_
     exact⟨(j+1,v15),⟨F.sub ⟨rfl,rfl,rfl,rfl,rfl,rfl,rfl,rfl,rfl,rfl,rfl,trivial⟩,((M.only (.cons _ (.cons _ (.cons_cons _ (.cons_cons _ .slnil)))) (.cons_cons _ (.cons_cons _ .slnil)))).cast rfl (YF hy hoff),by omega⟩,by show N.length-(j+1)<N.length-j;omega⟩
   ·have aqO:=of_decide_eq_false hc9;refine wp_exit<|ada _ _ ?_;refine axe fun K28 ac4=>?_
    have hjN:j=N.length:=by omega
    subst hjN
    have hol:((g_ N o m).map (·.1)).length≤1000:=by
     rw[aw6];exact axb (Pm N.length) (by omega)
    refine ah<|xW F (M.b 0 rfl) rf rf rf IZ rf j6 rf fun _ F=>xM F rf rf rf fun _ F=>
     xC F M rf rf q80 (args2 (F.u rf) (F.u rf)) (zl _ z.1 (afz z (aw3 hz)) z.2 (by simpa using((hN.keep M.below) z (aw3 hz)).1.cell 0) _ v2 ((g_ N o m).map (·.1)) (MX (M.r 0 rfl) rfl ((hN.keep M.below).sub Pj)) hol (fun y hy=>by obtain⟨x,hx,rfl⟩:=aw8.1 hy;exact afz x (Pj x hx))) fun _ _ F M=>
     axf<|
     ac4 _ _ ?_
    refine axh (F.e 56 rfl) (fun hc17=>?_) (fun hc17=>?_)
    ·have hcv:f_ z.1 ((g_ N o m).map (·.1))=true:=hc17;have aqi:o.length≤1000:=by rw[ho];exact axb (O9 _ _) (by omega)
     refine ah<|xM F rf rf rf fun _ F=>xM F rf rf rf fun _ F=>xS F M rf rf rf u64 UC zr3 rf rf fun g18 _ _ F M=>
      kp (on rfl) rfl u64 ai1 rfl M 1 rfl (F.u rf) (F.u rf) (M.slice 0 rfl rfl rfl (by simp[maxLen])) ⟨by unfold maxLen;omega,by omega⟩ rfl F rfl fun v19 _ _ F M=>
      xA F rf rf rf fun _ F=>
      axf<|
      rT _ _ ?_
     refine ah<|
      ke (on rfl) (eX rfl (F.u rf) rfl) rfl F rfl (congrArg (Value.int .i64) (wrap_i64 (by omega))) fun _ F=>
      xM F rf rf rf fun _ F=>
      axf<|?_
     exact⟨(m+1,v19,o++[m],gW L (m:Int)),⟨F.sub ⟨rfl,rfl,rfl,rfl,rfl,rfl,trivial⟩,((M.only (.cons _ (.cons _ (.cons_cons _ .slnil))) (.cons _ (.cons_cons _ .slnil)))).cast rfl (by rw[rK,axc];rfl),by omega,Yz ho hz hcv,hLv.cut.congr fun k _=>by simp[Bool.and_comm]⟩,by show N.length-(m+1)<N.length-m;omega⟩
    ·have hcv:f_ z.1 ((g_ N o m).map (·.1))=false:=hc17
     refine ah<|xM F rf rf rf fun _ F=>xM F rf rf rf fun _ F=>xW F (M.b 0 rfl) rf rf rf IZ rf j6 rf fun _ F=>
      kmp rfl rfl rfl Uq (F.u rf) (F.u rf) (F.u rf) (by constructor<;>omega) M 1 rfl fun _ M=>
      axf<|
      rT _ _ ?_
     refine ah<|
      ke (on rfl) (eX rfl (F.u rf) rfl) rfl F rfl (congrArg (Value.int .i64) (wrap_i64 (by omega))) fun _ F=>
      xM F rf rf rf fun _ F=>
      axf<|?_
     exact⟨(m+1,v,o,((m:Int),.agg #[.int .i64 z.1.1.kind,.int .u64 z.1.1.src.a,.int .u64 z.1.1.src.b,.int .u64 z.1.1.src.c,.int .u64 z.1.1.src.d,.int .u64 z.1.1.tgt.a,.int .u64 z.1.1.tgt.b,.int .u64 z.1.1.tgt.c,.int .u64 z.1.1.tgt.d,.bool z.1.1.self,.int .i64 z.1.1.cls,.int .u32 z.1.1.perms,.int .i64 z.1.1.cond,.slice (some ⟨z.2,0,none⟩) 1 1])::gW (gW L (m:Int)) (m:Int)),⟨F.sub ⟨rfl,rfl,rfl,rfl,rfl,rfl,trivial⟩,(M.only (.cons _ (.cons_cons _ .slnil)) (.cons _ (.cons_cons _ .slnil))),by omega,ab1 ho hz hcv,(hLv.cut.put hz).congr fun k _=>by
      by_cases e:k=m
      ·subst e;rw[hmo];simp
      ·simp[e]⟩,by show N.length-(m+1)<N.length-m;omega⟩
  ·have aqN:=of_decide_eq_false rQ;refine wp_exit<|qH _ _ ?_;refine axe fun K29 ac3=>ah<|xM F rf rf rf fun _ F=>xA F rf rf rf fun _ F=>axf<|ac3 _ _ ?_
   refine wp_ret<|bJ _ _ _ _ F rfl ?_;have hmN:m=N.length:=by omega
   have hor:o=j8 p:=by rw[ho,hmN,hNl,DG];rfl
   subst hor;exact⟨_,rfl,kT (M.r 0 rfl) jy.size,(jy.trans (M.below.mono jy.size))⟩
theorem aW.OX{w0 w w':World}{bs:List Bx}{rs:List Rw}{mb:Nat}(M:aW w0.heap.size w0 w bs rs)(hlt:mb<w0.heap.size)(hg:w.grownBy w' (some mb))(afR:∀ g cs,Whole w' g 52 cs→g≠mb):
 ∃ wa:World,St [mb] w0 wa∧wa.heap[mb]?=w'.heap[mb]?∧aW wa.heap.size wa w' bs rs:=by
 have ai7:mb<w.heap.size:=axk hlt M.below.size;have VU:mb<w'.heap.size:=axk ai7 hg.size;have hS:=St.grown (X:=[mb]) hg (aw5.2 rfl)
 obtain⟨wa,ho,ht,hp,e1,e2,e3⟩:∃ wa:World,wa.os=w0.os∧wa.tape=w0.tape∧wa.output=w0.output∧wa.heap.size=w0.heap.size∧(∀ k,k≠mb→wa.heap[k]?=w0.heap[k]?)∧wa.heap[mb]?=w'.heap[mb]?:=
  ⟨{ w0 with heap:=w0.heap.setIfInBounds mb (w'.heap[mb]'VU) },rfl,rfl,rfl,Array.size_setIfInBounds ..,fun k hk=>Array.getElem?_setIfInBounds_ne (Ne.symm hk),by
   show(w0.heap.setIfInBounds mb (w'.heap[mb]'VU))[mb]?=_;rw[Array.getElem?_setIfInBounds_self_of_lt hlt,Array.getElem?_eq_getElem VU]⟩
 refine⟨wa,⟨ho,ht,hp,Nat.le_of_eq e1.symm,fun k _ hx=>e2 k (by simpa using hx)⟩,e3,?_⟩;refine⟨⟨hS.os.trans (M.below.os.trans ho.symm),hS.tape.trans (M.below.tape.trans ht.symm),hS.output.trans (M.below.output.trans hp.symm),by rw[e1];exact axb M.below.size hS.size,fun k hk=>?_⟩,Nat.le_refl _,fun g cs h=>?_,fun b hb=>?_,fun b hb=>by rw[e1];exact M.lo b hb,M.nd,fun r hr=>?_,M.far,M.vX⟩
 ·by_cases hkm:k=mb
  ·subst hkm;exact e3.symm
  ·rw[e1] at hk;rw[e2 k hkm,hS.block k (axk hk M.below.size) (by simpa using hkm),M.below.block k hk]
 ·have hne:g≠mb:=fun e=>by
   subst e;have h':wa.heap[g]?=some (.cells cs 52 (0,0)):=h;rw[e3] at h';exact afR g cs h' rfl
  have h0:Whole w0 g 52 cs:=by
   have h':wa.heap[g]?=some (.cells cs 52 (0,0)):=h;rw[e2 g hne] at h';exact h'
  exact hS.whole (M.old g cs h0) (by simpa using hne)
 ·exact(M.box b hb).kept (hS.block _ (M.box b hb).lt fun hm=>by
   have:=M.lo b hb;rw[aw5.1 hm] at this;omega)
 ·rw[e1]
  exact hS.own (M.row r hr) fun q hq e=>by
   rw[aw5.1 hq] at e;have:=((M.row r hr).lt _ e).1;omega
section
variable {ops:Array Oper} {Q:Exit→Act→World→Prop} {rest:List Oper} {a:Act} {w w0:World} {o:Oper} {bs:List Bx} {rs:List Rw} {mb:Nat} {L:List (Int×Value)}
theorem kpo(hg:o.guard=none)(hd:o.dst=none){t e:TypeId}{m x y:Operand}{v:Value}{k:Int}(ho:o.op=.mapUpdate t m x y)(ht:Tryz.prog.underlying t=some (.map 3 e))(hm:a.eval m=.map (some mb))(hx:a.eval x=.int .i64 k)(hy:a.eval y=v)(hk:iX k)(M:aW w0.heap.size w0 w bs rs)(hM:aV w0 Tryz.prog 3 mb (L.map ival))
 (next:∀ wa w',St [mb] w0 wa→aV wa Tryz.prog 3 mb (((k,v)::gW L k).map ival)→aW wa.heap.size wa w' bs rs→wpList Tryz.prog ops Q rest a w'):wpList Tryz.prog ops Q (o::rest) a w:=
 kmu hg hd ho hm hx hy (aV.UZ ht (hM.kept (M.below.block _ hM.lt)) hk v) fun w' ⟨NC,hg'⟩=>by
  obtain⟨wa,hS,e3,M'⟩:=M.OX hM.lt hg' fun g cs h=>gM h NC
  exact next wa w' hS (NC.kept e3) M'
theorem aV.akI{t e ty:TypeId}(ht:Tryz.prog.underlying t=some (.map 3 e))(hM:aV w Tryz.prog 3 mb (L.map ival)){k:Int}(hk:iX k)(hin:(jU L k).isSome=true):
 ∃ w',(Builtin.delete_ #[t,3] ty #[.map (some mb),.int .i64 k]).run Tryz.prog w=.ok (.tuple #[]) w'∧(aV w' Tryz.prog 3 mb ((gW L k).map ival)∧w.grownBy w' (some mb)):=by
 obtain⟨l,hl⟩:=Y5 hk;obtain⟨u,hf⟩:=Option.isSome_iff_exists.1 hin;obtain⟨w',hw,NC,hg,-⟩:=hM.del (ty:=ty) (key:=.int .i64 k) (old:=u) (R:=(gW L k).map ival) xH ht hl ((xY hM.MN hf).map ival);exact⟨w',hw,NC,hg⟩
theorem kdo(hg:o.guard=none)(hd:o.dst=none){t e:TypeId}{m x:Operand}{k:Int}(ho:o.op=.call { callee:=.builtin .delete,args:=#[m,x],argTypes:=#[t,3] })(ht:Tryz.prog.underlying t=some (.map 3 e))(hm:a.eval m=.map (some mb))(hx:a.eval x=.int .i64 k)(hk:iX k)(M:aW w0.heap.size w0 w bs rs)(hM:aV w0 Tryz.prog 3 mb (L.map ival))(hin:(jU L k).isSome=true)
 (next:∀ wa w',St [mb] w0 wa→aV wa Tryz.prog 3 mb ((gW L k).map ival)→aW wa.heap.size wa w' bs rs→wpList Tryz.prog ops Q rest a w'):wpList Tryz.prog ops Q (o::rest) a w:=
 rZ w hg m x t 3 ho _ _ hm hx _ (aV.akI ht (hM.kept (M.below.block _ hM.lt)) hk hin) fun w' ⟨NC,hg'⟩=>by
  rw[hd];obtain⟨wa,hS,e3,M'⟩:=M.OX hM.lt hg' fun g cs h=>gM h NC
  exact next wa w' hS (NC.kept e3) M'
theorem qP{t e:TypeId}{m x:Operand}{z:Value}{k:Int}(ht:Tryz.prog.underlying t=some (.map 3 e))(hz:(zeroValue e).run Tryz.prog w=.ok z w)(hM:aV w Tryz.prog 3 mb (L.map ival))(ho:o.op=.lookup t m x false)(hm:a.eval m=.map (some mb))(hx:a.eval x=.int .i64 k)(hk:iX k):
 (execOp a.eval o).run Tryz.prog w=.ok (.value ((jU L k).getD z)) w:=by
 have hl:=aV.Vr ht hz hM hk false;unfold execOp;simp[ho,hm,hx,hl]
end
def rval(r:aj):Value:=.agg r.cells.toArray
def DW(f:Nat→Option aj)(L:List (Int×Value)):Prop:=∀ k:Nat,jU L (k:Int)=(f k).map rval
section
variable {f:Nat→Option aj} {L:List (Int×Value)} {m:Nat} {r:aj}
theorem DW.put(h:DW f L):DW (kD f m (some r)) (((m:Int),rval r)::gW L (m:Int)):=fun k=>by
 rw[Al];unfold kD;by_cases e:k=m
 ·subst e;simp
 ·rw[if_neg (by omega),if_neg e,h k]
theorem DW.cut(h:DW f L):DW (kD f m none) (gW L (m:Int)):=fun k=>by
 rw[FU];unfold kD;by_cases e:k=m
 ·subst e;simp
 ·rw[if_neg (by omega),if_neg e,h k]
theorem DW.yes(h:DW f L){k:Nat}(e:f k=some r):jU L (k:Int)=some (rval r):=by rw[h k,e];rfl
theorem DW.no(h:DW f L){k:Nat}(e:f k=none):jU L (k:Int)=none:=by rw[h k,e];rfl
end
theorem Kc{x:Option Value}{v z:Value}(h:x=some v):x.getD z=v:=by rw[h];rfl
theorem Eo{x y:ay}(hx:x.Ok)(hy:y.Ok):(x.or y).Ok:=⟨Nat.or_lt_two_pow (n:=64) hx.a hy.a,Nat.or_lt_two_pow (n:=64) hx.b hy.b,Nat.or_lt_two_pow (n:=64) hx.c hy.c,Nat.or_lt_two_pow (n:=64) hx.d hy.d⟩
theorem FX{a b c:aj}(ha:a.Ok)(hb:b.Ok)(h:aD a b=some c):c.Ok:=by
 unfold aD at h;split at h
 ·cases h
 ·split at h
  ·obtain rfl:=aw1 h;exact⟨ha.src,ha.tgt⟩
  ·split at h
   ·obtain rfl:=aw1 h;exact⟨ha.src,Eo ha.tgt hb.tgt⟩
   ·split at h
    ·obtain rfl:=aw1 h;exact⟨Eo ha.src hb.src,ha.tgt⟩
    ·cases h
def TR(f:Nat→Option aj):Prop:=∀ k r,f k=some r→r.Ok
theorem TR.set{f:Nat→Option aj}(h:TR f){m:Nat}{v:Option aj}(hv:∀ r,v=some r→r.Ok):TR (kD f m v):=fun k r e=>by
 unfold kD at e;split at e
 ·exact hv r e
 ·exact h k r e
def Ia(f f':Nat→Option aj)(i n:Nat)(t:Bool):Prop:=
 (t=false∧f'=f∧∀ a,f i=some a→∀ k y,i<k→k<n→f k=some y→aD a y=none) ∨
 (t=true∧∃ k a b c,i<k∧k<n∧f i=some a∧f k=some b∧aD a b=some c∧(∀ j y,i<j→j<k→f j=some y→aD a y=none)∧f'=kD (kD f i (some c)) k none)
theorem FY{α:Type}{x:Option α}{v:α}(h:x=some v):x.isSome=true:=by rw[h];rfl
theorem Pq{f:Nat→Option aj}{a:aj}{i k:Nat}(h:∀ j y,i<j→j<k→f j=some y→aD a y=none)(h2:∀ y,f k=some y→aD a y=none):∀ j y,i<j→j<k+1→f j=some y→aD a y=none:=fun j y h1 h3 h4=>by
 by_cases e:j=k
 ·subst e;exact h2 y h4
 ·exact h j y h1 (by omega) h4
structure XG (f f':Nat→Option aj) (n t0 t:Nat):Prop where
 le:t≤t0
 some_:(f' t).isSome=true
 np:NP aD f' n t n
 nf:tF aD (seg f' 0 n)=tF aD (seg f 0 n)
 len:(seg f' 0 n).length≤(seg f 0 n).length
theorem O4{f:Nat→Option aj}{h t:Nat}(hs:∀ j x y,j<h→f j=some x→f t=some y→aD x y=none)(h2:∀ x y,f h=some x→f t=some y→aD x y=none):∀ j x y,j<h+1→f j=some x→f t=some y→aD x y=none:=fun j x y h1 h3 h4=>by
 by_cases e:j=h
 ·subst e;exact h2 x y h3 h4
 ·exact hs j x y (by omega) h3 h4
theorem acg{f:Nat→Option aj}{n h t:Nat}(ht:t≤h)(hp:NP aD f n t t)(hs:∀ j x y,j<h→f j=some x→f t=some y→aD x y=none):NP aD f n t n:=fun j x k y h1 h2 h3 h4 _ h6=>by
 by_cases e:k=t
 ·subst e;exact hs j x y (by omega) h2 h6
 ·exact hp j x k y h1 h2 h3 h4 e h6
theorem NT{f:Nat→Option aj}{n h t:Nat}{a b c:aj}(hlt:h<t)(ht:t<n)(ha:f h=some a)(hb:f t=some b)(hc:aD a b=some c)(hp:NP aD f n t t)(hs:∀ j x y,j<h→f j=some x→f t=some y→aD x y=none):
 NP aD (kD (kD f h (some c)) t none) n h h∧tF aD (seg (kD (kD f h (some c)) t none) 0 n)=tF aD (seg f 0 n)∧(seg (kD (kD f h (some c)) t none) 0 n).length≤(seg f 0 n).length:=by
 have hp':NP aD f n h n:=fun j x k y h1 h2 h3 h4 _ h6=>by
  by_cases e:k=t
  ·subst e;exact hs j x y h1 h2 h6
  ·exact hp j x k y (by omega) h2 h3 h4 e h6
 have h1:=Jg aD hlt ht ha hb hc hp' fun j y h1 h2 h3=>hp h a j y hlt ha h1 (by omega) (by omega) h3
 have h2:=jE aD h1;exact⟨NP.joined aD hp',(uR aD h1).symm,by omega⟩
theorem RN(w0:World)(mb n:Nat)(hn:n≤1000)(L:List (Int×Value))(hM:aV w0 Tryz.prog 3 mb (L.map ival))(f:Nat→Option aj)(hRv:DW f L)(hfo:TR f)(i:Nat)(hi:i<n)(qa:aj)(ha:f i=some qa):Calls Tryz.prog 84 #[.map (some mb),.int .i64 (i:Int),.int .i64 (n:Int)] w0 (fun(r:Ending) (w':World)=>∃ v,r=.returned v∧((∃ t L' f',v=.bool t∧aV w' Tryz.prog 3 mb (L'.map ival)∧DW f' L'∧TR f'∧Ia f f' i n t)∧St [mb] w0 w')):=by
 have HS:=iD [mb] _ _ (Below.refl w0.heap.size w0);have hla:=hRv.yes ha;have bJ:=hr1 Tryz.prog Tryz.f84 (fun(r:Ending) (w':World)=>∃ v,r=.returned v∧((∃ t L' f',v=.bool t∧aV w' Tryz.prog 3 mb (L'.map ival)∧DW f' L'∧TR f'∧Ia f f' i n t)∧St [mb] w0 w')) 41 6 rfl;refine en Tryz.func84 rfl Tryz.ntmps84 rfl (vs:=[(.map (some mb)),.int .i64 (i:Int),.int .i64 (n:Int)]) rfl fun _ F=>?_
 have M:=Mm.start w0;refine axe fun K1 gU=>ah<|xA (v:=.bool false) F rf rf rf fun _ F=>axf<|gU _ _ ?_
 refine axe fun K2 iy=>axe fun K3 nE=>ah<|xM F rf rf rf fun _ F=>
  ke (on rfl) (eX rfl (F.u rf) rfl) rfl F rfl (congrArg (Value.int .i64) (wrap_i64 (by omega))) fun _ F=>
  xA F rf rf rf fun _ F=>
  axf<|
  nE _ _ ?_
 refine axg<|?_;refine eH (ι:=Nat) (fun k a w=>Fs a 41 [(0,(.map (some mb))),(1,.int .i64 (i:Int)),(2,.int .i64 (n:Int)),(7,.int .i64 (k:Int))]∧Mm w0 w [] []∧(i<k∧k≤n)∧∀ j y,i<j→j<k→f j=some y→aD qa y=none) (fun k=>n-k) (i+1) ⟨F.sub ⟨rfl,rfl,rfl,rfl,trivial⟩,M,⟨by omega,by omega⟩,(fun j y h1 h2=>by omega)⟩ ?_
 (repeat clear F);(repeat clear M)
 rintro k _ _ ⟨F,M,hk,hno⟩;refine axe fun K4 ox=>axe fun K5 ow=>?_
 refine ah<|xM F rf rf rf fun _ F=>xM F rf rf rf fun _ F=>kz F rf (jo rfl (F.u rf) (F.u rf)) fun _ F=>axf<|ow _ _ ?_
 refine axh (F.e 16 rfl) (fun hc1=>?_) (fun hc1=>?_)
 ·have hd2:=of_decide_eq_true hc1;refine wp_skip<|ox _ _ ?_;refine axe fun K6 pT=>axg<|axe fun K7 rS=>?_
  cases yZ:f k with
  | none=>
   have hlk:=hRv.no yZ
   refine ah<|xM F rf rf rf fun _ F=>xM F rf rf rf fun _ F=>
    ke (on rfl) (vh (z:=.agg #[.int .i64 0,.int .u64 0,.int .u64 0,.int .u64 0,.int .u64 0,.int .u64 0,.int .u64 0,.int .u64 0,.int .u64 0,.bool false,.int .i64 0,.int .u32 0,.int .i64 0]) wI (by kernel_rfl) (hM.kept (M.below.block _ hM.lt)) rfl (F.u rf) (F.u rf) (by constructor<;>omega)) rfl F rfl (show _=.tuple #[.agg #[.int .i64 0,.int .u64 0,.int .u64 0,.int .u64 0,.int .u64 0,.int .u64 0,.int .u64 0,.int .u64 0,.int .u64 0,.bool false,.int .i64 0,.int .u32 0,.int .i64 0],.bool false] from qd hlk) fun _ F=>
    xM F rf rf rf fun _ F=>
    kz F rf (cq rfl (F.u rf) rfl) fun _ F=>
    kz F rf (cq rfl (F.u rf) rfl) fun _ F=>
    JU (on rfl) rfl mJ rfl F rfl M fun g3 _ _ F M=>
    Ld (on rfl) rfl (F.u rf) (F.u rf) F M 0 rfl qm rfl rfl rfl fun _ M=>
    xA F rf rf rf fun _ F=>
    axf<|
    rS _ _ ?_
   refine axe fun K8 xK=>axe fun K9 zf=>ah<|xM F rf rf rf fun _ F=>kz F rf (pN rfl (F.u rf)) fun _ F=>axf<|zf _ _ ?_
   refine wp_cond_true (F.e 26 rfl) ?_;refine wp_exit<|pT _ _ ?_
   refine ah<|xM F rf rf rf fun _ F=>
    ke (on rfl) (eX rfl (F.u rf) rfl) rfl F rfl (congrArg (Value.int .i64) (wrap_i64 (by omega))) fun _ F=>
    xA F rf rf rf fun _ F=>
    axf<|?_
   exact⟨k+1,⟨F.sub ⟨rfl,rfl,rfl,rfl,trivial⟩,(M.only (.cons _ .slnil) .slnil),by omega,Pq (f:=f) (k:=k) hno (fun y hy=>by rw[yZ] at hy;cases hy)⟩,by show n-(k+1)<n-k;omega⟩
  | some qb=>
   have hlk:=hRv.yes yZ
   refine ah<|xM F rf rf rf fun _ F=>xM F rf rf rf fun _ F=>
    ke (on rfl) (vh (z:=.agg #[.int .i64 0,.int .u64 0,.int .u64 0,.int .u64 0,.int .u64 0,.int .u64 0,.int .u64 0,.int .u64 0,.int .u64 0,.bool false,.int .i64 0,.int .u32 0,.int .i64 0]) wI (by kernel_rfl) (hM.kept (M.below.block _ hM.lt)) rfl (F.u rf) (F.u rf) (by constructor<;>omega)) rfl F rfl (show _=.tuple #[.agg #[.int .i64 qb.kind,.int .u64 qb.src.a,.int .u64 qb.src.b,.int .u64 qb.src.c,.int .u64 qb.src.d,.int .u64 qb.tgt.a,.int .u64 qb.tgt.b,.int .u64 qb.tgt.c,.int .u64 qb.tgt.d,.bool qb.self,.int .i64 qb.cls,.int .u32 qb.perms,.int .i64 qb.cond],.bool true] from p9 hlk) fun _ F=>
    xM F rf rf rf fun _ F=>
    kz F rf (cq rfl (F.u rf) rfl) fun _ F=>
    kz F rf (cq rfl (F.u rf) rfl) fun _ F=>
    JU (on rfl) rfl mJ rfl F rfl M fun g4 _ _ F M=>
    Ld (on rfl) rfl (F.u rf) (F.u rf) F M 0 rfl qm rfl rfl rfl fun _ M=>
    xA F rf rf rf fun _ F=>
    axf<|
    rS _ _ ?_
   refine axe fun Xy lZ=>axe fun K11 qH=>ah<|xM F rf rf rf fun _ F=>kz F rf (pN rfl (F.u rf)) fun _ F=>axf<|qH _ _ ?_
   refine axj (F.e 26 rfl) ?_;refine wp_skip<|lZ _ _ ?_
   refine axe fun K12 pR=>ah<|xM F rf rf rf fun _ F=>xM F rf rf rf fun _ F=>
    ke (on rfl) (qP (z:=.agg #[.int .i64 0,.int .u64 0,.int .u64 0,.int .u64 0,.int .u64 0,.int .u64 0,.int .u64 0,.int .u64 0,.int .u64 0,.bool false,.int .i64 0,.int .u32 0,.int .i64 0]) wI (by kernel_rfl) (hM.kept (M.below.block _ hM.lt)) rfl (F.u rf) (F.u rf) (by constructor<;>omega)) rfl F rfl (show _=.agg #[.int .i64 qa.kind,.int .u64 qa.src.a,.int .u64 qa.src.b,.int .u64 qa.src.c,.int .u64 qa.src.d,.int .u64 qa.tgt.a,.int .u64 qa.tgt.b,.int .u64 qa.tgt.c,.int .u64 qa.tgt.d,.bool qa.self,.int .i64 qa.cls,.int .u32 qa.perms,.int .i64 qa.cond] from Kc hla) fun _ F=>
    xW F (M.b 0 rfl) rf rf rf X7 rf qm rf fun _ F=>
    xC F M rf rf ae2 (args2 (F.u rf) (F.u rf)) (JV _ qa qb (hfo _ _ ha) (hfo _ _ yZ)) fun _ _ F M=>
    xM F rf rf rf fun _ F=>
    kz F rf (cq rfl (F.u rf) rfl) fun _ F=>
    kz F rf (cq rfl (F.u rf) rfl) fun _ F=>
    JU (on rfl) rfl mJ rfl F rfl M fun g5 _ _ F M=>
    Ld (on rfl) rfl (F.u rf) (F.u rf) F M 0 rfl qm rfl rfl rfl fun _ M=>
    xA F rf rf rf fun _ F=>
    axf<|
    pR _ _ ?_
   refine axe fun K13 pQ=>ah<|xM F rf rf rf fun _ F=>axf<|pQ _ _ ?_
   refine axh (F.e 35 rfl) (fun rQ=>?_) (fun rQ=>?_)
   ·obtain⟨qc,V4⟩:=Option.isSome_iff_exists.1 rQ;refine axe fun K14 tO=>ah<|xM F rf rf rf fun _ F=>xM F rf rf rf fun _ F=>xW F (M.b 0 rfl) rf rf rf X7 rf qm rf fun _ F=>kpo rfl rfl rfl wI (F.u rf) (F.u rf) (F.u rf) (by constructor<;>omega) M hM fun wa7 _ TP hM M=>?_
    have HS:=gi _ _ _ _ HS TP;have hRv:=hRv.put (m:=i) (r:=(aD qa qb).getD qa);refine axf<|tO _ _ ?_;refine axe fun K15 rT=>ah<|xM F rf rf rf fun _ F=>xM F rf rf rf fun _ F=>kdo rfl rfl rfl wI (F.u rf) (F.u rf) (by constructor<;>omega) M hM (FY (hRv.yes (r:=qb) (by rw[fI _ _ (by omega)];exact yZ))) fun wa8 _ TP hM M=>?_
    have HS:=gi _ _ _ _ HS TP;have hRv:=hRv.cut (m:=k);refine axf<|rT _ _ ?_;refine axe fun K16 F3=>ah<|xA (v:=.bool true) F rf rf rf fun _ F=>axf<|F3 _ _ ?_
    refine wp_ret<|bJ _ _ _ _ F rfl ?_;rw[show(aD qa qb).getD qa=qc by rw[V4];rfl] at hRv hM;exact⟨_,rfl,⟨true,_,_,rfl,(hM.kept (M.below.block _ hM.lt)),hRv,(hfo.set fun r e=>by cases e;exact FX (hfo _ _ ha) (hfo _ _ yZ) V4).set (fun r e=>by cases e),.inr ⟨rfl,k,qa,qb,qc,hk.1,by omega,ha,yZ,V4,hno,rfl⟩⟩,gi _ _ _ _ HS (iD _ _ _ M.below)⟩
   ·have hjn:aD qa qb=none:=by simpa using rQ
    refine wp_skip<|pT _ _ ?_
    refine ah<|xM F rf rf rf fun _ F=>
     ke (on rfl) (eX rfl (F.u rf) rfl) rfl F rfl (congrArg (Value.int .i64) (wrap_i64 (by omega))) fun _ F=>
     xA F rf rf rf fun _ F=>
     axf<|?_
    exact⟨k+1,⟨F.sub ⟨rfl,rfl,rfl,rfl,trivial⟩,(M.only (.cons _ (.cons _ .slnil)) .slnil),by omega,Pq (f:=f) (k:=k) hno (fun y hy=>by rw[yZ] at hy;obtain rfl:=aw1 hy;exact hjn)⟩,by show n-(k+1)<n-k;omega⟩
 ·have hd9:=of_decide_eq_false hc1;refine wp_exit<|iy _ _ ?_;refine axe fun K17 Wq=>ah<|xA (v:=.bool false) F rf rf rf fun _ F=>axf<|Wq _ _ ?_
  refine wp_ret<|bJ _ _ _ _ F rfl ?_
  exact⟨_,rfl,⟨false,_,f,rfl,(hM.kept (M.below.block _ hM.lt)),hRv,hfo,.inl ⟨rfl,rfl,fun a' ha' k' y h1 h2 h3=>by
   rw[ha] at ha';obtain rfl:=aw1 ha';exact hno k' y h1 (by omega) h3⟩⟩,gi _ _ _ _ HS (iD _ _ _ M.below)⟩
theorem Ko(w0:World)(mb n:Nat)(hn:n≤1000)(L:List (Int×Value))(hM:aV w0 Tryz.prog 3 mb (L.map ival))(f:Nat→Option aj)(hRv:DW f L)(hfo:TR f)(t0:Nat)(ht0:t0<n)(q0:aj)(ha:f t0=some q0)(hNP:NP aD f n t0 t0):Calls Tryz.prog 85 #[.map (some mb),.int .i64 (t0:Int)] w0 (fun(r:Ending) (w':World)=>∃ v,r=.returned v∧((∃ t L' f',v=.int .i64 ((t:Nat):Int)∧aV w' Tryz.prog 3 mb (L'.map ival)∧DW f' L'∧TR f'∧XG f f' n t0 t)∧St [mb] w0 w')):=by
 have HS:=iD [mb] _ _ (Below.refl w0.heap.size w0);have bJ:=hr1 Tryz.prog Tryz.f85 (fun(r:Ending) (w':World)=>∃ v,r=.returned v∧((∃ t L' f',v=.int .i64 ((t:Nat):Int)∧aV w' Tryz.prog 3 mb (L'.map ival)∧DW f' L'∧TR f'∧XG f f' n t0 t)∧St [mb] w0 w')) 39 4 rfl;refine en Tryz.func85 rfl Tryz.ntmps85 rfl (vs:=[(.map (some mb)),.int .i64 (t0:Int)]) rfl fun _ F=>?_
 have M:=Mm.start w0;refine axe fun K1 gU=>ah<|xA (v:=.int .i64 0) F rf rf rf fun _ F=>axf<|gU _ _ ?_
 refine axe fun K2 iy=>axe fun K3 nE=>ah<|xA (v:=.int .i64 0) F rf rf rf fun _ F=>axf<|nE _ _ ?_
 refine axg<|?_;refine eH (ι:=Nat×Nat×(Nat→Option aj)×List (Int×Value)×World) (fun|(hh,tt,ff,LL,wb),a,w=>Fs a 39 [(0,(.map (some mb))),(1,.int .i64 (tt:Int)),(5,.int .i64 (hh:Int))]∧Mm wb w [] []∧aV wb Tryz.prog 3 mb (LL.map ival)∧DW ff LL∧TR ff∧St [mb] w0 wb∧tt<n∧tt≤t0∧hh≤tt∧(ff tt).isSome=true∧NP aD ff n tt tt∧(∀ j x y,j<hh→ff j=some x→ff tt=some y→aD x y=none)∧tF aD (seg ff 0 n)=tF aD (seg f 0 n)∧(seg ff 0 n).length≤(seg f 0 n).length) (fun|(hh,tt,ff,LL,wb)=>tt*(n+1)+(tt-hh)) (0,t0,f,L,w0) ⟨F.sub ⟨rfl,rfl,rfl,trivial⟩,M,hM,hRv,hfo,HS,ht0,Nat.le_refl _,awY _,FY ha,hNP,(fun j _ _ h=>absurd h (Nat.not_lt_zero j)),rfl,Nat.le_refl _⟩ ?_
 (repeat clear F);(repeat clear M)
 rintro⟨hh,tt,ff,LL,wb⟩ _ _ ⟨F,M,hM,hRv,hfo,HS,ht,hle,hh1,hta,hNP,hsc,hnf,hlen⟩;obtain⟨qt,hqt⟩:=Option.isSome_iff_exists.1 hta;refine axe fun K4 ox=>axe fun K5 ow=>ah<|xM F rf rf rf fun _ F=>xM F rf rf rf fun _ F=>kz F rf (jo rfl (F.u rf) (F.u rf)) fun _ F=>axf<|ow _ _ ?_
 refine axh (F.e 12 rfl) (fun hc1=>?_) (fun hc1=>?_)
 ·have hd2:=of_decide_eq_true hc1;refine wp_skip<|ox _ _ ?_;refine axe fun K6 pT=>axg<|axe fun K7 rS=>?_
  cases yZ:ff hh with
  | none=>
   have hlk:=hRv.no yZ
   refine ah<|xM F rf rf rf fun _ F=>xM F rf rf rf fun _ F=>
    ke (on rfl) (vh (z:=.agg #[.int .i64 0,.int .u64 0,.int .u64 0,.int .u64 0,.int .u64 0,.int .u64 0,.int .u64 0,.int .u64 0,.int .u64 0,.bool false,.int .i64 0,.int .u32 0,.int .i64 0]) wI (by kernel_rfl) (hM.kept (M.below.block _ hM.lt)) rfl (F.u rf) (F.u rf) (by constructor<;>omega)) rfl F rfl (show _=.tuple #[.agg #[.int .i64 0,.int .u64 0,.int .u64 0,.int .u64 0,.int .u64 0,.int .u64 0,.int .u64 0,.int .u64 0,.int .u64 0,.bool false,.int .i64 0,.int .u32 0,.int .i64 0],.bool false] from qd hlk) fun _ F=>
    xM F rf rf rf fun _ F=>
    kz F rf (cq rfl (F.u rf) rfl) fun _ F=>
    kz F rf (cq rfl (F.u rf) rfl) fun _ F=>
    JU (on rfl) rfl mJ rfl F rfl M fun g3 _ _ F M=>
    Ld (on rfl) rfl (F.u rf) (F.u rf) F M 0 rfl qm rfl rfl rfl fun _ M=>
    xA F rf rf rf fun _ F=>
    axf<|
    rS _ _ ?_
   refine axe fun K8 xK=>axe fun K9 zf=>ah<|xM F rf rf rf fun _ F=>kz F rf (pN rfl (F.u rf)) fun _ F=>axf<|zf _ _ ?_
   refine wp_cond_true (F.e 22 rfl) ?_;refine wp_exit<|pT _ _ ?_
   refine ah<|xM F rf rf rf fun _ F=>
    ke (on rfl) (eX rfl (F.u rf) rfl) rfl F rfl (congrArg (Value.int .i64) (wrap_i64 (by omega))) fun _ F=>
    xA F rf rf rf fun _ F=>
    axf<|?_
   exact⟨(hh+1,tt,ff,LL,wb),⟨F.sub ⟨rfl,rfl,rfl,trivial⟩,(M.only (.cons _ .slnil) .slnil),hM,hRv,hfo,HS,ht,hle,(by omega),hta,hNP,O4 hsc (fun x y hx _=>by rw[yZ] at hx;cases hx),hnf,hlen⟩,by show tt*(n+1)+(tt-(hh+1))<tt*(n+1)+(tt-hh);omega⟩
  | some qa=>
   have hlk:=hRv.yes yZ
   refine ah<|xM F rf rf rf fun _ F=>xM F rf rf rf fun _ F=>
    ke (on rfl) (vh (z:=.agg #[.int .i64 0,.int .u64 0,.int .u64 0,.int .u64 0,.int .u64 0,.int .u64 0,.int .u64 0,.int .u64 0,.int .u64 0,.bool false,.int .i64 0,.int .u32 0,.int .i64 0]) wI (by kernel_rfl) (hM.kept (M.below.block _ hM.lt)) rfl (F.u rf) (F.u rf) (by constructor<;>omega)) rfl F rfl (show _=.tuple #[.agg #[.int .i64 qa.kind,.int .u64 qa.src.a,.int .u64 qa.src.b,.int .u64 qa.src.c,.int .u64 qa.src.d,.int .u64 qa.tgt.a,.int .u64 qa.tgt.b,.int .u64 qa.tgt.c,.int .u64 qa.tgt.d,.bool qa.self,.int .i64 qa.cls,.int .u32 qa.perms,.int .i64 qa.cond],.bool true] from p9 hlk) fun _ F=>
    xM F rf rf rf fun _ F=>
    kz F rf (cq rfl (F.u rf) rfl) fun _ F=>
    kz F rf (cq rfl (F.u rf) rfl) fun _ F=>
    JU (on rfl) rfl mJ rfl F rfl M fun g4 _ _ F M=>
    Ld (on rfl) rfl (F.u rf) (F.u rf) F M 0 rfl qm rfl rfl rfl fun _ M=>
    xA F rf rf rf fun _ F=>
    axf<|
    rS _ _ ?_
   refine axe fun Xy lZ=>axe fun K11 qH=>ah<|xM F rf rf rf fun _ F=>kz F rf (pN rfl (F.u rf)) fun _ F=>axf<|qH _ _ ?_
   refine axj (F.e 22 rfl) ?_;refine wp_skip<|lZ _ _ ?_
   refine axe fun K12 pR=>ah<|xW F (M.b 0 rfl) rf rf rf X7 rf qm rf fun _ F=>xM F rf rf rf fun _ F=>xM F rf rf rf fun _ F=>
    ke (on rfl) (qP (z:=.agg #[.int .i64 0,.int .u64 0,.int .u64 0,.int .u64 0,.int .u64 0,.int .u64 0,.int .u64 0,.int .u64 0,.int .u64 0,.bool false,.int .i64 0,.int .u32 0,.int .i64 0]) wI (by kernel_rfl) (hM.kept (M.below.block _ hM.lt)) rfl (F.u rf) (F.u rf) (by constructor<;>omega)) rfl F rfl (show _=.agg #[.int .i64 qt.kind,.int .u64 qt.src.a,.int .u64 qt.src.b,.int .u64 qt.src.c,.int .u64 qt.src.d,.int .u64 qt.tgt.a,.int .u64 qt.tgt.b,.int .u64 qt.tgt.c,.int .u64 qt.tgt.d,.bool qt.self,.int .i64 qt.cls,.int .u32 qt.perms,.int .i64 qt.cond] from Kc (hRv.yes hqt)) fun _ F=>
    xC F M rf rf ae2 (args2 (F.u rf) (F.u rf)) (JV _ qa qt (hfo _ _ yZ) (hfo _ _ hqt)) fun _ _ F M=>
    xM F rf rf rf fun _ F=>
    kz F rf (cq rfl (F.u rf) rfl) fun _ F=>
    kz F rf (cq rfl (F.u rf) rfl) fun _ F=>
    JU (on rfl) rfl mJ rfl F rfl M fun g5 _ _ F M=>
    Ld (on rfl) rfl (F.u rf) (F.u rf) F M 0 rfl qm rfl rfl rfl fun _ M=>
    xA F rf rf rf fun _ F=>
    axf<|
    pR _ _ ?_
   refine axe fun K13 pQ=>ah<|xM F rf rf rf fun _ F=>axf<|pQ _ _ ?_
   refine axh (F.e 31 rfl) (fun rQ=>?_) (fun rQ=>?_)
   ·obtain⟨qc,V4⟩:=Option.isSome_iff_exists.1 rQ;refine axe fun K14 tO=>ah<|xM F rf rf rf fun _ F=>xM F rf rf rf fun _ F=>xW F (M.b 0 rfl) rf rf rf X7 rf qm rf fun _ F=>kpo rfl rfl rfl wI (F.u rf) (F.u rf) (F.u rf) (by constructor<;>omega) M hM fun wa7 _ TP hM M=>?_
    have HS:=gi _ _ _ _ HS TP;have hRv:=hRv.put (m:=hh) (r:=((aD qa qt).getD qa));refine axf<|tO _ _ ?_;refine axe fun K15 rT=>ah<|xM F rf rf rf fun _ F=>xM F rf rf rf fun _ F=>kdo rfl rfl rfl wI (F.u rf) (F.u rf) (by constructor<;>omega) M hM (FY (hRv.yes (r:=qt) (by rw[fI _ _ (by omega)];exact hqt))) fun wa8 _ TP hM M=>?_
    have HS:=gi _ _ _ _ HS TP;have hRv:=hRv.cut (m:=tt);refine axf<|rT _ _ ?_;refine ah<|xM F rf rf rf fun _ F=>xA F rf rf rf fun _ F=>xA (v:=.int .i64 (-1)) F rf rf rf fun _ F=>axf<|pT _ _ ?_
    refine ah<|xM F rf rf rf fun _ F=>
     ke (on rfl) (eX rfl (F.u rf) rfl) rfl F rfl (congrArg (Value.int .i64) (wrap_i64 (by omega))) fun _ F=>
     xA F rf rf rf fun _ F=>
     axf<|?_
    rw[show((aD qa qt).getD qa)=qc by rw[V4];rfl] at hRv hM;obtain⟨hE1,hE2,hE3⟩:=NT (n:=n) (by omega) ht yZ hqt V4 hNP hsc;have hE4:=axl (n+1) (show hh+1≤tt by omega);rw[Nat.add_mul,Nat.one_mul] at hE4;exact⟨(0,hh,kD (kD ff hh (some qc)) tt none,_,wa8),⟨F.sub ⟨rfl,rfl,rfl,trivial⟩,(M.only (.cons _ (.cons _ .slnil)) .slnil),hM,hRv,((hfo.set fun r e=>by cases e;exact FX (hfo _ _ yZ) (hfo _ _ hqt) V4).set fun r e=>by cases e),HS,by omega,by omega,awY _,(by rw[fI _ _ (by omega),rA];rfl),hE1,(fun j _ _ h=>absurd h (Nat.not_lt_zero j)),hE2.trans hnf,axb hE3 hlen⟩,by show hh*(n+1)+(hh-0)<tt*(n+1)+(tt-hh);omega⟩
   ·have hjn:aD qa qt=none:=by simpa using rQ
    refine wp_skip<|pT _ _ ?_
    refine ah<|xM F rf rf rf fun _ F=>
     ke (on rfl) (eX rfl (F.u rf) rfl) rfl F rfl (congrArg (Value.int .i64) (wrap_i64 (by omega))) fun _ F=>
     xA F rf rf rf fun _ F=>
     axf<|?_
    exact⟨(hh+1,tt,ff,LL,wb),⟨F.sub ⟨rfl,rfl,rfl,trivial⟩,(M.only (.cons _ (.cons _ .slnil)) .slnil),hM,hRv,hfo,HS,ht,hle,(by omega),hta,hNP,O4 hsc (fun x y hx hy=>by rw[yZ] at hx;rw[hqt] at hy;obtain rfl:=aw1 hx;obtain rfl:=aw1 hy;exact hjn),hnf,hlen⟩,by show tt*(n+1)+(tt-(hh+1))<tt*(n+1)+(tt-hh);omega⟩
 ·have hd9:=of_decide_eq_false hc1;refine wp_exit<|iy _ _ ?_;refine axe fun K16 F3=>ah<|xM F rf rf rf fun _ F=>xA F rf rf rf fun _ F=>axf<|F3 _ _ ?_
  refine wp_ret<|bJ _ _ _ _ F rfl ?_;exact⟨_,rfl,⟨tt,_,ff,rfl,(hM.kept (M.below.block _ hM.lt)),hRv,hfo,⟨hle,hta,acg (by omega) hNP hsc,hnf,hlen⟩⟩,gi _ _ _ _ HS (iD _ _ _ M.below)⟩
def RowsIn(B:Nat)(w:World)(T:List Rw):Prop:=(∀ r∈T,w.ownsRow B r.e r.k r.v r.n r.xs)∧T.Pairwise fun r s=>r.v.ownBlock=none∨r.v.ownBlock≠s.v.ownBlock
theorem RowsIn.keep{B:Nat}{w w':World}{T:List Rw}(h:RowsIn B w T)(hb:awX w.heap.size w w'):RowsIn B w' T:=⟨fun r hr=>gu hb (h.1 r hr) (Nat.le_refl _),h.2⟩
theorem RowsIn.low{B C:Nat}{w:World}{T:List Rw}(h:RowsIn B w T)(hc:C≤B):RowsIn C w T:=⟨fun r hr=>kT (h.1 r hr) hc,h.2⟩
theorem RowsIn.nil(B:Nat)(w:World):RowsIn B w []:=⟨fun _ h=>(by cases h),.nil⟩
theorem aW.eA{B:Nat}{w0 w w':World}{bs:List Bx}{rs T:List Rw}(M:aW B w0 w bs rs)(hb:awX w.heap.size w w')(hT:RowsIn w.heap.size w' T):aW B w0 w' bs (rs++T):=by
 have M':=M.keep hb;refine⟨M'.below,M'.le,M'.old,M'.box,M.lo,M.nd,fun r hr=>?_,fun r hr b hb'=>?_,List.pairwise_append.2 ⟨M.vX,hT.2,fun r hr s hs=>?_⟩⟩
 ·rcases aw9.1 hr with hr|hr
  ·exact M'.row r hr
  ·exact kT (hT.1 r hr) M.big
 ·rcases aw9.1 hr with hr|hr
  ·exact M.far r hr b hb'
  ·intro e;have:=((hT.1 r hr).lt _ e).1;have:=(M.box b hb').lt;omega
 ·cases e:r.v.ownBlock with
  | none=>exact .inl rfl
  | some q=>
   refine .inr fun e2=>?_
   have h1:=((M.row r hr).lt q e).2;have h2:=((hT.1 s hs).lt q e2.symm).1;omega
theorem aW.dW{B:Nat}{w0 w:World}{bs:List Bx}{rs:List Rw}(M:aW B w0 w bs rs):RowsIn B w rs:=⟨M.row,M.vX⟩
theorem aW.form{B:Nat}{w0 w:World}{bs:List Bx}{rs:List Rw}(M:aW B w0 w bs rs)(i:Nat){v:Value}{e:TypeId}{k n:Nat}{xs:List Value}(h:rs[i]?=some ⟨v,e,k,n,xs⟩):∃ a c,v=.slice a n c:=by
 obtain⟨a,c,h,-⟩:=fB (M.r i h);exact⟨a,c,h⟩
inductive dB (T:List Rw):List Value→aA→Prop
 | node {op a rel b:Int} {names:List ByteArray} {set:ay} {kids:List aA} {nv kv:Value} {es:List (List Value)}:nv.oneCell'=true→kv.oneCell'=true→(⟨nv,9,1,names.length,names.flatMap aX⟩:Rw)∈T→(⟨kv,89,10,kids.length,es.flatten⟩:Rw)∈T→es.length=kids.length→(∀ x∈es,x.length=10) →
  (∀ (i:Nat) x y,es[i]?=some x→kids[i]?=some y→dB T x y) →
  dB T [.int .i64 op,.int .i64 a,.int .i64 rel,.int .i64 b,nv,.int .u64 set.a,.int .u64 set.b,.int .u64 set.c,.int .u64 set.d,kv] (.node op a rel b names set kids)
theorem dB.mono{T T':List Rw}(hs:∀ r∈T,r∈T'){cs:List Value}{e:aA}(h:dB T cs e):dB T' cs e:=by
 induction h with
 | node h1 h2 h3 h4 h5 h6 _ ih=>exact .node h1 h2 (hs _ h3) (hs _ h4) h5 h6 ih
theorem dB.one{T:List Rw}{cs:List Value}{e:aA}(h:dB T cs e):∀ u∈cs,u.oneCell'=true:=by
 cases h with
 | node h1 h2=>
  intro u hu;simp only[aw7,List.not_mem_nil,or_false] at hu;rcases hu with rfl|rfl|rfl|rfl|rfl|rfl|rfl|rfl|rfl|rfl<;>first|rfl|assumption
theorem Fo(l:List ByteArray):∀ u∈l.flatMap aX,u.oneCell'=true:=fun u hu=>by
 obtain⟨s,-,hs⟩:=List.mem_flatMap.1 hu;simp only[aX,aw5] at hs;subst hs;rfl
theorem dB.at_{T:List Rw}{B:Nat}{w:World}(hT:RowsIn B w T){cs:List Value}{e:aA}(h:dB T cs e):bB w cs e:=by
 induction h with
 | @node op a rel b names set kids nv kv es h1 h2 h3 h4 h5 h6 hk ih=>
  refine .node (SliceAt.bC (hT.1 _ h3) (Fo _)) h5 h6 (SliceAt.bC (hT.1 _ h4) ?_) ih;intro u hu;obtain⟨x,hx,hux⟩:=List.mem_flatten.1 hu;obtain⟨i,hi⟩:=List.getElem?_of_mem hx;obtain⟨y,hy⟩:∃ y,kids[i]?=some y:=⟨_,awZ (by have:=(axi.1 hi).1;rw[h5] at this;exact this)⟩;exact(hk i x y hi hy).one u hux
inductive mH:aA→Prop
 | node {op a rel b:Int} {names:List ByteArray} {set:ay} {kids:List aA}:names.length≤1000000→kids.length≤1000000→(∀ k∈kids,mH k)→mH (.node op a rel b names set kids)
theorem mH.parts{e:aA}(h:mH e):e.names.length≤1000000∧e.kids.length≤1000000∧∀ k∈e.kids,mH k:=by
 cases h with
 | node h1 h2 h3=>exact⟨h1,h2,h3⟩
def EZ(wb:World)(y:aA):Good:=fun v u=>∃ na nc ka kc T,v=.agg #[.int .i64 y.op,.int .i64 y.a,.int .i64 y.rel,.int .i64 y.b,.slice na y.names.length nc,.int .u64 y.set.a,.int .u64 y.set.b,.int .u64 y.set.c,.int .u64 y.set.d,.slice ka y.kids.length kc]∧dB T [.int .i64 y.op,.int .i64 y.a,.int .i64 y.rel,.int .i64 y.b,.slice na y.names.length nc,.int .u64 y.set.a,.int .u64 y.set.b,.int .u64 y.set.c,.int .u64 y.set.d,.slice ka y.kids.length kc] y∧RowsIn wb.heap.size u T
theorem Nd(wb:World)(y:aA):eC (EZ wb y):=fun _ _ _ ⟨na,nc,ka,kc,T,e,h,k⟩ hb=>⟨na,nc,ka,kc,T,e,h,k.keep hb⟩
def SlE(wb:World)(y:aA):Good:=fun v u=>∃ g na nc ka kc T,v=.slice (some ⟨g,0,none⟩) 1 1∧Whole u g 89 #[.int .i64 y.op,.int .i64 y.a,.int .i64 y.rel,.int .i64 y.b,.slice na y.names.length nc,.int .u64 y.set.a,.int .u64 y.set.b,.int .u64 y.set.c,.int .u64 y.set.d,.slice ka y.kids.length kc]∧dB T [.int .i64 y.op,.int .i64 y.a,.int .i64 y.rel,.int .i64 y.b,.slice na y.names.length nc,.int .u64 y.set.a,.int .u64 y.set.b,.int .u64 y.set.c,.int .u64 y.set.d,.slice ka y.kids.length kc] y∧RowsIn wb.heap.size u T
theorem RO(wb:World)(y:aA):eC (SlE wb y):=fun _ _ _ ⟨g,na,nc,ka,kc,T,e,hw,h,k⟩ hb=>⟨g,na,nc,ka,kc,T,e,Whole.under hb hw hw.lt,h,k.keep hb⟩
theorem yL{w:World}{g:Nat}{t:TypeId}{cs:List Value}{k:Nat}(h:Whole w g t cs.toArray)(hl:cs.length=k)(h1:∀ u∈cs,u.oneCell'=true):SliceAt w (.slice (some ⟨g,0,none⟩) 1 1) k 1 cs:=
 ⟨by simpa using hl,by decide,h1,.inr ⟨_,1,rfl,Nat.le_refl _,fun j u hu=>by rw[Addr.add_lit,Nat.zero_add,h.cell];simpa using hu⟩⟩
theorem WC(e:aA):aA.node e.op e.a e.rel e.b e.names e.set e.kids=e:=by cases e;rfl
theorem RT{T T9:List Rw}{es:List (List Value)}{kids:List aA}{m:Nat}{x:List Value}{y:aA}(hl:es.length=m)(h:∀ (i:Nat) x y,es[i]?=some x→kids[i]?=some y→dB T x y)(hy:kids[m]?=some y)(hx:dB T9 x y):
 ∀ (i:Nat) x' y',(es++[x])[i]?=some x'→kids[i]?=some y'→dB (T++T9) x' y':=fun i x' y' h1 h2=>by
 by_cases hi:i<m
 ·rw[List.getElem?_append_left (by omega)] at h1;exact(h i x' y' h1 h2).mono fun r hr=>aw9.2 (.inl hr)
 ·have hlt:=(axi.1 h1).1;rw[axc,List.length_singleton,hl] at hlt;obtain rfl:i=m:=by omega
  rw[List.getElem?_append_right (by omega),hl,Nat.sub_self] at h1;obtain rfl:x=x':=by simpa using h1
  obtain rfl:=aw1 (hy.symm.trans h2);exact hx.mono fun r hr=>aw9.2 (.inr hr)
theorem lX{es:List (List Value)}{x:List Value}{k:Nat}(h:∀ z∈es,z.length=k)(hx:x.length=k):∀ z∈es++[x],z.length=k:=fun z hz=>by
 rcases aw9.1 hz with hz|hz
 ·exact h z hz
 ·rw[aw5.1 hz];exact hx
theorem iO{es:List (List Value)}{x:List Value}:es.flatten++x=(es++[x]).flatten:=by rw[List.flatten_append];simp
theorem Sr{P:Program}{f:FuncId}{args:Array Value}{w wb:World}{y:aA}(h:Calls P f args w fun r w'=>∃ v,r=.returned v∧(EZ w y v w'∧awX w.heap.size w w'))(hi:awX wb.heap.size wb w):Calls P f args w fun r w'=>∃ v,r=.returned v∧(EZ wb y v w'∧awX w.heap.size w w'):=
 h.mono fun _ _ ⟨v,e,⟨na,nc,ka,kc,T,h1,h2,h3⟩,hb⟩=>⟨v,e,⟨na,nc,ka,kc,T,h1,h2,h3.low hi.size⟩,hb⟩
theorem Ih{B:Nat}{w0 w:World}{bs:List Bx}{rs:List Rw}{X:Prop}{f:FuncId}{args:Array Value}{e kk n:Nat}{xs:List Value}{K:Value→List Bx→List Rw→World→Prop}(M:aW B w0 w bs rs)
 (hc:Calls Tryz.prog f args w fun r w'=>∃ u,r=.returned u∧(w'.ownsRow w.heap.size e kk u n xs∧awX w.heap.size w w')) (h:∀ a c w',aW B w0 w' bs (⟨.slice a n c,e,kk,n,xs⟩::rs)→K (.slice a n c) bs (⟨.slice a n c,e,kk,n,xs⟩::rs) w') :
 X∨∃ R:Value→World→Prop,(Calls Tryz.prog f args w fun e w'=>∃ v,e=.returned v∧R v w')∧∀ v w',R v w'→∃ bs' rs',aW B w0 w' bs' rs'∧K v bs' rs' w':=
 .inr ⟨_,hc,fun v w' ⟨h1,h2⟩=>by
  obtain⟨a,c,rfl,-,-⟩:=fB h1;have M':=M.xO (r:=⟨.slice a n c,e,kk,n,xs⟩) h2 h1;exact⟨_,_,M',h a c w' M'⟩⟩
theorem Yn{α:Type}{l:List α}{i:Nat}{b:α}{f:List α→Prop}(hi:i<l.length)(h:f (l.set i b)):Bo l i b f:=by
 induction l generalizing i f with
 | nil=>exact absurd hi (Nat.not_lt_zero _)
 | cons x r ih=>cases i with
  | zero=>exact h
  | succ i=>exact ih (f:=fun r'=>f (x::r')) (by simpa using hi) h
theorem Ii{B:Nat}{w0 w:World}{bs SS:List Bx}{rs Q8:List Rw}{u v:Value}{e kk P8 nn mm:Nat}{xs news:List Value}{k:Value→List Bx→List Rw→World→Prop}(i:Nat)(hM:aW B w0 w bs rs→aW B w0 w SS Q8)(hr:Q8[i]?=some ⟨v,e,kk,nn,xs⟩)(hs:SliceAt w u kk mm news)
 (hb:nn+mm≤maxLen∧(nn+mm)*P8≤140737488355328) (h:∀ a c w',Bo Q8 i ⟨.slice a (nn+mm) c,e,kk,nn+mm,xs++news⟩ fun rs'=>aW B w0 w' SS rs'→k (.slice a (nn+mm) c) SS rs' w') (hW:Nat.beq e 52=false∨w0.heap.size≤B:=by first|exact .inl rfl|exact .inr (Nat.le_refl _)):apO B w0 bs rs w u v e kk P8 k:=
 ap i hM hr hs hb (fun v' w'=>Yn (axi.1 hr).1 fun M=>by
  obtain⟨a,c,rfl⟩:=M.form i (v:=v') (e:=e) (k:=kk) (n:=nn+mm) (xs:=xs++news) (by rw[List.getElem?_set_self (axi.1 hr).1]);exact Aa (h a c w') M) hW
theorem uJ{α:Type}{R:List Rw→List Value→α→Prop}(hm:∀ T T' x y,(∀ r∈T,r∈T')→R T x y→R T' x y){T T':List Rw}{es:List (List Value)}{l:List α}{m:Nat}{x:List Value}{y:α}(hl:es.length=m)(h:∀ (i:Nat) x y,es[i]?=some x→l[i]?=some y→R T x y)(hy:l[m]?=some y)(hs:∀ r∈T,r∈T')(hx:R T' x y):
 ∀ (i:Nat) x' y',(es++[x])[i]?=some x'→l[i]?=some y'→R T' x' y':=fun i x' y' h1 h2=>by
 by_cases hi:i<m
 ·rw[List.getElem?_append_left (by omega)] at h1;exact hm _ _ _ _ hs (h i x' y' h1 h2)
 ·have hlt:=(axi.1 h1).1;rw[axc,List.length_singleton,hl] at hlt;obtain rfl:i=m:=by omega
  rw[List.getElem?_append_right (by omega),hl,Nat.sub_self] at h1;obtain rfl:x=x':=by simpa using h1
  obtain rfl:=aw1 (hy.symm.trans h2);exact hx
theorem dX{α:Type}{f:α→List Value}{l:List α}(h:∀ x,(f x).all (·.oneCell')=true):∀ u∈l.flatMap f,u.oneCell'=true:=fun u hu=>by
 obtain⟨x,-,hx⟩:=List.mem_flatMap.1 hu;exact List.all_eq_true.1 (h x) u hx
theorem MI:∀ (e:aA) (w0:World) (cs:List Value),bB w0 cs e→mH e→Calls Tryz.prog 156 #[.agg cs.toArray] w0 (fun(r:Ending) (w':World)=>∃ v,r=.returned v∧(EZ w0 e v w'∧awX w0.heap.size w0 w')):=by
 refine aA.ind fun e ih=>?_
 intro w0 cs hE jk;obtain⟨nv,kv,rfl,Nv,hkv⟩:=hE.open;obtain⟨_,_,rfl,-⟩:=aU.get Nv;obtain⟨_,_,rfl,-,hkm,-⟩:=aC.form hkv (by decide);have hkl:=jk.parts;refine dD [] (fn:=Tryz.f156) Tryz.func156 rfl Tryz.ntmps156 rfl<|fun g1 w1 M1=>ei<|an AP fun g2 w2 M2=>lb 1<|an rfl<|lb 1<|an rfl<|Ih M2 ((jq _ _ _ _ (Nv.keep M2.below) (by omega)).mono fun _ _ ⟨v',e,h1,_,h3⟩=>⟨v',e,h1,h3⟩) fun na nc w3 M3=>lb 1<|an ⟨rfl,rfl⟩ fun w4 M4=>lb 1<|an ⟨rfl,rfl⟩ fun w5 M5=>?_
 refine lp (ι:=Nat×Value×List (List Value)×List Rw) (fun(m,u,es,T)=>[(15,.int .i64 (m:Int))]) (fun(m,u,es,T)=>[_,(g1,89,#[.int .i64 e.op,.int .i64 e.a,.int .i64 e.rel,.int .i64 e.b,.slice na e.names.length nc,.int .u64 e.set.a,.int .u64 e.set.b,.int .u64 e.set.c,.int .u64 e.set.d,u])]) (fun(m,u,es,T)=>⟨u,89,10,m,es.flatten⟩::_::T) (fun(m,u,es,T) _=>m≤e.kids.length∧es.length=m∧(∀ x∈es,x.length=10)∧∀ (i:Nat) x y,es[i]?=some x→e.kids[i]?=some y→dB T x y) (fun(m,u,es,T)=>e.kids.length-m) (0,.slice none 0 0,[],[]) (an ⟨⟨rfl,trivial⟩,fun M=>⟨M.bM 89 10,awY _,rfl,(fun _ h=>by cases h),fun i x y h=>by simp at h⟩⟩ ?_);rintro⟨m,u,es,T⟩ w M ⟨hm,hl,he,hR⟩;refine an (fun h=>?_) fun h=>?_
 ·have hlt:m<e.kids.length:=by simp at h;omega
  obtain⟨y,hy⟩:∃ y,e.kids[m]?=some y:=⟨_,awZ hlt⟩;have Ns:=aw3 hy;obtain⟨b,o,_,e1,PK,hc⟩:=aC.elt hkv (by decide) hy;obtain⟨_,_,rfl,hn',hk'⟩:=PK.open;obtain⟨_,_,rfl,-⟩:=aU.get hn';obtain⟨_,_,rfl,-⟩:=aC.form hk' (by decide);refine ia<|an ⟨e1,rfl,hlt⟩<|lc<|an (dH M.below hc)<|ei<|an AP fun g3 w7 M7=>lb 0<|an ⟨rfl,rfl⟩ fun w8 M8=>sp [0,1,2,6] (.step 3 (.step 4 (.step 5 (.last 7)))) [0,2] (by kernel_rfl)<|lb 0<|an rfl<|lb 1<|an rfl<|fun w9 hb9 M9=>cg<|an (ih y Ns _ _ (PK.keep M9.below) (jk.parts.2.2 y Ns)) fun v rz ⟨⟨xa,xc,ka,kc,T9,hv,TN,Wd⟩,xJ⟩=>⟨_,_,M9.eA xJ Wd,?_⟩
  subst hv;exact an rfl<|fun g7 Dp M11=>an rfl<|Ii 0 id rfl (M11.slice 0 rfl (k:=10) (n:=1) rfl rfl (by simp[maxLen])) ⟨by unfold maxLen;omega,by omega⟩ fun va vc Ie EW=>an rfl<|lb 3<|an ⟨rfl,rfl⟩ fun LK zC=>an (by omega)<|bk (m+1,.slice va (m+1) vc,es++[[.int .i64 y.op,.int .i64 y.a,.int .i64 y.rel,.int .i64 y.b,.slice xa y.names.length xc,.int .u64 y.set.a,.int .u64 y.set.b,.int .u64 y.set.c,.int .u64 y.set.d,.slice ka y.kids.length kc]],T++T9) ⟨rfl,trivial⟩ (fun M=>⟨(M.only (.cons _ (.cons _ (.refl _))) (.refl _)).cast rfl (by dsimp only;rw[← iO];rfl),by omega,by rw[axc,hl];rfl,lX he rfl,RT hl hR hy TN⟩) (by dsimp only;omega)
 obtain rfl:m=e.kids.length:=by simp at h;omega
 obtain⟨x1,y1,rfl⟩:=M.form 0 rfl
 exact lb 1<|an rfl<|lb 0<|an ⟨rfl,rfl⟩ fun w M=>ei (x:=0)<|an rfl fun M=>⟨_,rfl,⟨_,_,_,_,_,rfl,(by
  have h:=dB.node (T:=_) (op:=e.op) (a:=e.a) (rel:=e.rel) (b:=e.b) (names:=e.names) (set:=e.set) (kids:=e.kids) (es:=es) (nv:=.slice na e.names.length nc) (kv:=.slice x1 e.kids.length y1) rfl rfl (axm _ (axn ..)) (axn ..) hl he (fun i x y h1 h2=>(hR i x y h1 h2).mono fun r hr=>axm _ (axm _ hr))
  rwa [WC] at h),M.dW⟩,M.below⟩
def vS(T:List Rw)(x:List Value)(y:mI):Prop:=∃ a c,x=[.string y.name,.slice a y.perms.length c]∧(⟨.slice a y.perms.length c,9,1,y.perms.length,y.perms.flatMap aX⟩:Rw)∈T
def vL(T:List Rw)(x:List Value)(y:mM):Prop:=∃ a c,x=[.string y.name,.slice a y.pq.length c,.bool y.perm]∧(⟨.slice a y.pq.length c,9,1,y.pq.length,y.pq.flatMap aX⟩:Rw)∈T
def vR(T:List Rw)(x:List Value)(y:pF):Prop:=∃ es,x=[.int .i64 y.cls,.int .u32 y.perms,.bool y.val]++es∧dB T es y.expr
theorem vS.mono{T T':List Rw}(hs:∀ r∈T,r∈T'){x:List Value}{y:mI}(h:vS T x y):vS T' x y:=by
 obtain⟨a,c,e,h⟩:=h;exact⟨a,c,e,hs _ h⟩
theorem vL.mono{T T':List Rw}(hs:∀ r∈T,r∈T'){x:List Value}{y:mM}(h:vL T x y):vL T' x y:=by
 obtain⟨a,c,e,h⟩:=h;exact⟨a,c,e,hs _ h⟩
theorem vR.mono{T T':List Rw}(hs:∀ r∈T,r∈T'){x:List Value}{y:pF}(h:vR T x y):vR T' x y:=by
 obtain⟨es,e,h⟩:=h;exact⟨es,e,h.mono hs⟩
theorem vS.at_{T:List Rw}{B:Nat}{w:World}(hT:RowsIn B w T){x:List Value}{y:mI}(h:vS T x y):q_ w x y:=by
 obtain⟨a,c,e,h⟩:=h;exact⟨_,e,SliceAt.bC (hT.1 _ h) (Fo _)⟩
theorem vL.at_{T:List Rw}{B:Nat}{w:World}(hT:RowsIn B w T){x:List Value}{y:mM}(h:vL T x y):qZ w x y:=by
 obtain⟨a,c,e,h⟩:=h;exact⟨_,e,SliceAt.bC (hT.1 _ h) (Fo _)⟩
theorem vR.at_{T:List Rw}{B:Nat}{w:World}(hT:RowsIn B w T){x:List Value}{y:pF}(h:vR T x y):q8 w x y:=by
 obtain⟨es,e,h⟩:=h;exact⟨es,e,h.at_ hT⟩
theorem vS.one{T:List Rw}{x:List Value}{y:mI}(h:vS T x y):∀ u∈x,u.oneCell'=true:=by
 obtain⟨a,c,rfl,-⟩:=h;intro u hu;simp only[aw7,List.not_mem_nil,or_false] at hu;rcases hu with rfl|rfl<;>rfl
theorem vL.one{T:List Rw}{x:List Value}{y:mM}(h:vL T x y):∀ u∈x,u.oneCell'=true:=by
 obtain⟨a,c,rfl,-⟩:=h;intro u hu;simp only[aw7,List.not_mem_nil,or_false] at hu;rcases hu with rfl|rfl|rfl<;>rfl
theorem vR.one{T:List Rw}{x:List Value}{y:pF}(h:vR T x y):∀ u∈x,u.oneCell'=true:=by
 obtain⟨es,rfl,h⟩:=h;intro u hu;rcases aw9.1 hu with hu|hu
 ·simp only[aw7,List.not_mem_nil,or_false] at hu;rcases hu with rfl|rfl|rfl<;>rfl
 ·exact h.one u hu
theorem uH{α:Type}{k:Nat}{R:List Value→α→Prop}{w:World}{B e n:Nat}{v:Value}{es:List (List Value)}{l:List α}(ho:w.ownsRow B e k v n es.flatten)(hn:n=l.length)(hl:es.length=n)(hk:∀ x∈es,x.length=k)(h1:∀ (i:Nat) x y,es[i]?=some x→l[i]?=some y→R x y)(hone:∀ x y,R x y→∀ u∈x,u.oneCell'=true):aC k R w v l:=by
 subst hn;refine⟨es,hl,hk,SliceAt.bC ho fun u hu=>?_,h1⟩;obtain⟨x,hx,hux⟩:=List.mem_flatten.1 hu;obtain⟨i,hi⟩:=List.getElem?_of_mem hx;obtain⟨y,hy⟩:∃ y,l[i]?=some y:=⟨_,awZ (by have:=(axi.1 hi).1;rw[hl] at this;exact this)⟩;exact hone x y (h1 i x y hi hy) u hux
theorem qu{α:Type}{k:Nat}{R R':List Value→α→Prop}{w:World}{v:Value}{l:List α}(h:aC k R w v l)(hr:∀ x y,R x y→R' x y):aC k R' w v l:=by
 obtain⟨es,h1,h2,h3,h4⟩:=h;exact⟨es,h1,h2,h3,fun i x y hx hy=>hr x y (h4 i x y hx hy)⟩
structure nh (p:aF):Prop where
 classes:p.classes.length≤1000000
 perms:∀ x∈p.classes,x.perms.length≤1000000
 types:p.types.length≤1000000
 pq:∀ x∈p.types,x.pq.length≤1000000
 attrs:p.attrs.length≤1000000
 roles:p.roles.length≤1000000
 users:p.users.length≤1000000
 bools:p.bools.length≤1000000
 bf:p.bf.length≤1000000
 cats:p.cats.length≤1000000
 conds:p.conds.length≤1000000
 P5:∀ x∈p.conds,mH x
 rules:p.rules.length≤1000000
 trans:p.trans.length≤1000000
 aT:p.aT.length≤1000000
 ranges:p.ranges.length≤1000000
 cons:p.cons.length≤1000000
 akM:∀ x∈p.cons,mH x.expr
 bL:p.bL.length≤1000000
 files:p.files.length≤1000000
 asserts:p.asserts.length≤1000000
def DX(wb:World)(p:aF):Good:=fun v u=>∃ x0 n0 x1 n1 x2 n2 x3 n3 x4 n4 x5 n5 x6 n6 x7 n7 x8 n8 x9 n9 x10 n10 pH n11 pG n12 IE n13 IC n14 IB n15 Iz n16 T,v=.agg #[.slice x0 p.classes.length n0,.slice x1 p.types.length n1,.slice x2 p.attrs.length n2,.slice x3 p.roles.length n3,.slice x4 p.users.length n4,.slice x5 p.bools.length n5,.slice x6 p.bf.length n6,.slice x7 p.cats.length n7,.slice x8 p.conds.length n8,.slice x9 p.rules.length n9,.slice x10 p.trans.length n10,.slice pH p.aT.length n11,.slice pG p.ranges.length n12,.slice IE p.cons.length n13,.slice IC p.bL.length n14,.slice IB p.files.length n15,.slice Iz p.asserts.length n16]∧RowsIn wb.heap.size u T∧∀ B u',RowsIn B u' T→aK u' (.slice x0 p.classes.length n0) (.slice x1 p.types.length n1) (.slice x2 p.attrs.length n2) (.slice x3 p.roles.length n3) (.slice x4 p.users.length n4) (.slice x5 p.bools.length n5) (.slice x6 p.bf.length n6) (.slice x7 p.cats.length n7) (.slice x8 p.conds.length n8) (.slice x9 p.rules.length n9) (.slice x10 p.trans.length n10) (.slice pH p.aT.length n11) (.slice pG p.ranges.length n12) (.slice IE p.cons.length n13) (.slice IC p.bL.length n14) (.slice IB p.files.length n15) (.slice Iz p.asserts.length n16) p
theorem xZ(w0:World)(c0 c1 c2 c3 c4 c5 c6 c7 c8 c9 aR aO aN aQ aM aL aP:Value)(p:aF)(hp:aK w0 c0 c1 c2 c3 c4 c5 c6 c7 c8 c9 aR aO aN aQ aM aL aP p)(jk:nh p):Calls Tryz.prog 81 #[.agg #[c0,c1,c2,c3,c4,c5,c6,c7,c8,c9,aR,aO,aN,aQ,aM,aL,aP]] w0 (fun(r:Ending) (w':World)=>∃ v,r=.returned v∧(DX w0 p v w'∧awX w0.heap.size w0 w')):=by
 obtain⟨a0,a1,a2,a3,a4,a5,a6,a7,a8,a9,Qi,Qh,a12,XQ,Qg,Qf,Qe,k0,k1,k2,k3,k4,k5,k6,k7,k8,k9,k10,k11,k12,k13,k14,k15,k16,rfl,rfl,rfl,rfl,rfl,rfl,rfl,rfl,rfl,rfl,rfl,rfl,rfl,rfl,rfl,rfl,rfl⟩:=hp.open;refine dD [] (fn:=Tryz.f81) Tryz.func81 rfl Tryz.ntmps81 rfl<|fun g1 w1 M1=>ei<|an lJ fun g2 w2 M2=>lb 1<|an rfl<|ei<|an lJ fun g3 w3 M3=>lb 0<|an ⟨rfl,rfl⟩ fun w4 M4=>lb 0<|an ⟨rfl,rfl⟩ fun w5 M5=>lb 0<|an ⟨rfl,rfl⟩ fun w6 M6=>lb 0<|an ⟨rfl,rfl⟩ fun w7 M7=>lb 0<|an ⟨rfl,rfl⟩ fun w8 M8=>?_
 clear M1 M2 M3 M4 M5 M6 M7 M8;refine lb 2<|an rfl<|lp (ι:=Nat×Value×List (List Value)×List Rw) (fun(m0,u,PS,T0)=>[(20,.int .i64 (m0:Int))]) (fun(m0,u,PS,T0)=>(g3,39,#[u,.slice none 0 0,.slice a2 p.attrs.length k2,.slice a3 p.roles.length k3,.slice a4 p.users.length k4,.slice a5 p.bools.length k5,.slice a6 p.bf.length k6,.slice a7 p.cats.length k7,.slice none 0 0,.slice a9 p.rules.length k9,.slice Qi p.trans.length k10,.slice Qh p.aT.length k11,.slice a12 p.ranges.length k12,.slice none 0 0,.slice Qg p.bL.length k14,.slice Qf p.files.length k15,.slice Qe p.asserts.length k16])::_) (fun(m0,u,PS,T0)=>⟨u,180,2,m0,PS.flatten⟩::([]++T0)) (fun(m0,u,PS,T0) _=>m0≤p.classes.length∧PS.length=m0∧(∀ x∈PS,x.length=2)∧(∀ (i:Nat) x y,PS[i]?=some x→p.classes[i]?=some y→vS T0 x y)∧∀ r∈([]:List Rw),r∈T0) (fun(m0,u,PS,T0)=>p.classes.length-m0) (0,.slice none 0 0,[],[]) (an ⟨⟨rfl,trivial⟩,fun M=>⟨M.bM 180 2,awY _,rfl,(fun _ h=>by cases h),(fun i x y h=>by simp at h),fun _ h=>h⟩⟩ ?_);rintro⟨m0,u,PS,T0⟩ w M ⟨hm0,hl0,he0,hR0,hs0⟩;refine an (fun h=>?_) fun h=>?_
 ·have hlt:m0<p.classes.length:=by simp at h;omega
  have hB:=jk.classes;obtain⟨y,hy⟩:∃ y,p.classes[m0]?=some y:=⟨_,awZ hlt⟩;obtain⟨b,o,_,e,⟨pv,rfl,hpv⟩,hc⟩:=aC.elt hp.classes (by decide) hy;obtain⟨_,_,rfl,-⟩:=aU.get hpv;have hsY:=jk.perms y (aw3 hy);exact ia<|an ⟨e,rfl,hlt⟩<|lc<|an (dH M.below hc)<|ei<|an OG fun g4 w9 M9=>lb 0<|an ⟨rfl,rfl⟩ fun rz nI=>lb 0<|an rfl<|Ih nI ((jq _ _ _ _ (hpv.keep nI.below) (by omega)).mono fun _ _ ⟨v',e,h1,_,h3⟩=>⟨v',e,h1,h3⟩) fun pa pc Dp M11=>lb 0<|an ⟨rfl,rfl⟩ fun Ie EW=>lb 1<|an rfl<|lb 0<|an rfl<|fun g5 LK zC=>Ii 1 id rfl (zC.slice 0 rfl (k:=2) (n:=1) rfl rfl (by simp[maxLen])) ⟨by unfold maxLen;omega,by omega⟩ fun va vc XH Lg=>lb 2<|an ⟨rfl,rfl⟩ fun Qz Ij=>an (by omega)<|bk (m0+1,.slice va (m0+1) vc,PS++[[.string y.name,.slice pa y.perms.length pc]],⟨.slice pa y.perms.length pc,9,1,y.perms.length,y.perms.flatMap aX⟩::T0) ⟨rfl,trivial⟩ (fun M=>⟨((M.only (.cons _ (.cons _ (.refl _))) (.refl _)).perm (List.perm_middle (l₁:=_::[])).symm).cast rfl (by dsimp only;rw[← iO];rfl),by omega,by rw[axc,hl0];rfl,lX he0 rfl,uJ (R:=vS) (fun _ _ _ _ hs0 h=>vS.mono hs0 h) hl0 hR0 hy (fun r hr=>axm _ hr) ⟨_,_,rfl,axn ..⟩,fun r hr=>axm _ (hs0 r hr)⟩) (by dsimp only;omega)
 have hq0:m0=p.classes.length:=by simp at h;omega
 obtain⟨x0,y0,rfl⟩:=M.form 0 rfl;clear M h;refine lb 2<|an rfl<|lp (ι:=Nat×Value×List (List Value)×List Rw) (fun(m1,u,Ss,T1)=>[(38,.int .i64 (m1:Int))]) (fun(m1,u,Ss,T1)=>(g3,39,#[.slice x0 m0 y0,u,.slice a2 p.attrs.length k2,.slice a3 p.roles.length k3,.slice a4 p.users.length k4,.slice a5 p.bools.length k5,.slice a6 p.bf.length k6,.slice a7 p.cats.length k7,.slice none 0 0,.slice a9 p.rules.length k9,.slice Qi p.trans.length k10,.slice Qh p.aT.length k11,.slice a12 p.ranges.length k12,.slice none 0 0,.slice Qg p.bL.length k14,.slice Qf p.files.length k15,.slice Qe p.asserts.length k16])::_) (fun(m1,u,Ss,T1)=>⟨u,86,3,m1,Ss.flatten⟩::([(⟨.slice x0 m0 y0,180,2,m0,PS.flatten⟩:Rw)]++T1)) (fun(m1,u,Ss,T1) _=>m1≤p.types.length∧Ss.length=m1∧(∀ x∈Ss,x.length=3)∧(∀ (i:Nat) x y,Ss[i]?=some x→p.types[i]?=some y→vL T1 x y)∧∀ r∈(T0:List Rw),r∈T1) (fun(m1,u,Ss,T1)=>p.types.length-m1) (0,.slice none 0 0,[],T0) (an ⟨⟨rfl,trivial⟩,fun M=>⟨M.bM 86 3,awY _,rfl,(fun _ h=>by cases h),(fun i x y h=>by simp at h),fun _ h=>h⟩⟩ ?_);rintro⟨m1,u,Ss,T1⟩ w M ⟨hm1,hl1,Ct,hR1,hs1⟩;refine an (fun h=>?_) fun h=>?_
 ·have hlt:m1<p.types.length:=by simp at h;omega
  have hB:=jk.types;obtain⟨y,hy⟩:∃ y,p.types[m1]?=some y:=⟨_,awZ hlt⟩;obtain⟨b,o,_,e,⟨pv,rfl,hpv⟩,hc⟩:=aC.elt hp.types (by decide) hy;obtain⟨_,_,rfl,-⟩:=aU.get hpv;have hsY:=jk.pq y (aw3 hy);exact ia<|an ⟨e,rfl,hlt⟩<|lc<|an (dH M.below hc)<|ei<|an abx fun g4 w9 M9=>lb 0<|an ⟨rfl,rfl⟩ fun rz nI=>lb 0<|an rfl<|Ih nI ((jq _ _ _ _ (hpv.keep nI.below) (by omega)).mono fun _ _ ⟨v',e,h1,_,h3⟩=>⟨v',e,h1,h3⟩) fun pa pc Dp M11=>lb 0<|an ⟨rfl,rfl⟩ fun Ie EW=>lb 1<|an rfl<|lb 0<|an rfl<|fun g5 LK zC=>Ii 1 id rfl (zC.slice 0 rfl (k:=3) (n:=1) rfl rfl (by simp[maxLen])) ⟨by unfold maxLen;omega,by omega⟩ fun va vc XH Lg=>lb 2<|an ⟨rfl,rfl⟩ fun Qz Ij=>an (by omega)<|bk (m1+1,.slice va (m1+1) vc,Ss++[[.string y.name,.slice pa y.pq.length pc,.bool y.perm]],⟨.slice pa y.pq.length pc,9,1,y.pq.length,y.pq.flatMap aX⟩::T1) ⟨rfl,trivial⟩ (fun M=>⟨((M.only (.cons _ (.cons _ (.refl _))) (.refl _)).perm (List.perm_middle (l₁:=_::[(⟨.slice x0 m0 y0,180,2,m0,PS.flatten⟩:Rw)])).symm).cast rfl (by dsimp only;rw[← iO];rfl),by omega,by rw[axc,hl1];rfl,lX Ct rfl,uJ (R:=vL) (fun _ _ _ _ hs1 h=>vL.mono hs1 h) hl1 hR1 hy (fun r hr=>axm _ hr) ⟨_,_,rfl,axn ..⟩,fun r hr=>axm _ (hs1 r hr)⟩) (by dsimp only;omega)
 have hq1:m1=p.types.length:=by simp at h;omega
 obtain⟨x1,y1,rfl⟩:=M.form 0 rfl;clear M h;refine lb 2<|an rfl<|lp (ι:=Nat×Value×List (List Value)×List Rw) (fun(m8,u,WD,T8)=>[(56,.int .i64 (m8:Int))]) (fun(m8,u,WD,T8)=>(g3,39,#[.slice x0 m0 y0,.slice x1 m1 y1,.slice a2 p.attrs.length k2,.slice a3 p.roles.length k3,.slice a4 p.users.length k4,.slice a5 p.bools.length k5,.slice a6 p.bf.length k6,.slice a7 p.cats.length k7,u,.slice a9 p.rules.length k9,.slice Qi p.trans.length k10,.slice Qh p.aT.length k11,.slice a12 p.ranges.length k12,.slice none 0 0,.slice Qg p.bL.length k14,.slice Qf p.files.length k15,.slice Qe p.asserts.length k16])::_) (fun(m8,u,WD,T8)=>⟨u,89,10,m8,WD.flatten⟩::([(⟨.slice x1 m1 y1,86,3,m1,Ss.flatten⟩:Rw),(⟨.slice x0 m0 y0,180,2,m0,PS.flatten⟩:Rw)]++T8)) (fun(m8,u,WD,T8) _=>m8≤p.conds.length∧WD.length=m8∧(∀ x∈WD,x.length=10)∧(∀ (i:Nat) x y,WD[i]?=some x→p.conds[i]?=some y→dB T8 x y)∧∀ r∈(T1:List Rw),r∈T8) (fun(m8,u,WD,T8)=>p.conds.length-m8) (0,.slice none 0 0,[],T1) (an ⟨⟨rfl,trivial⟩,fun M=>⟨M.bM 89 10,awY _,rfl,(fun _ h=>by cases h),(fun i x y h=>by simp at h),fun _ h=>h⟩⟩ ?_);rintro⟨m8,u,WD,T8⟩ w M ⟨hm8,Zh,he8,hR8,XI⟩;refine an (fun h=>?_) fun h=>?_
 ·have hlt:m8<p.conds.length:=by simp at h;omega
  have hB:=jk.conds;obtain⟨y,hy⟩:∃ y,p.conds[m8]?=some y:=⟨_,awZ hlt⟩;obtain⟨b,o,_,e,hE,hc⟩:=aC.elt hp.conds (by decide) hy;obtain⟨_,_,rfl,hn,hk⟩:=hE.open;obtain⟨_,_,rfl,-⟩:=aU.get hn;obtain⟨_,_,rfl,-⟩:=aC.form hk (by decide);have hsY:=jk.P5 y (aw3 hy);refine ia<|an ⟨e,rfl,hlt⟩<|lc<|an (dH M.below hc)<|ei<|an AP fun g4 w9 M9=>lb 0<|an ⟨rfl,rfl⟩ fun rz nI=>?_
  refine dr (by kernel_rfl)<|lb 1<|an rfl<|lb 0<|an rfl<|cr (EZ rz y)<|an (Nd _ _)<|an (fun w' hb' M'=>Sr (MI y _ _ (hE.keep M'.below) hsY) hb')<|br (SlE rz y)<|an (RO _ _)<|an (fun u w1 a o' hb M' hu hop oF=>?_)<|fun u Dp hu Nz M11=>?_
  ·obtain⟨na,nc,ka,kc,T9,rfl,TN,Wd⟩:=hu;obtain⟨v,w2,h1,⟨g,h2,h3,h4⟩,h5⟩:=bK (w:=rz) (p:=fun _=>True) (kk:=10) (b:=112) (by kernel_rfl) rfl rfl (by decide) (by decide) (by simp[Value.cells]) rfl w1 a o' hb trivial hop oF;exact⟨v,w2,h1,⟨g,na,nc,ka,kc,T9,h2,h3,TN,Wd.keep h5⟩,h5⟩
  obtain⟨g,na,nc,ka,kc,T9,rfl,hW,TN,Wd⟩:=hu;exact Ii 0 (fun _=>nI.eA Nz Wd) rfl (yL hW rfl TN.one) ⟨by unfold maxLen;omega,by omega⟩ fun va vc Ie EW=>lb 1<|an ⟨rfl,rfl⟩ fun LK zC=>an (by omega)<|bk (m8+1,.slice va (m8+1) vc,WD++[[.int .i64 y.op,.int .i64 y.a,.int .i64 y.rel,.int .i64 y.b,.slice na y.names.length nc,.int .u64 y.set.a,.int .u64 y.set.b,.int .u64 y.set.c,.int .u64 y.set.d,.slice ka y.kids.length kc]],T8++T9) ⟨rfl,trivial⟩ (fun M=>⟨(M.only (.cons _ (.refl _)) (.refl _)).cast rfl (by dsimp only;rw[← iO];simp),by omega,by rw[axc,Zh];rfl,lX he8 rfl,uJ (R:=dB) (fun _ _ _ _ XI h=>dB.mono XI h) Zh hR8 hy (fun r hr=>aw9.2 (.inl hr)) (TN.mono fun r hr=>aw9.2 (.inr hr)),fun r hr=>aw9.2 (.inl (XI r hr))⟩) (by dsimp only;omega)
 have hq8:m8=p.conds.length:=by simp at h;omega
 obtain⟨x8,y8,rfl⟩:=M.form 0 rfl;clear M h;refine lb 2<|an rfl<|lp (ι:=Nat×Value×List (List Value)×List Rw) (fun(m13,u,DJ,Tg)=>[(71,.int .i64 (m13:Int))]) (fun(m13,u,DJ,Tg)=>(g3,39,#[.slice x0 m0 y0,.slice x1 m1 y1,.slice a2 p.attrs.length k2,.slice a3 p.roles.length k3,.slice a4 p.users.length k4,.slice a5 p.bools.length k5,.slice a6 p.bf.length k6,.slice a7 p.cats.length k7,.slice x8 m8 y8,.slice a9 p.rules.length k9,.slice Qi p.trans.length k10,.slice Qh p.aT.length k11,.slice a12 p.ranges.length k12,u,.slice Qg p.bL.length k14,.slice Qf p.files.length k15,.slice Qe p.asserts.length k16])::_) (fun(m13,u,DJ,Tg)=>⟨u,91,13,m13,DJ.flatten⟩::([(⟨.slice x8 m8 y8,89,10,m8,WD.flatten⟩:Rw),(⟨.slice x1 m1 y1,86,3,m1,Ss.flatten⟩:Rw),(⟨.slice x0 m0 y0,180,2,m0,PS.flatten⟩:Rw)]++Tg)) (fun(m13,u,DJ,Tg) _=>m13≤p.cons.length∧DJ.length=m13∧(∀ x∈DJ,x.length=13)∧(∀ (i:Nat) x y,DJ[i]?=some x→p.cons[i]?=some y→vR Tg x y)∧∀ r∈(T8:List Rw),r∈Tg) (fun(m13,u,DJ,Tg)=>p.cons.length-m13) (0,.slice none 0 0,[],T8) (an ⟨⟨rfl,trivial⟩,fun M=>⟨M.bM 91 13,awY _,rfl,(fun _ h=>by cases h),(fun i x y h=>by simp at h),fun _ h=>h⟩⟩ ?_);rintro⟨m13,u,DJ,Tg⟩ w M ⟨ajG,acO,af3,agh,R4⟩;refine an (fun h=>?_) fun h=>?_
 ·have hlt:m13<p.cons.length:=by simp at h;omega
  have hB:=jk.cons;obtain⟨y,hy⟩:∃ y,p.cons[m13]?=some y:=⟨_,awZ hlt⟩;obtain⟨b,o,_,e,⟨_,rfl,hE⟩,hc⟩:=aC.elt hp.cons (by decide) hy;obtain⟨_,_,rfl,hn,hk⟩:=hE.open;obtain⟨_,_,rfl,-⟩:=aU.get hn;obtain⟨_,_,rfl,-⟩:=aC.form hk (by decide);have hsY:=jk.akM y (aw3 hy);refine ia<|an ⟨e,rfl,hlt⟩<|lc<|an (dH M.below hc)<|ei<|an Qp fun g4 w9 M9=>lb 0<|an ⟨rfl,rfl⟩ fun rz nI=>?_
  refine lb 0<|an rfl<|cg<|an (MI y.expr _ _ (hE.keep nI.below) hsY) fun v Dp ⟨⟨na,nc,ka,kc,T9,hv,TN,Wd⟩,Nz⟩=>⟨_,_,nI.eA Nz Wd,?_⟩
  subst hv;exact lb 0<|an ⟨rfl,rfl⟩ fun Ie EW=>lb 1<|an rfl<|lb 0<|an rfl<|fun g5 LK zC=>Ii 0 id rfl (zC.slice 0 rfl (k:=13) (n:=1) rfl rfl (by simp[maxLen])) ⟨by unfold maxLen;omega,by omega⟩ fun va vc XH Lg=>lb 2<|an ⟨rfl,rfl⟩ fun Qz Ij=>an (by omega)<|bk (m13+1,.slice va (m13+1) vc,DJ++[[.int .i64 y.cls,.int .u32 y.perms,.bool y.val,.int .i64 y.expr.op,.int .i64 y.expr.a,.int .i64 y.expr.rel,.int .i64 y.expr.b,.slice na y.expr.names.length nc,.int .u64 y.expr.set.a,.int .u64 y.expr.set.b,.int .u64 y.expr.set.c,.int .u64 y.expr.set.d,.slice ka y.expr.kids.length kc]],Tg++T9) ⟨rfl,trivial⟩ (fun M=>⟨(M.only (.cons _ (.cons _ (.refl _))) (.refl _)).cast rfl (by dsimp only;rw[← iO];simp),by omega,by rw[axc,acO];rfl,lX af3 rfl,uJ (R:=vR) (fun _ _ _ _ R4 h=>vR.mono R4 h) acO agh hy (fun r hr=>aw9.2 (.inl hr)) ⟨_,rfl,TN.mono fun r hr=>aw9.2 (.inr hr)⟩,fun r hr=>aw9.2 (.inl (R4 r hr))⟩) (by dsimp only;omega)
 have ajo:m13=p.cons.length:=by simp at h;omega
 obtain⟨IE,y13,rfl⟩:=M.form 0 rfl;clear M h;refine sp [0,1,3,4,6,7,9,10,12,14,16,18] (.step 2 (.step 5 (.step 8 (.step 11 (.step 13 (.step 15 (.step 17 (.step 19 (.done))))))))) [0] (by kernel_rfl)<|lb 0<|an rfl<|lb 0<|an rfl<|lb 0<|an rfl<|lb 0<|an rfl<|fun w hb M=>Ih M ((Hh _ _ _ _ (hp.attrs.keep M.below) (by have:=jk.attrs;omega)).mono fun _ _ ⟨v',e,h1,_,h3⟩=>⟨v',e,h1,h3⟩) fun x2 y2 w M=>an rfl<|Ih M ((He _ _ _ _ (hp.roles.keep M.below) (by have:=jk.roles;omega)).mono fun _ _ ⟨v',e,h1,_,h3⟩=>⟨v',e,h1,h3⟩) fun x3 y3 w M=>an rfl<|Ih M ((G8 _ _ _ _ (hp.users.keep M.below) (by have:=jk.users;omega)).mono fun _ _ ⟨v',e,h1,_,h3⟩=>⟨v',e,h1,h3⟩) fun x4 y4 w M=>an rfl<|Ih M ((G5 _ _ _ _ (hp.bools.keep M.below) (by have:=jk.bools;omega)).mono fun _ _ ⟨v',e,h1,_,h3⟩=>⟨v',e,h1,h3⟩) fun x5 y5 w M=>an rfl<|lb 0<|an ⟨rfl,rfl⟩ fun w M=>an rfl<|lb 0<|an ⟨rfl,rfl⟩ fun w M=>an rfl<|lb 0<|an ⟨rfl,rfl⟩ fun w M=>an rfl<|lb 0<|an ⟨rfl,rfl⟩ fun w M=>an rfl<|?_
 refine sp [0,1,3,4,6,7,9,10,12,14,16,18] (.step 2 (.step 5 (.step 8 (.step 11 (.step 13 (.step 15 (.step 17 (.step 19 (.done))))))))) [0] (by kernel_rfl)<|lb 0<|an rfl<|lb 0<|an rfl<|lb 0<|an rfl<|lb 0<|an rfl<|fun w hb M=>Ih M ((jq _ _ _ _ (hp.bf.keep M.below) (by have:=jk.bf;omega)).mono fun _ _ ⟨v',e,h1,_,h3⟩=>⟨v',e,h1,h3⟩) fun x6 y6 w M=>an rfl<|Ih M ((jq _ _ _ _ (hp.cats.keep M.below) (by have:=jk.cats;omega)).mono fun _ _ ⟨v',e,h1,_,h3⟩=>⟨v',e,h1,h3⟩) fun x7 y7 w M=>an rfl<|Ih M ((G2 _ _ _ _ (hp.rules.keep M.below) (by have:=jk.rules;omega)).mono fun _ _ ⟨v',e,h1,_,h3⟩=>⟨v',e,h1,h3⟩) fun x9 y9 w M=>an rfl<|Ih M ((GZ _ _ _ _ (hp.trans.keep M.below) (by have:=jk.trans;omega)).mono fun _ _ ⟨v',e,h1,_,h3⟩=>⟨v',e,h1,h3⟩) fun x10 vV w M=>an rfl<|lb 0<|an ⟨rfl,rfl⟩ fun w M=>an rfl<|lb 0<|an ⟨rfl,rfl⟩ fun w M=>an rfl<|lb 0<|an ⟨rfl,rfl⟩ fun w M=>an rfl<|lb 0<|an ⟨rfl,rfl⟩ fun w M=>an rfl<|?_
 refine sp [0,1,3,4,6,7,9,11,13] (.step 2 (.step 5 (.step 8 (.step 10 (.step 12 (.step 14 (.done))))))) [0] (by kernel_rfl)<|lb 0<|an rfl<|lb 0<|an rfl<|lb 0<|an rfl<|fun w hb M=>Ih M ((GW _ _ _ _ (hp.aT.keep M.below) (by have:=jk.aT;omega)).mono fun _ _ ⟨v',e,h1,_,h3⟩=>⟨v',e,h1,h3⟩) fun pH Dw w M=>an rfl<|Ih M ((GS _ _ _ _ (hp.ranges.keep M.below) (by have:=jk.ranges;omega)).mono fun _ _ ⟨v',e,h1,_,h3⟩=>⟨v',e,h1,h3⟩) fun pG Dv w M=>an rfl<|Ih M ((GP _ _ _ _ (hp.bL.keep M.below) (by have:=jk.bL;omega)).mono fun _ _ ⟨v',e,h1,_,h3⟩=>⟨v',e,h1,h3⟩) fun IC y14 w M=>an rfl<|lb 0<|an ⟨rfl,rfl⟩ fun w M=>an rfl<|lb 0<|an ⟨rfl,rfl⟩ fun w M=>an rfl<|lb 0<|an ⟨rfl,rfl⟩ fun w M=>an rfl<|?_
 refine sp [0,1,3,4,6,8] (.step 2 (.step 5 (.step 7 (.step 9 (.done))))) [0] (by kernel_rfl)<|lb 0<|an rfl<|lb 0<|an rfl<|fun w hb M=>Ih M ((GJ _ _ _ _ (hp.files.keep M.below) (by have:=jk.files;omega)).mono fun _ _ ⟨v',e,h1,_,h3⟩=>⟨v',e,h1,h3⟩) fun IB y15 w M=>an rfl<|Ih M ((GF _ _ _ _ (hp.asserts.keep M.below) (by have:=jk.asserts;omega)).mono fun _ _ ⟨v',e,h1,_,h3⟩=>⟨v',e,h1,h3⟩) fun Iz y16 w M=>an rfl<|lb 0<|an ⟨rfl,rfl⟩ fun w M=>an rfl<|lb 0<|an ⟨rfl,rfl⟩ fun w M=>an rfl<|?_
 refine lb 0<|an rfl<|lb 1<|an ⟨rfl,rfl⟩ fun w M=>ei (x:=1)<|an rfl fun M=>?_
 subst hq0 hq1 hq8 ajo
 exact⟨_,rfl,⟨_,_,_,_,_,_,_,_,_,_,_,_,_,_,_,_,_,_,_,_,_,_,_,_,_,_,_,_,_,_,_,_,_,_,_,rfl,M.dW,fun B u qG=>⟨qu (uH (R:=vS _) (qG.1 _ (aw3 (i:=16) rfl)) rfl hl0 he0 (fun i x y h1 h2=>vS.mono (fun r hr=>show r∈[_,_,_,_,_,_,_,_,_,_,_,_,_,_,_,_,_]++Tg from aw9.2 (.inr (R4 r (XI r (hs1 r hr))))) (hR0 i x y h1 h2)) fun _ _ h=>vS.one h) fun _ _ h=>vS.at_ qG h,
  qu (uH (R:=vL _) (qG.1 _ (aw3 (i:=15) rfl)) rfl hl1 Ct (fun i x y h1 h2=>vL.mono (fun r hr=>show r∈[_,_,_,_,_,_,_,_,_,_,_,_,_,_,_,_,_]++Tg from aw9.2 (.inr (R4 r (XI r hr)))) (hR1 i x y h1 h2)) fun _ _ h=>vL.one h) fun _ _ h=>vL.at_ qG h,
  SliceAt.bC (qG.1 _ (aw3 (i:=12) rfl)) (dX fun _=>rfl),
  SliceAt.bC (qG.1 _ (aw3 (i:=11) rfl)) (dX fun _=>rfl),
  SliceAt.bC (qG.1 _ (aw3 (i:=10) rfl)) (dX fun _=>rfl),
  SliceAt.bC (qG.1 _ (aw3 (i:=9) rfl)) (dX fun _=>rfl),
  SliceAt.bC (qG.1 _ (aw3 (i:=8) rfl)) (I9 _),
  SliceAt.bC (qG.1 _ (aw3 (i:=7) rfl)) (I9 _),
  qu (uH (R:=dB _) (qG.1 _ (aw3 (i:=14) rfl)) rfl Zh he8 (fun i x y h1 h2=>dB.mono (fun r hr=>show r∈[_,_,_,_,_,_,_,_,_,_,_,_,_,_,_,_,_]++Tg from aw9.2 (.inr (R4 r hr))) (hR8 i x y h1 h2)) fun _ _ h=>dB.one h) fun _ _ h=>dB.at_ qG h,
  SliceAt.bC (qG.1 _ (aw3 (i:=6) rfl)) (dX fun _=>rfl),
  SliceAt.bC (qG.1 _ (aw3 (i:=5) rfl)) (dX fun _=>rfl),
  SliceAt.bC (qG.1 _ (aw3 (i:=4) rfl)) (dX fun _=>rfl),
  SliceAt.bC (qG.1 _ (aw3 (i:=3) rfl)) (dX fun _=>rfl),
  qu (uH (R:=vR _) (qG.1 _ (aw3 (i:=13) rfl)) rfl acO af3 (fun i x y h1 h2=>vR.mono (fun r hr=>show r∈[_,_,_,_,_,_,_,_,_,_,_,_,_,_,_,_,_]++Tg from aw9.2 (.inr (hr))) (agh i x y h1 h2)) fun _ _ h=>vR.one h) fun _ _ h=>vR.at_ qG h,
  SliceAt.bC (qG.1 _ (aw3 (i:=2) rfl)) (dX fun _=>rfl),
  SliceAt.bC (qG.1 _ (aw3 (i:=1) rfl)) (dX fun _=>rfl),
  SliceAt.bC (qG.1 _ (aw3 (i:=0) rfl)) (dX fun _=>rfl)⟩⟩,M.below⟩
def nk{α:Type}(l:List α)(o:List Int)(n:Nat):List α:=(List.range n).filterMap fun(k:Nat)=>if o.contains (k:Int)=true then none else l[k]?
def mK(p:aF)(o:List Int):aF:={ p with rules:=nk p.rules o p.rules.length }
section
variable {α:Type} {l:List α} {o:List Int} {m:Nat} {z:α}
theorem abG(hz:l[m]?=some z)(h:o.contains (m:Int)=false):nk l o (m+1)=nk l o m++[z]:=by
 unfold nk;rw[List.range_succ,aw_,List.filterMap_cons,if_neg (by rw[h];decide),hz];rfl
theorem aaf(h:o.contains (m:Int)=true):nk l o (m+1)=nk l o m:=by
 unfold nk;rw[List.range_succ,aw_,List.filterMap_cons,if_pos h];simp
theorem Uf{l:List aj}{z:aj}{v:Value}{e:TypeId}{k:Nat}{rs:List Rw}(hz:l[m]?=some z)(h:o.contains (m:Int)=false):
 (⟨v,e,k,(nk l o m).length+1,(nk l o m).flatMap aj.cells++z.cells⟩::rs:List Rw)=⟨v,e,k,(nk l o (m+1)).length,(nk l o (m+1)).flatMap aj.cells⟩::rs:=by
 rw[abG hz h,axc,axd,List.flatMap_cons,List.flatMap_nil,List.append_nil];rfl
theorem wF:∀ n,(nk l o n).length≤n:=fun n=>axb (List.length_filterMap_le _ _) (by simp)
end
def Nr(l:List Int)(x:Int):Int:=match l.findIdx? (fun y=>decide (x=y)) with|some i=>(i:Int)|none=>-1
theorem acA{l:List Int}{x:Int}{m:Nat}{y:Int}(hy:l[m]?=some y)(h:∀ j z,j<m→l[j]?=some z→x≠z)(e:x=y):(m:Int)=Nr l x:=by
 unfold Nr
 have:l.findIdx? (fun y=>decide (x=y))=some m:=by
  obtain⟨hm,hy'⟩:=axi.1 hy;rw[List.findIdx?_eq_some_iff_getElem];refine⟨hm,by rw[hy'];simpa using e,fun j hj=>?_⟩;have:=h j (l[j]) hj (awZ (by omega));simpa using this
 rw[this]
theorem Py{l:List Int}{x:Int}{m:Nat}(hm:m=l.length)(h:∀ j z,j<m→l[j]?=some z→x≠z):-1=Nr l x:=by
 unfold Nr
 have:l.findIdx? (fun y=>decide (x=y))=none:=by
  rw[List.findIdx?_eq_none_iff];intro y hy;obtain⟨j,hj⟩:=List.getElem?_of_mem hy;have:=h j y (by have:=(axi.1 hj).1;omega) hj;simpa using this
 rw[this]
theorem JY{l:List Int}{x:Int}{m:Nat}{y:Int}(hy:l[m]?=some y)(h:∀ j z,j<m→l[j]?=some z→x≠z)(e:x≠y):∀ j z,j<m+1→l[j]?=some z→x≠z:=fun j z hj hz=>by
 by_cases ej:j=m
 ·subst ej;obtain rfl:=aw1 (hy.symm.trans hz);exact e
 ·exact h j z (by omega) hz
theorem Px(l:List Int)(x:Int):decide (0≤Nr l x)=l.contains x:=by
 unfold Nr
 cases h:l.findIdx? (fun y=>decide (x=y)) with
 | none=>
  rw[List.findIdx?_eq_none_iff] at h
  have:l.contains x=false:=by
   cases hc:l.contains x with
   | false=>rfl
   | true=>
    have hm:x∈l:=by simpa using hc
    have:=h x hm;simp at this
  rw[this];rfl
 | some i=>
  obtain⟨hi,h2,-⟩:=List.findIdx?_eq_some_iff_getElem.1 h;have e:x=l[i]:=by simpa using h2
  have:l.contains x=true:=by
   have:x∈l:=e▸List.getElem_mem hi;simpa using this
  rw[this];show decide (0≤((i:Nat):Int))=true;exact decide_eq_true (by omega)
def anyI(n:Int):List Value:=[.int .i64 n]
theorem Nl(w0:World)(v:Value)(l:List Int)(h:SliceAt w0 v 1 l.length (l.flatMap anyI))(x:Int):Calls Tryz.prog 168 #[v,.int .i64 x] w0 (fun(r:Ending) (w':World)=>r=.returned (.int .i64 (Nr l x))∧awX w0.heap.size w0 w'):=by
 obtain⟨_,_,rfl,-,hm5,-⟩:=SliceAt.form h (by decide);refine dD [] (fn:=Tryz.f168) Tryz.func168 rfl Tryz.ntmps168 rfl<|lr (ι:=Nat) (fun m=>[(8,.int .i64 (m:Int))]) (fun m _=>m≤l.length∧∀ j z,j<m→l[j]?=some z→x≠z) (fun m=>l.length-m) 0 (an ⟨⟨rfl,trivial⟩,fun M=>⟨M,awY _,fun j z h=>absurd h (Nat.not_lt_zero j)⟩⟩ ?_);intro m w M ⟨hm,hne⟩;refine an (fun h1=>?_) fun h1 M=>⟨ri (Py (by simp at h1;omega) hne).symm,M.below⟩
 have hlt:m<l.length:=by simp at h1;omega
 obtain⟨y,hy⟩:∃ y,l[m]?=some y:=⟨_,awZ hlt⟩;obtain⟨b,o,e,hc⟩:=SliceAt.elt h (fun _=>rfl) (by decide) hy hlt;refine ia<|an ⟨e,rfl,hlt⟩<|lc (x:=.int .i64 y)<|an (dH M.below hc 0 _ rfl)<|an (fun h2 M=>⟨ri (acA hy hne (by simpa using h2)).symm,M.below⟩) fun h2=>an (by omega)<|bk (m+1) ⟨rfl,trivial⟩ (fun M=>⟨M,by omega,JY hy hne (by simpa using h2)⟩) (by dsimp only;omega)
theorem DQ(w0:World)(v:Value)(l:List Int)(h:SliceAt w0 v 1 l.length (l.flatMap anyI))(x:Int):Calls Tryz.prog 82 #[v,.int .i64 x] w0 (fun(r:Ending) (w':World)=>r=.returned (.bool (l.contains x))∧awX w0.heap.size w0 w'):=by
 obtain⟨_,_,rfl,-⟩:=SliceAt.form h (by decide);exact dD [] (fn:=Tryz.f82) Tryz.func82 rfl Tryz.ntmps82 rfl<|cl<|an (Nl _ _ l h x) fun w1 M1=>fun M=>⟨rb (Px l x).symm,M.below⟩
theorem pY(w0:World)(c0 c1 c2 c3 c4 c5 c6 c7 c8 c9 aR aO aN aQ aM aL aP:Value)(p:aF)(hp:aK w0 c0 c1 c2 c3 c4 c5 c6 c7 c8 c9 aR aO aN aQ aM aL aP p)(_:p.Ok)(jk:nh p)(lv:Value)(o:List Int)(hlv:SliceAt w0 lv 1 o.length (o.flatMap anyI)):Calls Tryz.prog 30 #[.agg #[c0,c1,c2,c3,c4,c5,c6,c7,c8,c9,aR,aO,aN,aQ,aM,aL,aP],lv] w0 (fun(r:Ending) (w':World)=>∃ v,r=.returned v∧(DX w0 (mK p o) v w'∧awX w0.heap.size w0 w')):=by
 obtain⟨_,_,-,-,hmR,-⟩:=SliceAt.form hp.rules (by decide);obtain⟨_,_,_,_,_,_,_,_,_,_,_,_,_,_,_,_,_,_,_,_,_,_,_,_,_,_,_,_,_,_,_,_,_,_,rfl,rfl,rfl,rfl,rfl,rfl,rfl,rfl,rfl,rfl,rfl,rfl,rfl,rfl,rfl,rfl,rfl⟩:=hp.open;refine dD [] (fn:=Tryz.f30) Tryz.func30 rfl Tryz.ntmps30 rfl<|fun g1 w1 M1=>ei<|an lJ fun g2 w2 M2=>lb 1<|an rfl<|cg<|an (xZ _ _ _ _ _ _ _ _ _ _ _ _ _ _ _ _ _ _ p (hp.keep M2.below) jk) fun v w6 ⟨⟨x0,n0,x1,n1,x2,n2,x3,n3,x4,n4,x5,n5,x6,n6,x7,n7,x8,n8,x9,n9,x10,n10,pH,n11,pG,n12,IE,n13,IC,n14,IB,n15,Iz,n16,TC,hv,hRC,hPC⟩,Zo⟩=>⟨_,_,M2.eA Zo hRC,?_⟩
 subst hv;refine ei<|an lJ fun gp w7 M7=>lb 0<|an ⟨rfl,rfl⟩ fun w8 M8=>lb 0<|an ⟨rfl,rfl⟩ fun w9 M9=>lb 2<|an rfl<|lp (ι:=Nat×Value) (fun(k,v)=>[(14,.int .i64 (k:Int))]) (fun(k,v)=>(gp,39,#[.slice x0 p.classes.length n0,.slice x1 p.types.length n1,.slice x2 p.attrs.length n2,.slice x3 p.roles.length n3,.slice x4 p.users.length n4,.slice x5 p.bools.length n5,.slice x6 p.bf.length n6,.slice x7 p.cats.length n7,.slice x8 p.conds.length n8,v,.slice x10 p.trans.length n10,.slice pH p.aT.length n11,.slice pG p.ranges.length n12,.slice IE p.cons.length n13,.slice IC p.bL.length n14,.slice IB p.files.length n15,.slice Iz p.asserts.length n16])::_) (fun(k,v)=>⟨v,56,13,(nk p.rules o k).length,(nk p.rules o k).flatMap aj.cells⟩::_) (fun(k,v) _=>k≤p.rules.length) (fun(k,v)=>p.rules.length-k) (0,.slice none 0 0) (an ⟨⟨rfl,trivial⟩,fun M=>⟨M.bM 56 13,awY _⟩⟩ ?_)
 rintro⟨k,v⟩ w M hk;refine an (fun h=>?_) fun h=>?_
 ·have hlt:k<p.rules.length:=by simp at h;omega
  obtain⟨y,hy⟩:∃ y,p.rules[k]?=some y:=⟨_,awZ hlt⟩;obtain⟨b,of,e,hc⟩:=SliceAt.elt hp.rules (fun _=>rfl) (by decide) hy hlt;have hsl:=wF (l:=p.rules) (o:=o) k;have hrl:=jk.rules;refine ia<|an ⟨e,rfl,hlt⟩<|lc<|an (dH M.below hc)<|ei<|an mJ fun g4 rz nI=>lb 0<|an ⟨rfl,rfl⟩ fun Dp M11=>cl<|an (DQ _ lv o (hlv.keep M11.below) k) fun Ie EW=>an (fun hq=>?_) fun hq=>?_
  ·refine lb 1<|an rfl<|lb 0<|an rfl<|fun g7 Qz Ij=>Ii 0 id rfl (Ij.slice 0 rfl (k:=13) (n:=1) rfl rfl (by simp[maxLen])) ⟨by unfold maxLen;omega,by omega⟩ fun va vc w16 Og=>?_
   exact lb 2<|an ⟨rfl,rfl⟩ fun w17 Z6=>an (by omega)<|bk (k+1,.slice va ((nk p.rules o k).length+1) vc) ⟨rfl,trivial⟩ (fun M=>⟨(M.only (.cons _ (.cons _ (.refl _))) (.refl _)).cast rfl (Uf hy (by simpa using hq)),by dsimp only;omega⟩) (by dsimp only;omega)
  ·exact an (by omega)<|bk (k+1,v) ⟨rfl,trivial⟩ (fun M=>⟨(M.only (.cons _ (.refl _)) (.refl _)).cast rfl (by dsimp only;rw[aaf (by simpa using hq)]),by dsimp only;omega⟩) (by dsimp only;omega)
 obtain rfl:k=p.rules.length:=by simp at h;omega
 obtain⟨xa9,xc9,rfl⟩:=M.form 0 rfl;exact lb 0<|an rfl<|lb 1<|an ⟨rfl,rfl⟩ fun w M=>ei (x:=1)<|an rfl fun M=>⟨_,rfl,⟨_,_,_,_,_,_,_,_,_,_,_,_,_,_,_,_,_,_,_,_,_,_,_,_,_,_,_,_,_,_,_,_,_,_,_,rfl,M.dW,fun B u qG=>{ hPC B u ⟨fun r hr=>qG.1 r (axm _ hr),(List.pairwise_cons.1 qG.2).2⟩ with rules:=SliceAt.bC (qG.1 _ (aw3 (i:=0) rfl)) (dX fun _=>rfl) }⟩,M.below⟩
def dQ(p:aF):aF:={ p with rules:=tF aD p.rules }
def CH(l:List aj)(t:Nat):Nat→Option aj:=fun k=>if k<t then l[k]? else none
theorem adn{l:List aj}{t:Nat}{r:aj}(h:l[t]?=some r){L:List (Int×Value)}(hR:DW (CH l t) L):DW (CH l (t+1)) (((t:Int),rval r)::gW L (t:Int)):=fun k=>by
 rw[hR.put k];congr 1;unfold kD CH;by_cases e:k=t
 ·subst e;simp[h]
 ·rw[if_neg e];by_cases h2:k<t
  ·rw[if_pos h2,if_pos (by omega)]
  ·rw[if_neg h2,if_neg (by omega)]
theorem adl(l:List aj):seg (CH l l.length) 0 l.length=l:=by
 have key:∀ n,n≤l.length→seg (CH l l.length) 0 n=l.take n:=by
  intro n
  induction n with
  | zero=>intro _;rfl
  | succ n ih=>
   intro hn;rw[iR _ (awY n) (Nat.le_succ n),ih (by omega),jg _ (Nat.lt_succ_self n),Ab _ (Nat.le_refl _),List.append_nil,List.take_add_one];congr 1;unfold CH;rw[if_pos (by omega)]
 rw[key _ (Nat.le_refl _),aw2]
theorem agA{l:List aj}(h:∀ r∈l,r.Ok)(t:Nat):TR (CH l t):=fun k r e=>by
 unfold CH at e;split at e
 ·exact h r (aw3 e)
 ·cases e
section
variable {f f':Nat→Option aj} {n i:Nat}
theorem YL(hp:NP aD f n i n)(h:f i=none):NP aD f n (i+1) n:=fun j x k y h1 h2 h3 h4 h5 h6=>by
 by_cases e:j=i
 ·subst e;rw[h] at h2;cases h2
 ·exact hp j x k y (by omega) h2 h3 h4 h5 h6
theorem ace(hp:NP aD f n i n)(h:∀ a,f i=some a→∀ k y,i<k→k<n→f k=some y→aD a y=none):NP aD f n (i+1) n:=fun j x k y h1 h2 h3 h4 h5 h6=>by
 by_cases e:j=i
 ·subst e;exact h x h2 k y h3 h4 h6
 ·exact hp j x k y (by omega) h2 h3 h4 h5 h6
theorem acf(hp:NP aD f n i n)(h:n≤i):cH aD (seg f 0 n)=none:=by
 have h2:=Vg aD (f:=f) (n:=n) (i:=n) (s:=0) (awY _) (Nat.le_refl _) fun j x k y _ h1 h2 h3 h4 h5=>hp j x k y (by omega) h2 h3 h4 (by omega) h5
 rw[Ab f (Nat.le_refl n)] at h2;exact BP aD h2
theorem M_(hp:NP aD f n i n)(h:Ia f f' i n true):∃ q,f' i=some q∧NP aD f' n i i∧tF aD (seg f' 0 n)=tF aD (seg f 0 n)∧(seg f' 0 n).length+1=(seg f 0 n).length:=by
 rcases h with⟨h,-⟩|⟨-,k,a,b,c,h1,h2,h3,h4,h5,h6,rfl⟩
 ·cases h
 ·have hj:=Jg aD h1 h2 h3 h4 h5 hp h6;exact⟨c,by rw[fI _ _ (by omega),rA],NP.joined aD hp,(uR aD hj).symm,jE aD hj⟩
theorem JM(h:Ia f f' i n false):f'=f∧∀ a,f i=some a→∀ k y,i<k→k<n→f k=some y→aD a y=none:=by
 rcases h with⟨-,h1,h2⟩|⟨h,-⟩
 ·exact⟨h1,h2⟩
 ·cases h
end
theorem Jf{α:Type}(f:Nat→Option α)(n:Nat):seg f 0 (n+1)=seg f 0 n++(f n).toList:=by
 rw[iR _ (awY n) (Nat.le_succ n),jg _ (Nat.lt_succ_self n),Ab _ (Nat.le_refl _),List.append_nil]
theorem Yp{α:Type}(f:Nat→Option α)(n:Nat):(seg f 0 n).length≤n:=by
 unfold seg;exact axb (List.length_filterMap_le _ _) (by simp)
theorem Yo{f:Nat→Option aj}{k:Nat}{z:aj}{v:Value}{e:TypeId}{c:Nat}{rs:List Rw}(h:f k=some z):
 (⟨v,e,c,(seg f 0 k).length+1,(seg f 0 k).flatMap aj.cells++z.cells⟩::rs:List Rw)=⟨v,e,c,(seg f 0 (k+1)).length,(seg f 0 (k+1)).flatMap aj.cells⟩::rs:=by
 rw[Jf,h,Option.toList_some,axc,axd,List.flatMap_cons,List.flatMap_nil,List.append_nil];rfl
theorem tA(w0:World)(c0 c1 c2 c3 c4 c5 c6 c7 c8 c9 aR aO aN aQ aM aL aP:Value)(p:aF)(hp:aK w0 c0 c1 c2 c3 c4 c5 c6 c7 c8 c9 aR aO aN aQ aM aL aP p)(hok:p.Ok)(jk:nh p)(hsR:p.rules.length≤1000):Calls Tryz.prog 32 #[.agg #[c0,c1,c2,c3,c4,c5,c6,c7,c8,c9,aR,aO,aN,aQ,aM,aL,aP]] w0 (fun(r:Ending) (w':World)=>∃ v,r=.returned v∧(DX w0 (dQ p) v w'∧awX w0.heap.size w0 w')):=by
 have hrk:∀ r∈p.rules,r.Ok:=fun r hr=>⟨(hok.rules r hr).src,(hok.rules r hr).tgt⟩
 obtain⟨_,_,_,_,_,_,_,_,_,_,_,_,_,_,_,_,_,_,_,_,_,_,_,_,_,_,_,_,_,_,_,_,_,_,rfl,rfl,rfl,rfl,rfl,rfl,rfl,rfl,rfl,rfl,rfl,rfl,rfl,rfl,rfl,rfl,rfl⟩:=hp.open;refine dD [] (fn:=Tryz.f32) Tryz.func32 rfl Tryz.ntmps32 rfl<|fun g1 w1 M1=>ei<|an lJ fun g2 w2 M2=>mmk M2 fun mb w3 M3=>lb 2<|an rfl<|lp (ι:=Nat×List (Int×Value)) (fun(t,L)=>[(18,.int .i64 (t:Int))]) (fun(t,L)=>(mb,9003,eF L)::_) (fun _=>[]) (fun(t,L) _=>t≤p.rules.length∧DW (CH p.rules t) L) (fun(t,L)=>p.rules.length-t) (0,[]) (an ⟨⟨rfl,trivial⟩,fun M=>⟨M,awY _,fun k=>by simp[jU,CH]⟩⟩ ?_)
 rintro⟨t,L⟩ w M ⟨ht,hRv⟩;refine an (fun h=>?_) fun h=>?_
 ·have hlt:t<p.rules.length:=by simp at h;omega
  obtain⟨y,hy⟩:∃ y,p.rules[t]?=some y:=⟨_,awZ hlt⟩;obtain⟨b,o,e,hc⟩:=SliceAt.elt hp.rules (fun _=>rfl) (by decide) hy hlt;exact ia<|an ⟨e,rfl,hlt⟩<|lc<|an (dH M.below hc)<|ei<|an mJ fun g3 w4 M4=>lb 0<|an ⟨rfl,rfl⟩ fun w5 M5=>lb 0<|an rfl<|Vm M5 1 rfl wI (by constructor<;>omega) fun w6 M6=>an (by omega)<|bk (t+1,_) ⟨rfl,trivial⟩ (fun M=>⟨M.only (.cons _ (.refl _)) (.refl _),by omega,adn hy hRv⟩) (by dsimp only;omega)
 obtain rfl:t=p.rules.length:=by simp at h;omega
 clear M M1 M2 M3 h ht;refine lb 2<|an rfl<|lp (ι:=Nat×(Nat→Option aj)×List (Int×Value)) (fun(i,ff,L)=>[(7,.int .i64 (i:Int))]) (fun(i,ff,L)=>(mb,9003,eF L)::_) (fun _=>[]) (fun(i,ff,L) _=>i≤p.rules.length∧DW ff L∧TR ff∧NP aD ff p.rules.length i p.rules.length∧tF aD (seg ff 0 p.rules.length)=tF aD p.rules) (fun(i,ff,L)=>(seg ff 0 p.rules.length).length*(p.rules.length+1)+(p.rules.length-i)) (0,CH p.rules p.rules.length,L) (an ⟨⟨rfl,trivial⟩,fun M=>⟨M,awY _,hRv,agA hrk _,(fun j _ _ _ h=>absurd h (Nat.not_lt_zero j)),by rw[adl]⟩⟩ ?_);clear hRv L;rintro⟨i,ff,L⟩ w M ⟨hi,hRv,hfo,hNP,hnf⟩;refine an (fun h=>?_) fun h=>?_
 ·have hlt:i<p.rules.length:=by simp at h;omega
  refine mlk M 0 rfl wI (fun _=>rfl) (by constructor<;>omega) fun M=>?_
  cases yZ:ff i with
  | none=>
   rw[qd (hRv.no yZ)];exact ei<|an mJ fun g4 w5 M5=>lb 0<|an ⟨rfl,rfl⟩ fun w6 M6=>cl (v:=.bool false)<|an (fun h=>by cases h) fun w7 M7=>an (fun h=>by cases h) fun _=>an (by omega)<|bk (i+1,ff,L) ⟨rfl,trivial⟩ (fun M=>⟨M.only (.cons _ (.refl _)) (.refl _),by omega,hRv,hfo,YL hNP yZ,hnf⟩) (by dsimp only;omega)
  | some y=>
   rw[p9 (hRv.yes yZ)];refine ei<|an mJ fun g4 w5 M5=>lb 0<|an ⟨rfl,rfl⟩ fun w6 M6=>cg<|an (fun _=>RN _ mb p.rules.length hsR L (M6.map 1 rfl) ff hRv hfo i hlt y yZ)<|an (fun h=>by cases h) fun v w7 ⟨⟨t9,L9,f9,hv,PJ,agd,af2,hLP⟩,TP⟩=>⟨_,_,M6.I3 1 rfl TP PJ,?_⟩
   subst hv;have M7:=M6.I3 1 rfl TP PJ;refine an (fun ht9=>?_) fun ht9=>?_
   ·obtain rfl:t9=true:=ht9;obtain⟨q9,Zd,aj8,ajy,aqz⟩:=M_ hNP hLP;refine cg<|an (Ko _ mb p.rules.length hsR L9 (M7.map 1 rfl) f9 agd af2 i hlt q9 Zd aj8) fun v w8 ⟨⟨t8,L8,f8,hv,hM8,aj4,ajN,hEP⟩,hS8⟩=>⟨_,_,M7.I3 1 rfl hS8 hM8,?_⟩
    subst hv;have hle:=hEP.le;have hE4:=axl (p.rules.length+1) (show(seg f8 0 p.rules.length).length+1≤(seg ff 0 p.rules.length).length by have:=hEP.len;omega);rw[Nat.add_mul,Nat.one_mul] at hE4;exact an (by omega)<|an (by omega)<|bk (t8,f8,L8) ⟨congrArg (fun z:Int=>some (Value.int .i64 z)) (show((t8:Nat):Int)-1+1=(t8:Int) by omega),trivial⟩ (fun M=>⟨M.only (.cons _ (.refl _)) (.refl _),by omega,aj4,ajN,hEP.np,hEP.nf.trans (ajy.trans hnf)⟩) (by dsimp only;omega)
   ·obtain rfl:t9=false:=ht9;obtain⟨rfl,hLf⟩:=JM hLP;exact an (by omega)<|bk (i+1,f9,L9) ⟨rfl,trivial⟩ (fun M=>⟨M.only (.cons _ (.refl _)) (.refl _),by omega,agd,af2,ace hNP hLf,hnf⟩) (by dsimp only;omega)
 have za:=acf hNP (show p.rules.length≤i by simp at h;omega);have afF:seg ff 0 p.rules.length=tF aD p.rules:=by rw[← hnf,uT aD za]
 refine lb 2<|an rfl<|cg<|an (xZ _ _ _ _ _ _ _ _ _ _ _ _ _ _ _ _ _ _ p (hp.keep M.below) jk) fun v w6 ⟨⟨x0,n0,x1,n1,x2,n2,x3,n3,x4,n4,x5,n5,x6,n6,x7,n7,x8,n8,x9,n9,x10,n10,pH,n11,pG,n12,IE,n13,IC,n14,IB,n15,Iz,n16,TC,hv,hRC,hPC⟩,Zo⟩=>⟨_,_,M.eA Zo hRC,?_⟩
 subst hv;clear M;refine ei<|an lJ fun gp w7 M7=>lb 0<|an ⟨rfl,rfl⟩ fun w8 M8=>lb 0<|an ⟨rfl,rfl⟩ fun w9 M9=>lp (ι:=Nat×Value) (fun(k,v)=>[(56,.int .i64 (k:Int))]) (fun(k,v)=>(gp,39,#[.slice x0 p.classes.length n0,.slice x1 p.types.length n1,.slice x2 p.attrs.length n2,.slice x3 p.roles.length n3,.slice x4 p.users.length n4,.slice x5 p.bools.length n5,.slice x6 p.bf.length n6,.slice x7 p.cats.length n7,.slice x8 p.conds.length n8,v,.slice x10 p.trans.length n10,.slice pH p.aT.length n11,.slice pG p.ranges.length n12,.slice IE p.cons.length n13,.slice IC p.bL.length n14,.slice IB p.files.length n15,.slice Iz p.asserts.length n16])::_) (fun(k,v)=>⟨v,56,13,(seg ff 0 k).length,(seg ff 0 k).flatMap aj.cells⟩::_) (fun(k,v) _=>k≤p.rules.length) (fun(k,v)=>p.rules.length-k) (0,.slice none 0 0) (an ⟨⟨rfl,trivial⟩,fun M=>⟨M.bM 56 13,awY _⟩⟩ ?_)
 rintro⟨k,v⟩ w M hk;refine an (fun h=>?_) fun h=>?_
 ·have hlt:k<p.rules.length:=by simp at h;omega
  have hsl:=Yp ff k;refine mlk M 1 rfl wI (fun _=>rfl) (by constructor<;>omega) fun M=>?_
  cases yZ:ff k with
  | none=>
   rw[qd (hRv.no yZ)];exact ei<|an mJ fun g6 LK zC=>lb 0<|an ⟨rfl,rfl⟩ fun XH Lg=>an (fun h=>by cases h) fun _=>an (by omega)<|bk (k+1,v) ⟨rfl,trivial⟩ (fun M=>⟨(M.only (.cons _ (.refl _)) (.refl _)).cast rfl (by dsimp only;rw[Jf,yZ,Option.toList_none,List.append_nil]),by dsimp only;omega⟩) (by dsimp only;omega)
  | some z=>
   rw[p9 (hRv.yes yZ)];refine ei<|an mJ fun g6 LK zC=>lb 0<|an ⟨rfl,rfl⟩ fun XH Lg=>?_
   refine an (fun _=>?_) fun h=>by cases h
   refine lb 1<|an rfl<|lb 0<|an rfl<|fun g7 Qz Ij=>Ii 0 id rfl (Ij.slice 0 rfl (k:=13) (n:=1) rfl rfl (by simp[maxLen])) ⟨by unfold maxLen;omega,by omega⟩ fun va vc w16 Og=>?_
   exact lb 2<|an ⟨rfl,rfl⟩ fun w17 Z6=>an (by omega)<|bk (k+1,.slice va ((seg ff 0 k).length+1) vc) ⟨rfl,trivial⟩ (fun M=>⟨(M.only (.cons _ (.cons _ (.refl _))) (.refl _)).cast rfl (Yo yZ),by dsimp only;omega⟩) (by dsimp only;omega)
 obtain rfl:k=p.rules.length:=by simp at h;omega
 obtain⟨xa9,xc9,rfl⟩:=M.form 0 rfl;refine lb 0<|an rfl<|lb 2<|an ⟨rfl,rfl⟩ fun w M=>ei (x:=2)<|an rfl fun M=>?_
 dsimp only at M;rw[afF] at M;exact⟨_,rfl,⟨_,_,_,_,_,_,_,_,_,_,_,_,_,_,_,_,_,_,_,_,_,_,_,_,_,_,_,_,_,_,_,_,_,_,_,(by rw[afF];rfl),M.dW,fun B u qG=>{ hPC B u ⟨fun r hr=>qG.1 r (axm _ hr),(List.pairwise_cons.1 qG.2).2⟩ with rules:=SliceAt.bC (qG.1 _ (aw3 (i:=0) rfl)) (dX fun _=>rfl) }⟩,M.below⟩
theorem SliceAt.lo{w:World}{g off n c l k:Nat}{xs:List Value}(h:SliceAt w (.slice (some ⟨g,off,none⟩) n c) k n xs)(hl:l≤n):SliceAt w (.slice (if c=l then some ⟨g,off,none⟩ else some ⟨g,off+l*k,none⟩) (n-l) (c-l)) k (n-l) (xs.drop (l*k)):=by
 obtain⟨h1,h2,h3,h4⟩:=h;rcases h4 with⟨h,-⟩|⟨a,c',e,h5,h6⟩
 ·cases h
 cases e;refine⟨by rw[List.length_drop,h1,Nat.sub_mul],by omega,fun u hu=>h3 u (List.mem_of_mem_drop hu),.inr ?_⟩;by_cases hc:c=l
 ·rw[if_pos hc];exact⟨_,_,rfl,by omega,fun j u hu=>by rw[List.drop_of_length_le (by rw[h1];exact axl _ (by omega))] at hu;simp at hu⟩
 ·rw[if_neg hc];refine⟨_,_,rfl,by omega,fun j u hu=>?_⟩;rw[List.getElem?_drop] at hu;have:=h6 _ _ hu;rw[Addr.add_mid] at this ⊢;rw[Nat.add_assoc];exact this
theorem SliceAt.hi{w:World}{g off n c l k:Nat}{xs:List Value}(h:SliceAt w (.slice (some ⟨g,off,none⟩) n c) k n xs)(hl:l≤n):SliceAt w (.slice (some ⟨g,off,none⟩) l c) k l (xs.take (l*k)):=by
 obtain⟨h1,h2,h3,h4⟩:=h;rcases h4 with⟨h,-⟩|⟨a,c',e,h5,h6⟩
 ·cases h
 cases e;refine⟨by rw[List.length_take,h1,Nat.min_eq_left (axl _ hl)],by omega,fun u hu=>h3 u (List.mem_of_mem_take hu),.inr ⟨_,_,rfl,by omega,fun j u hu=>h6 _ _ ?_⟩⟩;rw[List.getElem?_take] at hu;split at hu
 ·exact hu
 ·cases hu
theorem aW.agM{B:Nat}{w0 w w':World}{bs bs':List Bx}{rs rs':List Rw}(M:aW B w0 w bs rs)(N:aW w.heap.size w w' bs' rs'):aW B w0 w' bs' rs':=
 ⟨M.below.trans (N.below.mono M.big),M.le,fun g cs h=>N.old g cs (M.old g cs h),N.box,fun b hb=>axb M.big (N.lo b hb),N.nd,fun r hr=>kT (N.row r hr) M.big,N.far,N.vX⟩
section
variable (N:Nat) (J C:List Nat)
def vcb:Code→Nat→World→Slots→List Bx→List Rw→World→(Nat→World→KK)→Prop
 | .seq x y,B,w0,l,bs,rs,w,K=>bif jn (fid y) J then QA B w0 N J (.seq x y) l bs rs w (K B w0) else vcb x B w0 l bs rs w fun B' w0' e l' bs' rs' w'=>match e with
  | .normal=>bif jn (fid y) C then vcb y w'.heap.size w' l' [] [] w' K else vcb y B' w0' l' bs' rs' w' K
  | e=>K B' w0' e l' bs' rs' w'
 | c,B,w0,l,bs,rs,w,K=>QA B w0 N J c l bs rs w (K B w0)
end
theorem abI{N:Nat}{J C:List Nat}:∀ {c:Code} {B:Nat} {w0:World} {l:Slots} {bs:List Bx} {rs:List Rw} {w:World} {K:Nat→World→KK} {Q:Exit→Act→World→Prop} {a:Act},vcb N J C c B w0 l bs rs w K→Fs a N l→aW B w0 w bs rs →
 (∀ B' w0' e a l bs rs w,(∀ w bs rs,aW B' w0' w bs rs→aW B w0 w bs rs)→Fs a N l→aW B' w0' w bs rs→K B' w0' e l bs rs w→Q e a w)→c.wp Tryz.prog Q a w:=by
 intro c
 induction c with
 | seq x y ihx ihy=>
  intro B w0 l bs rs w K Q a h F M hQ;unfold vcb at h
  cases hj:jn (fid y) J with
  | true=>rw[hj] at h;exact LN h F M fun e a l bs rs w F M hk=>hQ B w0 e a l bs rs w (fun _ _ _ h=>h) F M hk
  | false=>
   rw[hj] at h;refine wp_seq (ihx h F M fun B' w0' e a l' bs' rs' w' cv F' M' hk=>?_)
   cases e with
   | normal=>
    cases hc:jn (fid y) C with
    | false=>
     simp only[hc,cond_false] at hk;exact ihy hk F' M' fun B2 w2 e a l bs rs w cv2 F M hk=>hQ B2 w2 e a l bs rs w (fun w bs rs h=>cv w bs rs (cv2 w bs rs h)) F M hk
    | true=>
     simp only[hc,cond_true] at hk;exact ihy hk F' (Mm.start w') fun B2 w2 e a l bs rs w cv2 F M hk=>hQ B2 w2 e a l bs rs w (fun w bs rs h=>cv w bs rs (M'.agM (cv2 w bs rs h))) F M hk
   | _=>exact hQ _ _ _ _ _ _ _ _ cv F' M' hk
 | _=>intro B w0 l bs rs w K Q a h F M hQ;exact LN h F M fun e a l bs rs w F M hk=>hQ B w0 e a l bs rs w (fun _ _ _ h=>h) F M hk
theorem aeM{f:FuncId}{fn:Func}{c:Code}{N:Nat}(J C:List Nat){vs:List Value}{R:Ending→World→Prop}{w0:World}(hf:Tryz.prog.funcs[f]?=some fn)(hb:fn.body=some c)(hn:fn.ntmps=N)(hN:Nat.ble vs.length N=true)
 (h:vcb N J C c w0.heap.size w0 (ens 0 vs) [] [] w0 fun _ _=>aeZ fn w0.heap.size w0 R):Calls Tryz.prog f vs.toArray w0 R:=by
 refine en hf hb hn (by simpa using hN) rfl fun a F=>abI h F (Mm.start w0) fun B w1 e a l bs rs w cv F M hk=>?_
 have M:=cv _ _ _ M
 cases e with
 | normal=>exact Ui (Ae F M hk)
 | ret=>exact Ae F M hk
 | _=>exact hk.elim
def vN(p:aF):Value→World→Prop:=fun v w=>∃ c0 c1 c2 c3 c4 c5 c6 c7 c8 c9 aR aO aN aQ aM aL aP:Value,v=.agg #[c0,c1,c2,c3,c4,c5,c6,c7,c8,c9,aR,aO,aN,aQ,aM,aL,aP]∧aK w c0 c1 c2 c3 c4 c5 c6 c7 c8 c9 aR aO aN aQ aM aL aP p
inductive nj (n:Nat):aA→Prop
 | bool {a rel b:Int} {ns:List ByteArray} {s:ay}:0≤a→a<n→nj n (.node 1 a rel b ns s [])
 | not {a rel b:Int} {ns:List ByteArray} {s:ay} {k:aA}:nj n k→nj n (.node 2 a rel b ns s [k])
 | bin {op a rel b:Int} {ns:List ByteArray} {s:ay} {k l:aA}:3≤op→op≤7→nj n k→nj n l→nj n (.node op a rel b ns s [k,l])
structure pO (p:aF):Prop where
 bools:p.bools.length≤5
 rv:∀ r∈p.rules,RV p.types.length p.classes.length r
 four:∀ r∈p.rules,r.kind=4→r.cond=0
 conds:∀ e∈p.conds,nj p.bools.length e
 zo:∀ r∈p.rules,-(p.conds.length:Int)≤r.cond∧r.cond≤p.conds.length
 CV:∀ y∈p.trans,-(p.conds.length:Int)≤y.cond∧y.cond≤p.conds.length
theorem uG{P:Program}{w:World}{t:TypeId}{d:TypeDesc}(h:P.underlying t=some d):(underlying t).run P w=.ok d w:=by
 unfold underlying;simp[Sem.run_bind,h]
theorem PY{P:Program}{a:Act}{w:World}{o:Oper}{ss tt:TypeId}{x:Operand}{m:Nat}(ho:o.op=.convert ss tt x)(hx:a.eval x=.int .u8 (m:Int))(hs:P.underlying ss=some (.int .u8))(ht:P.underlying tt=some (.int .i32))(hm:m<256):(execOp a.eval o).run P w=.ok (.value (.int .i32 (m:Int))) w:=by
 have hw:IntKind.i32.wrap (m:Int)=m:=by
  simp[IntKind.wrap,IntKind.bits,IntKind.signed];omega
 unfold execOp;simp[ho,hx,convert,Sem.run_bind,Sem.run_pure,uG hs,uG ht,Conv.intToInt,hw]
theorem MV{s:ByteArray}(h:yU s=true):1≤s.size∧s.size≤32∧nG (dZ s 0)=false∧∀ i,i<s.size→jW (dZ s i)=true∨nG (dZ s i)=true:=by
 unfold yU at h;simp only[aw4,Bool.not_eq_true',decide_eq_true_iff] at h;obtain⟨h1,h2,h3⟩:=h
 have hb:∀ i,i<s.size→tX s i=false:=fun i hi=>by
  cases e:tX s i with
  | false=>rfl
  | true=>rw[(Bm _ _).2 ⟨i,awY _,by omega,e⟩] at h1;cases h1
 have h0:=hb 0 (by omega);refine⟨by omega,by omega,?_,fun i hi=>?_⟩
 ·unfold tX at h0;have e:jW (dZ s 0)=true:=by simpa using h0
  cases hd:nG (dZ s 0) with
  | false=>rfl
  | true=>
   unfold nG at hd;unfold jW at e;simp only[aw4,Bool.or_eq_true,decide_eq_true_iff] at hd e;omega
 ·have:=hb i hi;unfold tX at this
  cases hl:jW (dZ s i) with
  | true=>exact .inl rfl
  | false=>
   rw[hl] at this;right;simp at this;exact this.2
theorem cZ{s w:ByteArray}(h:kq s=false)(hw:kq w=true):(s.toList == w.toList)=false:=by
 cases e:s.toList == w.toList with
 | false=>rfl
 | true=>
  rw[oJ] at e;rw[of_decide_eq_true e,hw] at h;cases h
theorem Bg(w0:World)(x:Nat):Calls Tryz.prog 326 #[.int .i32 (x:Int)] w0 (fun(r:Ending) (w':World)=>r=.returned (.bool (nG x))∧awX w0.heap.size w0 w'):=by
 refine dD [] (fn:=Tryz.f326) Tryz.func326 rfl Tryz.ntmps326 rfl<|fun M=>⟨rb ?_,M.below⟩
 rfl
theorem I5(w0:World)(x:Nat):Calls Tryz.prog 327 #[.int .i32 (x:Int)] w0 (fun(r:Ending) (w':World)=>r=.returned (.bool (jW x))∧awX w0.heap.size w0 w'):=by
 refine dD [] (fn:=Tryz.f327) Tryz.func327 rfl Tryz.ntmps327 rfl<|fun M=>⟨rb ?_,M.below⟩
 unfold jW;congr 1;exact Bool.or_comm _ _
theorem RB(w0:World)(s:ByteArray)(hs:dV s)(h:yU s=true):Calls Tryz.prog 323 #[.string s] w0 (fun(r:Ending) (w':World)=>r=.returned (.bool (true))∧awX w0.heap.size w0 w'):=by
 obtain⟨h1,h32,hd0,hall⟩:=MV h;have hs':s.size≤140737488355328:=hs
 have hne:gG s=false:=by
  unfold gG;rw[oJ];refine decide_eq_false fun e=>?_
  rw[e] at h1;exact absurd h1 (by decide)
 have bJ:=hr1 Tryz.prog Tryz.f323 (fun(r:Ending) (w':World)=>r=.returned (.bool (true))∧awX w0.heap.size w0 w') 36 2 rfl;refine en Tryz.func323 rfl Tryz.ntmps323 rfl (vs:=[.string s]) rfl fun _ F=>?_
 have M:=Mm.start w0;refine axe fun K1 gU=>ah<|xA (v:=.bool false) F rf rf rf fun _ F=>axf<|gU _ _ ?_
 refine axe fun K2 iy=>axe fun K3 nE=>ah<|xM F rf rf rf fun _ F=>ke (on rfl) (agJ rfl (F.u rf) rfl) rfl F rfl (congrArg Value.bool hne) fun _ F=>xM F rf rf rf fun _ F=>kv (gn rfl rfl (F.g 7 rfl)) (cW rfl (F.u rf)) rfl F rfl fun _ F=>kv (gn rfl rfl (F.g 7 rfl)) (CR rfl (F.u rf) u9) rfl F rfl fun _ F=>
  ke (gn rfl rfl (F.g 7 rfl)) (Kr rfl (F.u rf) rfl) rfl F rfl (congrArg Value.bool (decide_eq_false (by omega))) fun _ F=>
  ke (u:=.bool false) (on rfl) (tT rfl (F.u rf) rfl (F.u rf)) rfl F rfl rfl fun _ F=>
  xM F rf rf rf fun _ F=>
  kv (gn rfl rfl (F.g 12 rfl)) (cW rfl (F.u rf)) rfl F rfl fun _ F=>
  ke (gn rfl rfl (F.g 12 rfl)) (tU (i:=0) rfl (F.u rf) rfl (by omega) u9) rfl F rfl (congrArg (Value.int .u8) (congrArg Nat.cast (oB (by omega:0<s.size)))) fun _ F=>
  kv (gn rfl rfl (F.g 12 rfl)) (PY rfl (F.u rf) u5 u21 (oA _ _)) rfl F rfl fun _ F=>
  kc (gn rfl rfl (F.g 12 rfl)) (fL rfl Tryz.func326 aay rfl (args1 (F.u rf))) ((Bg _ (dZ s 0)).mono fun _ _ ⟨e,h⟩=>⟨by rw[e,hd0],h⟩) rfl F rfl M fun _ _ F M=>
  ke (u:=.bool false) (on rfl) (tT rfl (F.u rf) rfl (F.u rf)) rfl F rfl rfl fun _ F=>
  axf<|
  nE _ _ ?_
 refine axj (F.e 17 rfl) ?_;refine wp_skip<|iy _ _ ?_;refine axe fun K4 ox=>axe fun K5 ow=>ah<|xM F rf rf rf fun _ F=>kz F rf (CR rfl (F.u rf) u9) fun _ F=>xM (v:=.int .i64 0) F rf rf rf fun _ F=>axf<|ow _ _ ?_
 refine axg<|?_;refine eH (ι:=Nat) (fun m a w=>Fs a 36 [(0,.string s),(19,.int .i64 ((s).size:Int)),(20,.int .i64 (m:Int))]∧Mm w0 w [] []∧m≤s.size) (fun m=>s.size-m) 0 ⟨F.sub ⟨rfl,rfl,rfl,trivial⟩,M,awY _⟩ ?_
 (repeat clear F);(repeat clear M)
 rintro m _ _ ⟨F,M,hm⟩;refine axe fun K6 pT=>ah<|kz F rf (jo rfl (F.u rf) (F.u rf)) fun _ F=>axf<|pT _ _ ?_
 refine axe fun K7 rS=>?_
 refine axh (F.e 21 rfl) (fun hc1=>?_) (fun hc1=>?_)
 ·have hd2:=of_decide_eq_true hc1;refine wp_skip<|rS _ _ ?_;refine axe fun K8 xK=>axg<|axe fun K9 zf=>ah<|xM F rf rf rf fun _ F=>xA F rf rf rf fun _ F=>axf<|zf _ _ ?_
  refine axe fun Xy lZ=>?_
  have hlt:m<s.size:=by omega
  have hld:=hall m hlt
  refine ah<|xM F rf rf rf fun _ F=>xM F rf rf rf fun _ F=>
   ke (on rfl) (tU (i:=m) rfl (F.u rf) (F.u rf) (by omega) u9) rfl F rfl (congrArg (Value.int .u8) (congrArg Nat.cast (oB (by omega:m<s.size)))) fun _ F=>
   kz F rf (PY rfl (F.u rf) u5 u21 (oA _ _)) fun _ F=>
   xA F rf rf rf fun _ F=>
   axf<|
   lZ _ _ ?_
  refine axe fun K11 qH=>ah<|xM F rf rf rf fun _ F=>xC F M rf rf air (args1 (F.u rf)) (I5 _ (dZ s m)) fun _ _ F M=>kz F rf (pN rfl (F.u rf)) fun _ F=>xM F rf rf rf fun _ F=>FW (x:=.int .i32 (dZ s m:Int)) rfl rfl (F.g 30 rfl) (bt _) (fun ge=>(cW rfl (F.u rf))) rfl F rfl rfl fun _ F=>aiU rfl rfl (F.g 30 rfl) (bt _) (fun ge=>(fL rfl Tryz.func326 aay rfl (args1 ((F.g 31 rfl).on ge).ev))) (fun ge=>Bg _ (dZ s m)) rfl F rfl M fun _ _ F M=>FW (x:=.bool (!(nG (dZ s m)))) rfl rfl (F.g 30 rfl) (bt _) (fun ge=>(pN rfl ((F.g 32 rfl).on ge).ev)) rfl F rfl rfl fun _ F=>kz F rf (rq (tT rfl (F.u rf) (F.u rf) rfl) (pkF _ _)) fun _ F=>axf<|qH _ _ ?_
  refine axh (F.e 34 rfl) (fun hc3=>?_) (fun hc3=>?_)
  ·refine axe fun K12 pR=>ah<|xA (v:=.bool false) F rf rf rf fun _ F=>axf<|pR _ _ ?_
   refine wp_ret<|bJ _ _ _ _ F rfl ?_;rcases hld with h|h<;>simp[h] at hc3
  ·refine wp_skip<|xK _ _ ?_
   refine ah<|
    ke (on rfl) (eX rfl (F.u rf) rfl) rfl F rfl (congrArg (Value.int .i64) (wrap_i64 (by omega))) fun _ F=>
    xM F rf rf rf fun _ F=>
    axf<|?_
   exact⟨m+1,⟨F.sub ⟨rfl,rfl,rfl,trivial⟩,M,by omega⟩,by show s.size-(m+1)<s.size-m;omega⟩
 ·have V6:=of_decide_eq_false hc1;refine wp_exit<|ox _ _ ?_;refine axe fun K13 pQ=>ah<|xA (v:=.bool true) F rf rf rf fun _ F=>axf<|pQ _ _ ?_
  refine wp_ret<|bJ _ _ _ _ F rfl ?_;exact⟨rfl,M.below⟩
theorem Fj(w0:World)(s:ByteArray)(oT:kq s=false):Calls Tryz.prog 324 #[.string s] w0 (fun(r:Ending) (w':World)=>r=.returned (.bool (false))∧awX w0.heap.size w0 w'):=by
 have bJ:=hr1 Tryz.prog Tryz.f324 (fun(r:Ending) (w':World)=>r=.returned (.bool (false))∧awX w0.heap.size w0 w') 47 2 rfl;refine en Tryz.func324 rfl Tryz.ntmps324 rfl (vs:=[.string s]) rfl fun _ F=>?_
 have M:=Mm.start w0;refine axe fun K1 gU=>ah<|xA (v:=.bool false) F rf rf rf fun _ F=>axf<|gU _ _ ?_
 refine axe fun K2 iy=>axe fun K3 nE=>ah<|xM F rf rf rf fun _ F=>axf<|nE _ _ ?_
 refine axg<|axe fun K4 ox=>axe fun K5 ow=>ah<|
  ke (on rfl) (cN rfl (F.u rf) rfl) rfl F rfl (congrArg Value.bool (cZ oT (by kernel_rfl))) fun _ F=>
  xA F rf rf rf fun _ F=>
  axf<|
  ow _ _ ?_
 refine axj (F.e 4 rfl) ?_
 refine axe fun K6 pT=>ah<|
  ke (on rfl) (cN rfl (F.u rf) rfl) rfl F rfl (congrArg Value.bool (cZ oT (by kernel_rfl))) fun _ F=>
  xA F rf rf rf fun _ F=>
  axf<|
  pT _ _ ?_
 refine axj (F.e 4 rfl) ?_
 refine axe fun K7 rS=>ah<|
  ke (on rfl) (cN rfl (F.u rf) rfl) rfl F rfl (congrArg Value.bool (cZ oT (by kernel_rfl))) fun _ F=>
  xA F rf rf rf fun _ F=>
  axf<|
  rS _ _ ?_
 refine axj (F.e 4 rfl) ?_
 refine axe fun K8 xK=>ah<|
  ke (on rfl) (cN rfl (F.u rf) rfl) rfl F rfl (congrArg Value.bool (cZ oT (by kernel_rfl))) fun _ F=>
  xA F rf rf rf fun _ F=>
  axf<|
  xK _ _ ?_
 refine axj (F.e 4 rfl) ?_
 refine axe fun K9 zf=>ah<|
  ke (on rfl) (cN rfl (F.u rf) rfl) rfl F rfl (congrArg Value.bool (cZ oT (by kernel_rfl))) fun _ F=>
  xA F rf rf rf fun _ F=>
  axf<|
  zf _ _ ?_
 refine axj (F.e 4 rfl) ?_
 refine axe fun Xy lZ=>ah<|
  ke (on rfl) (cN rfl (F.u rf) rfl) rfl F rfl (congrArg Value.bool (cZ oT (by kernel_rfl))) fun _ F=>
  xA F rf rf rf fun _ F=>
  axf<|
  lZ _ _ ?_
 refine axj (F.e 4 rfl) ?_
 refine axe fun K11 qH=>ah<|
  ke (on rfl) (cN rfl (F.u rf) rfl) rfl F rfl (congrArg Value.bool (cZ oT (by kernel_rfl))) fun _ F=>
  xA F rf rf rf fun _ F=>
  axf<|
  qH _ _ ?_
 refine axj (F.e 4 rfl) ?_
 refine axe fun K12 pR=>ah<|
  ke (on rfl) (cN rfl (F.u rf) rfl) rfl F rfl (congrArg Value.bool (cZ oT (by kernel_rfl))) fun _ F=>
  xA F rf rf rf fun _ F=>
  axf<|
  pR _ _ ?_
 refine axj (F.e 4 rfl) ?_
 refine axe fun K13 pQ=>ah<|
  ke (on rfl) (cN rfl (F.u rf) rfl) rfl F rfl (congrArg Value.bool (cZ oT (by kernel_rfl))) fun _ F=>
  xA F rf rf rf fun _ F=>
  axf<|
  pQ _ _ ?_
 refine axj (F.e 4 rfl) ?_
 refine ah<|
  ke (on rfl) (cN rfl (F.u rf) rfl) rfl F rfl (congrArg Value.bool (cZ oT (by kernel_rfl))) fun _ F=>
  xA F rf rf rf fun _ F=>
  axf<|
  ox _ _ ?_
 refine axj (F.e 4 rfl) ?_
 refine axe fun K14 tO=>axe fun K15 rT=>ah<|
  ke (on rfl) (cN rfl (F.u rf) rfl) rfl F rfl (congrArg Value.bool (cZ oT (by kernel_rfl))) fun _ F=>
  xA F rf rf rf fun _ F=>
  axf<|
  rT _ _ ?_
 refine axj (F.e 15 rfl) ?_
 refine axe fun K16 F3=>ah<|
  ke (on rfl) (cN rfl (F.u rf) rfl) rfl F rfl (congrArg Value.bool (cZ oT (by kernel_rfl))) fun _ F=>
  xA F rf rf rf fun _ F=>
  axf<|
  F3 _ _ ?_
 refine axj (F.e 15 rfl) ?_
 refine axe fun K17 Wq=>ah<|
  ke (on rfl) (cN rfl (F.u rf) rfl) rfl F rfl (congrArg Value.bool (cZ oT (by kernel_rfl))) fun _ F=>
  xA F rf rf rf fun _ F=>
  axf<|
  Wq _ _ ?_
 refine axj (F.e 15 rfl) ?_
 refine axe fun K18 adb=>ah<|
  ke (on rfl) (cN rfl (F.u rf) rfl) rfl F rfl (congrArg Value.bool (cZ oT (by kernel_rfl))) fun _ F=>
  xA F rf rf rf fun _ F=>
  axf<|
  adb _ _ ?_
 refine axj (F.e 15 rfl) ?_
 refine axe fun K19 ada=>ah<|
  ke (on rfl) (cN rfl (F.u rf) rfl) rfl F rfl (congrArg Value.bool (cZ oT (by kernel_rfl))) fun _ F=>
  xA F rf rf rf fun _ F=>
  axf<|
  ada _ _ ?_
 refine axj (F.e 15 rfl) ?_
 refine axe fun K20 ac_=>ah<|
  ke (on rfl) (cN rfl (F.u rf) rfl) rfl F rfl (congrArg Value.bool (cZ oT (by kernel_rfl))) fun _ F=>
  xA F rf rf rf fun _ F=>
  axf<|
  ac_ _ _ ?_
 refine axj (F.e 15 rfl) ?_
 refine axe fun K21 ac9=>ah<|
  ke (on rfl) (cN rfl (F.u rf) rfl) rfl F rfl (congrArg Value.bool (cZ oT (by kernel_rfl))) fun _ F=>
  xA F rf rf rf fun _ F=>
  axf<|
  ac9 _ _ ?_
 refine axj (F.e 15 rfl) ?_
 refine axe fun K22 ac8=>ah<|
  ke (on rfl) (cN rfl (F.u rf) rfl) rfl F rfl (congrArg Value.bool (cZ oT (by kernel_rfl))) fun _ F=>
  xA F rf rf rf fun _ F=>
  axf<|
  ac8 _ _ ?_
 refine axj (F.e 15 rfl) ?_
 refine ah<|
  ke (on rfl) (cN rfl (F.u rf) rfl) rfl F rfl (congrArg Value.bool (cZ oT (by kernel_rfl))) fun _ F=>
  xA F rf rf rf fun _ F=>
  axf<|
  tO _ _ ?_
 refine axj (F.e 15 rfl) ?_
 refine axe fun K23 Zt=>axe fun K24 ac7=>ah<|
  ke (on rfl) (cN rfl (F.u rf) rfl) rfl F rfl (congrArg Value.bool (cZ oT (by kernel_rfl))) fun _ F=>
  xA F rf rf rf fun _ F=>
  axf<|
  ac7 _ _ ?_
 refine axj (F.e 25 rfl) ?_
 refine axe fun K25 Zs=>ah<|
  ke (on rfl) (cN rfl (F.u rf) rfl) rfl F rfl (congrArg Value.bool (cZ oT (by kernel_rfl))) fun _ F=>
  xA F rf rf rf fun _ F=>
  axf<|
  Zs _ _ ?_
 refine axj (F.e 25 rfl) ?_
 refine axe fun K26 ac6=>ah<|
  ke (on rfl) (cN rfl (F.u rf) rfl) rfl F rfl (congrArg Value.bool (cZ oT (by kernel_rfl))) fun _ F=>
  xA F rf rf rf fun _ F=>
  axf<|
  ac6 _ _ ?_
 refine axj (F.e 25 rfl) ?_
 refine axe fun K27 ac5=>ah<|
  ke (on rfl) (cN rfl (F.u rf) rfl) rfl F rfl (congrArg Value.bool (cZ oT (by kernel_rfl))) fun _ F=>
  xA F rf rf rf fun _ F=>
  axf<|
  ac5 _ _ ?_
 refine axj (F.e 25 rfl) ?_
 refine axe fun K28 ac4=>ah<|
  ke (on rfl) (cN rfl (F.u rf) rfl) rfl F rfl (congrArg Value.bool (cZ oT (by kernel_rfl))) fun _ F=>
  xA F rf rf rf fun _ F=>
  axf<|
  ac4 _ _ ?_
 refine axj (F.e 25 rfl) ?_
 refine axe fun K29 ac3=>ah<|
  ke (on rfl) (cN rfl (F.u rf) rfl) rfl F rfl (congrArg Value.bool (cZ oT (by kernel_rfl))) fun _ F=>
  xA F rf rf rf fun _ F=>
  axf<|
  ac3 _ _ ?_
 refine axj (F.e 25 rfl) ?_
 refine axe fun K30 aks=>ah<|
  ke (on rfl) (cN rfl (F.u rf) rfl) rfl F rfl (congrArg Value.bool (cZ oT (by kernel_rfl))) fun _ F=>
  xA F rf rf rf fun _ F=>
  axf<|
  aks _ _ ?_
 refine axj (F.e 25 rfl) ?_
 refine ah<|
  ke (on rfl) (cN rfl (F.u rf) rfl) rfl F rfl (congrArg Value.bool (cZ oT (by kernel_rfl))) fun _ F=>
  xA F rf rf rf fun _ F=>
  axf<|
  Zt _ _ ?_
 refine axj (F.e 25 rfl) ?_
 refine axe fun K31 akr=>axe fun K32 akq=>ah<|
  ke (on rfl) (cN rfl (F.u rf) rfl) rfl F rfl (congrArg Value.bool (cZ oT (by kernel_rfl))) fun _ F=>
  xA F rf rf rf fun _ F=>
  axf<|
  akq _ _ ?_
 refine axj (F.e 34 rfl) ?_
 refine axe fun K33 akp=>ah<|
  ke (on rfl) (cN rfl (F.u rf) rfl) rfl F rfl (congrArg Value.bool (cZ oT (by kernel_rfl))) fun _ F=>
  xA F rf rf rf fun _ F=>
  axf<|
  akp _ _ ?_
 refine axj (F.e 34 rfl) ?_
 refine axe fun K34 ako=>ah<|
  ke (on rfl) (cN rfl (F.u rf) rfl) rfl F rfl (congrArg Value.bool (cZ oT (by kernel_rfl))) fun _ F=>
  xA F rf rf rf fun _ F=>
  axf<|
  ako _ _ ?_
 refine axj (F.e 34 rfl) ?_
 refine axe fun K35 akn=>ah<|
  ke (on rfl) (cN rfl (F.u rf) rfl) rfl F rfl (congrArg Value.bool (cZ oT (by kernel_rfl))) fun _ F=>
  xA F rf rf rf fun _ F=>
  axf<|
  akn _ _ ?_
 refine axj (F.e 34 rfl) ?_
 refine axe fun K36 akm=>ah<|
  ke (on rfl) (cN rfl (F.u rf) rfl) rfl F rfl (congrArg Value.bool (cZ oT (by kernel_rfl))) fun _ F=>
  xA F rf rf rf fun _ F=>
  axf<|
  akm _ _ ?_
 refine axj (F.e 34 rfl) ?_
 refine axe fun K37 akl=>ah<|
  ke (on rfl) (cN rfl (F.u rf) rfl) rfl F rfl (congrArg Value.bool (cZ oT (by kernel_rfl))) fun _ F=>
  xA F rf rf rf fun _ F=>
  axf<|
  akl _ _ ?_
 refine axj (F.e 34 rfl) ?_
 refine axe fun K38 akk=>ah<|
  ke (on rfl) (cN rfl (F.u rf) rfl) rfl F rfl (congrArg Value.bool (cZ oT (by kernel_rfl))) fun _ F=>
  xA F rf rf rf fun _ F=>
  axf<|
  akk _ _ ?_
 refine axj (F.e 34 rfl) ?_
 refine axe fun K39 akj=>ah<|
  ke (on rfl) (cN rfl (F.u rf) rfl) rfl F rfl (congrArg Value.bool (cZ oT (by kernel_rfl))) fun _ F=>
  xA F rf rf rf fun _ F=>
  axf<|
  akj _ _ ?_
 refine axj (F.e 34 rfl) ?_
 refine axe fun K40 aki=>ah<|
  ke (on rfl) (cN rfl (F.u rf) rfl) rfl F rfl (congrArg Value.bool (cZ oT (by kernel_rfl))) fun _ F=>
  xA F rf rf rf fun _ F=>
  axf<|
  aki _ _ ?_
 refine axj (F.e 34 rfl) ?_
 refine axe fun K41 akh=>ah<|
  ke (on rfl) (cN rfl (F.u rf) rfl) rfl F rfl (congrArg Value.bool (cZ oT (by kernel_rfl))) fun _ F=>
  xA F rf rf rf fun _ F=>
  axf<|
  akh _ _ ?_
 refine axj (F.e 34 rfl) ?_
 refine axe fun K42 akg=>ah<|
  ke (on rfl) (cN rfl (F.u rf) rfl) rfl F rfl (congrArg Value.bool (cZ oT (by kernel_rfl))) fun _ F=>
  xA F rf rf rf fun _ F=>
  axf<|
  akg _ _ ?_
 refine axj (F.e 34 rfl) ?_
 refine ah<|
  ke (on rfl) (cN rfl (F.u rf) rfl) rfl F rfl (congrArg Value.bool (cZ oT (by kernel_rfl))) fun _ F=>
  xA F rf rf rf fun _ F=>
  axf<|
  akr _ _ ?_
 refine axj (F.e 34 rfl) ?_;refine axe fun K43 akf=>ah<|xA (v:=.bool false) F rf rf rf fun _ F=>axf<|akf _ _ ?_
 refine wp_ret<|bJ _ _ _ _ F rfl ?_;exact⟨rfl,M.below⟩
theorem LV(w0:World)(s:ByteArray)(hs:dV s)(h:nD s=true):Calls Tryz.prog 318 #[.string s] w0 (fun(r:Ending) (w':World)=>r=.returned (.bool (true))∧awX w0.heap.size w0 w'):=by
 have h1:yU s=true:=(Bool.and_eq_true_iff.1 h).1;have h2:kq s=false:=by have:=(Bool.and_eq_true_iff.1 h).2;simpa using this
 have bJ:=hr1 Tryz.prog Tryz.f318 (fun(r:Ending) (w':World)=>r=.returned (.bool (true))∧awX w0.heap.size w0 w') 10 2 rfl;refine en Tryz.func318 rfl Tryz.ntmps318 rfl (vs:=[.string s]) rfl fun _ F=>?_
 have M:=Mm.start w0;refine axe fun K1 gU=>ah<|xA (v:=.bool false) F rf rf rf fun _ F=>axf<|gU _ _ ?_
 refine axe fun K2 iy=>ah<|xM F rf rf rf fun _ F=>xC F M rf rf ais (args1 (F.u rf)) (RB _ s hs h1) fun _ _ F M=>xM F rf rf rf fun _ F=>kv (gn rfl rfl (F.g 5 rfl)) (cW rfl (F.u rf)) rfl F rfl fun _ F=>kc (gn rfl rfl (F.g 5 rfl)) (fL rfl Tryz.func324 afb rfl (args1 (F.u rf))) (Fj _ s h2) rfl F rfl M fun _ _ F M=>kv (gn rfl rfl (F.g 5 rfl)) (pN rfl (F.u rf)) rfl F rfl fun _ F=>ke (u:=.bool true) (on rfl) (tT rfl (F.u rf) (F.u rf) rfl) rfl F rfl rfl fun _ F=>xA F rf rf rf fun _ F=>axf<|iy _ _ ?_
 refine wp_ret<|bJ _ _ _ _ F rfl ?_;exact⟨rfl,M.below⟩
def DF(op:Int):Int:=if op=1 then 0 else if op=2 then 1 else if op=3 then 2 else if op=4 then 2 else if op=5 then 2 else if op=6 then 2 else if op=7 then 2 else -1
inductive iZ:Nat→aA→Prop
 | name {d:Nat} {s:ByteArray}:nD s=true→dV s→iZ (d+1) (.node 1 0 0 0 [s] ay.zero [])
 | not {d:Nat} {k:aA}:iZ d k→iZ (d+1) (.node 2 0 0 0 [] ay.zero [k])
 | bin {d:Nat} {op:Int} {k l:aA}:3≤op→op≤7→iZ d k→iZ d l→iZ (d+1) (.node op 0 0 0 [] ay.zero [k,l])
theorem YH{op:Int}(h1:3≤op)(h2:op≤7):DF op=2:=by
 unfold DF;rcases(show op=3∨op=4∨op=5∨op=6∨op=7 by omega) with rfl|rfl|rfl|rfl|rfl<;>rfl
structure Dm (d:Nat) (e:aA):Prop where
 a:e.a=0
 rel:e.rel=0
 b:e.b=0
 set:e.set=ay.zero
 kids:(e.kids.length:Int)=DF e.op
 nm:DF e.op=0→∃ s,e.names=[s]∧nD s=true∧dV s
 nn:DF e.op≠0→e.names=[]
 kid:∀ k∈e.kids,∃ c,d=c+1∧iZ c k
 pos:1≤d
 op1:DF e.op=0↔e.op=1
theorem iZ.facts{d:Nat}{e:aA}(h:iZ d e):Dm d e:=by
 cases h with
 | name h1 h2=>exact⟨rfl,rfl,rfl,rfl,rfl,fun _=>⟨_,rfl,h1,h2⟩,fun h=>absurd rfl h,fun _ h=>(by cases h),(by omega),⟨fun _=>rfl,fun _=>rfl⟩⟩
 | not h1=>exact⟨rfl,rfl,rfl,rfl,rfl,fun h=>(by cases h),fun _=>rfl,fun k hk=>⟨_,rfl,(by rw[aw5.1 hk];exact h1)⟩,(by omega),⟨fun h=>(by cases h),fun h=>(by cases h)⟩⟩
 | @bin d op k l h1 h2 h3 h4=>
  have ho:=YH h1 h2;refine⟨rfl,rfl,rfl,rfl,by rw[show(aA.node op 0 0 0 [] ay.zero [k,l]).op=op from rfl,ho];rfl,fun h=>?_,fun _=>rfl,fun x hx=>⟨_,rfl,?_⟩,by omega,?_⟩
  ·rw[show(aA.node op 0 0 0 [] ay.zero [k,l]).op=op from rfl,ho] at h;cases h
  ·rcases aw7.1 hx with hx|hx
   ·rw[hx];exact h3
   ·rw[aw5.1 hx];exact h4
  ·rw[show(aA.node op 0 0 0 [] ay.zero [k,l]).op=op from rfl,ho];exact⟨fun h=>(by cases h),fun h=>by omega⟩
mutual
def bN:aA→List ByteArray
 | .node _ _ _ _ names _ kids=>names++bQ kids
def bQ:List aA→List ByteArray
 | []=>[]
 | k::l=>bN k++bQ l
end
theorem iU(e:aA):bN e=e.names++bQ e.kids:=by cases e;rw[bN];rfl
def eN(e:aA)(m:Nat):List ByteArray:=e.names++bQ (e.kids.take m)
theorem qC:∀ a b:List aA,bQ (a++b)=bQ a++bQ b
 | [],b=>by rw[bQ];rfl
 | k::a,b=>by rw[List.cons_append,bQ,bQ,qC a b,List.append_assoc]
theorem BS{e:aA}{m:Nat}{y:aA}(hy:e.kids[m]?=some y):eN e (m+1)=eN e m++bN y:=by
 unfold eN;rw[List.take_add_one,hy,qC,Option.toList_some,bQ,bQ,List.append_nil,List.append_assoc]
theorem Rz{e:aA}:eN e e.kids.length=bN e:=by unfold eN;rw[aw2,iU]
theorem Ry(e:aA):e.names.length≤(bN e).length:=by rw[iU,axc];omega
theorem MU{e:aA}{m:Nat}{y:aA}(hy:e.kids[m]?=some y):(eN e m).length+(bN y).length≤(bN e).length:=by
 have h1:=BS hy;have h2:=congrArg List.length h1;rw[axc] at h2;have h3:bQ e.kids=bQ (e.kids.take (m+1))++bQ (e.kids.drop (m+1)):=by rw[← qC,List.take_append_drop]
 have h4:=congrArg List.length (iU e);rw[h3] at h4;unfold eN at h2 ⊢;simp only[axc] at h2 h4 ⊢;omega
theorem ach{e:aA}{m n k t:Nat}{y:aA}{v:Value}{xs:List Value}{rs:List Rw}(hy:e.kids[m]?=some y):(⟨v,t,k,n+(eN e m).length+(bN y).length,(xs++(eN e m).flatMap aX)++(bN y).flatMap aX⟩::rs:List Rw)=⟨v,t,k,n+(eN e (m+1)).length,xs++(eN e (m+1)).flatMap aX⟩::rs:=by
 rw[BS hy,axc,axd,List.append_assoc,Nat.add_assoc]
theorem YN{e:aA}{n k t:Nat}{v:Value}{xs:List Value}{rs:List Rw}:(⟨v,t,k,n+e.names.length,xs++e.names.flatMap aX⟩::rs:List Rw)=⟨v,t,k,n+(eN e 0).length,xs++(eN e 0).flatMap aX⟩::rs:=by
 have h:eN e 0=e.names:=by unfold eN;rw[List.take_zero,bQ,List.append_nil]
 rw[h]
theorem Xl(w0:World)(op:Int):Calls Tryz.prog 317 #[.int .i64 op] w0 (fun(r:Ending) (w':World)=>r=.returned (.int .i64 (DF op))∧awX w0.heap.size w0 w'):=by
 exact dD [] (fn:=Tryz.f317) Tryz.func317 rfl Tryz.ntmps317 rfl<|an (fun a1=>fun M=>⟨ri (by simp_all [DF]),M.below⟩) fun a1=>an (fun a2=>fun M=>⟨ri (by simp_all [DF]),M.below⟩) fun a2=>an (fun a3=>an (fun b3=>fun M=>⟨ri (by simp_all [DF]),M.below⟩) fun b3=>fun M=>⟨ri (by simp_all []),M.below⟩) fun a3=>an (fun a4=>an (fun b4=>fun M=>⟨ri (by simp_all [DF]),M.below⟩) fun b4=>fun M=>⟨ri (by simp_all []),M.below⟩) fun a4=>an (fun a5=>an (fun b5=>fun M=>⟨ri (by simp_all [DF]),M.below⟩) fun b5=>fun M=>⟨ri (by simp_all []),M.below⟩) fun a5=>an (fun a6=>an (fun b6=>fun M=>⟨ri (by simp_all [DF]),M.below⟩) fun b6=>fun M=>⟨ri (by simp_all []),M.below⟩) fun a6=>an (fun a7=>fun M=>⟨ri (by simp_all [DF]),M.below⟩) fun a7=>fun M=>⟨ri (by simp_all [DF]),M.below⟩
theorem Vd(w0:World)(cs:List Value)(e:aA)(d:Nat)(hE:bB w0 cs e)(hB:iZ d e)(lv:Nat)(hlv:lv≤12):Calls Tryz.prog 306 #[.agg cs.toArray,.int .i64 (lv:Int)] w0 (fun(r:Ending) (w':World)=>r=.returned (.int .i64 (0))∧awX w0.heap.size w0 w'):=by
 have hb:=hB.facts;have hko:=hb.kids;obtain⟨_,_,rfl,hnn,hkk⟩:=hE.open;obtain⟨_,_,rfl,-⟩:=aU.get hnn;obtain⟨_,_,rfl,-⟩:=aC.form hkk (by decide);refine dD [] (fn:=Tryz.f306) Tryz.func306 rfl Tryz.ntmps306 rfl<|fun g1 w1 M1=>lb 0<|an rfl<|cl<|an (Xl _ e.op) fun w2 M2=>?_
 refine an (fun hz=>?_) fun hz=>?_
 all_goals
  refine an (fun h=>?_) fun h=>?_
  ·exact absurd h (by simp;omega)
  refine lb 0<|an (fun _=>rfl)<|lb 0<|an (fun _=>rfl)<|lb 0<|an (fun _=>rfl)<|lb 0<|an (fun _=>rfl)<|ei (x:=.agg #[.int .u64 0,.int .u64 0,.int .u64 0,.int .u64 0])<|an (fun _=>bd (by kernel_rfl))<|ei (x:=decide (e.set=ay.zero))<|an (fun _=>⟨rV,fun w=>pK e.set ay.zero w⟩)<|lb 0<|an (fun _=>rfl)<|lb 0<|an (fun _=>rfl)<|?_
 ·obtain⟨sn,Zb,hsI,hsO⟩:=hb.nm (of_decide_eq_true hz);have hnl:e.names.length=1:=by rw[Zb];rfl
  refine an (fun h2=>?_) fun h2=>?_
  ·exfalso;simp[hb.a,hb.b,hb.rel,hb.set,hnl,← hko] at h2;try omega
  obtain⟨b,o,e1,hc⟩:=SliceAt.elt (i:=0) hnn (fun _=>rfl) (by decide) (show e.names[0]?=some sn by rw[Zb];rfl) (show 0<e.names.length by omega);refine lb 0<|an (fun _=>rfl)<|ia<|an (fun _=>⟨e1,rfl,show 0<e.names.length by omega⟩)<|lc (x:=.string sn)<|an (fun _=>dH M2.below hc 0 _ rfl)<|cl<|an (fun _=>LV _ sn hsO hsI) fun w3 M3=>?_
  exact an (fun h=>by simp at h) fun h M=>⟨rfl,M.below⟩
 ·have hz:DF e.op≠0:=of_decide_eq_false hz;have hnl:e.names.length=0:=by rw[hb.nn hz];rfl
  refine an (fun h2=>?_) fun h2=>?_
  ·exfalso;simp[hb.a,hb.b,hb.rel,hb.set,hnl,← hko] at h2;try omega
  refine lb 0<|an (fun _=>rfl)<|ia (b:=0) (off:=0) (i:=0)<|an (fun h=>absurd (of_decide_eq_true h) hz)<|lc (x:=.string ByteArray.empty)<|an (fun h=>absurd (of_decide_eq_true h) hz)<|cl (v:=.bool true)<|an (fun h=>absurd (of_decide_eq_true h) hz) fun w3 M3=>?_
  exact an (fun h=>by simp at h) fun h M=>⟨rfl,M.below⟩
theorem N9:∀ (e:aA) (w0:World) (cs:List Value) (d lv:Nat),bB w0 cs e→iZ d e→lv+d≤13→Calls Tryz.prog 295 #[.agg cs.toArray,.int .i64 (lv:Int)] w0 (fun(r:Ending) (w':World)=>r=.returned (.int .i64 (0))∧awX w0.heap.size w0 w'):=by
 refine aA.ind fun e ih=>?_
 intro w0 cs d lv hE hB hlv;have hb:=hB.facts;have hE0:=hE;obtain⟨_,_,rfl,hnn,hkk⟩:=hE0.open;obtain⟨_,_,rfl,-⟩:=aU.get hnn;obtain⟨_,_,rfl,-,hkm,-⟩:=aC.form hkk (by decide);refine dD [] (fn:=Tryz.f295) Tryz.func295 rfl Tryz.ntmps295 rfl<|fun g1 w1 M1=>lb 0<|an rfl<|cl<|an (Vd _ _ e d (hE.keep M1.below) hB lv (by have:=hb.pos;omega)) fun w2 M2=>?_
 refine an (fun h=>by simp at h) fun _=>?_
 refine lb 0<|an rfl<|lr (ι:=Nat) (fun m=>[(18,.int .i64 (m:Int))]) (fun m _=>m≤e.kids.length) (fun m=>e.kids.length-m) 0 (an ⟨⟨rfl,trivial⟩,fun M=>⟨M,awY _⟩⟩ ?_);intro m w M hm;refine an (fun h=>?_) fun h M=>⟨rfl,M.below⟩
 have hlt:m<e.kids.length:=by simp at h;omega
 obtain⟨y,hy⟩:∃ y,e.kids[m]?=some y:=⟨_,awZ hlt⟩;have Ns:=aw3 hy;obtain⟨b,o,_,e1,PK,hc⟩:=aC.elt hkk (by decide) hy;obtain⟨_,_,rfl,hn2,hk2⟩:=PK.open;obtain⟨_,_,rfl,-⟩:=aU.get hn2;obtain⟨_,_,rfl,-⟩:=aC.form hk2 (by decide);obtain⟨c,rfl,hBk⟩:=hb.kid y Ns;refine ia<|an ⟨e1,rfl,hlt⟩<|lc<|an (dH M.below hc)<|ei<|an AP fun g2 w3 M3=>lb 0<|an ⟨rfl,rfl⟩ fun w4 M4=>lb 0<|an rfl<|an (by omega)<|cl<|an (ih y Ns _ _ c (lv+1) (PK.keep M4.below) hBk (by omega)) fun w5 M5=>?_
 exact an (fun h=>by simp at h) fun _=>an (by omega)<|bk (m+1) ⟨rfl,trivial⟩ (fun M=>⟨M.only (.cons _ (.refl _)) (.refl _),by omega⟩) (by dsimp only;omega)
theorem N_(w0:World)(cs:List Value)(e:aA)(d:Nat)(hE:bB w0 cs e)(hB:iZ d e)(hd:d≤12):Calls Tryz.prog 267 #[.agg cs.toArray] w0 (fun(r:Ending) (w':World)=>r=.returned (.int .i64 (0))∧awX w0.heap.size w0 w'):=by
 have hE0:=hE;obtain⟨_,_,rfl,hnn,hkk⟩:=hE0.open;obtain⟨pa9,pc9,rfl,hnk,hnm,acG⟩:=SliceAt.form hnn (by decide);obtain⟨qa,qc,rfl,hkc,hkm,hcell⟩:=aC.form hkk (by decide);have bJ:=hr1 Tryz.prog Tryz.f267 (fun(r:Ending) (w':World)=>r=.returned (.int .i64 (0))∧awX w0.heap.size w0 w') 5 2 rfl;refine en Tryz.func267 rfl Tryz.ntmps267 rfl (vs:=[.agg #[.int .i64 e.op,.int .i64 e.a,.int .i64 e.rel,.int .i64 e.b,.slice pa9 e.names.length pc9,.int .u64 e.set.a,.int .u64 e.set.b,.int .u64 e.set.c,.int .u64 e.set.d,.slice qa e.kids.length qc]]) rfl fun _ F=>?_
 have M:=Mm.start w0;refine axe fun K1 gU=>ah<|Ig (on rfl) rfl (F.u rf) rfl F rfl M fun g1 _ _ F M=>xA (v:=.int .i64 0) F rf rf rf fun _ F=>axf<|gU _ _ ?_
 refine axe fun K2 iy=>ah<|xW F (M.b 0 rfl) rf rf rf OU rf rN rf fun _ F=>
  xC F M rf rf ait (args2 (F.u rf) rfl) (N9 e _ _ d 1 (hE.keep M.below) hB (by omega)) fun _ _ F M=>
  xA F rf rf rf fun _ F=>
  axf<|
  iy _ _ ?_
 refine wp_ret<|bJ _ _ _ _ F rfl ?_;exact⟨rfl,M.below⟩
theorem KF:∀ (e:aA) (wa w0:World) (bs:List Bx) (rs:List Rw) (d:Nat) (v:Value) (n:Nat) (xs:List Value) (cs:List Value),Mm wa w0 bs (⟨v,9,1,n,xs⟩::rs)→bB wa cs e→iZ d e→n+(bN e).length≤100000→Calls Tryz.prog 268 #[v,.agg cs.toArray] w0 (fun(r:Ending) (w':World)=>∃ v',r=.returned v'∧Mm wa w' bs (⟨v',9,1,n+(bN e).length,xs++(bN e).flatMap aX⟩::rs)):=by
 refine aA.ind fun e ih=>?_
 intro wa w0 bs rs d v n xs cs hM hE hB hlen;have hb:=hB.facts;have hko:=hb.kids;obtain⟨_,_,rfl,hnn,hkk⟩:=hE.open;obtain⟨pa9,pc9,rfl,hnk,hnm,-⟩:=SliceAt.form hnn (by decide);obtain⟨qa,qc,rfl,hkc,hkm,hcell⟩:=aC.form hkk (by decide);have hnE:=Ry e;have bJ:=hr1 Tryz.prog Tryz.f268 (fun(r:Ending) (w':World)=>∃ v',r=.returned v'∧Mm wa w' bs (⟨v',9,1,n+(bN e).length,xs++(bN e).flatMap aX⟩::rs)) 23 4 rfl;refine en Tryz.func268 rfl Tryz.ntmps268 rfl (vs:=[v,.agg #[.int .i64 e.op,.int .i64 e.a,.int .i64 e.rel,.int .i64 e.b,.slice pa9 e.names.length pc9,.int .u64 e.set.a,.int .u64 e.set.b,.int .u64 e.set.c,.int .u64 e.set.d,.slice qa e.kids.length qc]]) rfl fun _ F=>?_
 have M:=hM;refine axe fun K1 gU=>ah<|Ig (on rfl) rfl (F.u rf) rfl F rfl M fun g1 _ _ F M=>xA (v:=.slice none 0 0) F rf rf rf fun _ F=>axf<|gU _ _ ?_
 refine axe fun K2 iy=>ah<|xM F rf rf rf fun _ F=>xF 4 F rf rf rf OU rf ain rf fun _ F=>xL F (M.b 0 rfl) rf rf rf u28 rf rf fun _ F=>
  kp (on rfl) rfl u28 ai0 rfl M 0 rfl (F.u rf) (F.u rf) (SliceAt.keep hnn M.below) ⟨by unfold maxLen;omega,by omega⟩ rfl F rfl fun v2 _ _ F M=>
  xA F rf rf rf fun _ F=>
  axf<|
  iy _ _ ?_
 refine axe fun K3 nE=>axe fun K4 ox=>ah<|xF 9 F rf rf rf OU rf UD rf fun _ F=>xL F (M.b 0 rfl) rf rf rf Uo rf rf fun _ F=>kz F rf (fK rfl (F.u rf) Uo) fun _ F=>xM (v:=.int .i64 0) F rf rf rf fun _ F=>axf<|ox _ _ ?_
 refine axg<|?_;refine eH (ι:=Nat×Value) (fun|(m,v2),a,w=>Fs a 23 [(0,v2),(12,.slice qa e.kids.length qc),(13,.int .i64 (e.kids.length:Int)),(14,.int .i64 (m:Int))]∧Mm wa w ([]++bs) ([⟨v2,9,1,n+(eN e m).length,xs++(eN e m).flatMap aX⟩]++rs)∧m≤e.kids.length) (fun|(m,v2)=>e.kids.length-m) (0,v2) ⟨F.sub ⟨rfl,rfl,rfl,rfl,trivial⟩,((M.only (List.sublist_cons_self _ _) (List.Sublist.refl _):Mm wa _ bs _).cast rfl (YN)),awY _⟩ ?_
 (repeat clear F);(repeat clear M)
 rintro⟨m,v2⟩ _ _ ⟨F,M,hm⟩;refine axe fun K5 ow=>ah<|kz F rf (jo rfl (F.u rf) (F.u rf)) fun _ F=>axf<|ow _ _ ?_
 refine axe fun K6 pT=>?_
 refine axh (F.e 15 rfl) (fun hc3=>?_) (fun hc3=>?_)
 ·have V6:=of_decide_eq_true hc3;refine wp_skip<|pT _ _ ?_;refine axe fun K7 rS=>axg<|axe fun K8 xK=>?_
  have hlty:m<e.kids.length:=by omega
  obtain⟨y,hy⟩:∃ y,e.kids[m]?=some y:=⟨_,awZ hlty⟩;have Ns:=aw3 hy;obtain⟨b9,o9,cs9,rfl,PK,-,hr9⟩:=hcell m y hy;obtain⟨_,_,rfl,ajx,hkky⟩:=PK.open;obtain⟨nay,nky,rfl,-⟩:=SliceAt.form ajx (by decide);obtain⟨kay,kky,rfl,-⟩:=aC.form hkky (by decide);obtain⟨c,hdc,hBk⟩:=hb.kid y Ns
  refine ah<|
   kz F rf (bD (i:=m) rfl (F.u rf) (F.u rf) (by omega) Uo rN) fun _ F=>
   kz F rf (gV [.int .i64 y.op,.int .i64 y.a,.int .i64 y.rel,.int .i64 y.b,.slice nay y.names.length nky,.int .u64 y.set.a,.int .u64 y.set.b,.int .u64 y.set.c,.int .u64 y.set.d,.slice kay y.kids.length kky] rfl (F.u rf) OU rfl rN (dH M.below hr9)) fun _ F=>
   JU (on rfl) rfl AP rfl F rfl M fun g5 _ _ F M=>
   Ld (on rfl) rfl (F.u rf) (F.u rf) F M 0 rfl rN rfl rfl rfl fun _ M=>
   axf<|
   xK _ _ ?_
  have aqA:=MU hy;refine ah<|xM F rf rf rf fun _ F=>xW F (M.b 0 rfl) rf rf rf OU rf rN rf fun _ F=>kt (on rfl) (fL rfl Tryz.func268 aaz rfl (args2 (F.u rf) (F.u rf))) (ih y Ns wa _ _ _ c _ _ _ _ M PK hBk (by omega)) rfl F rfl fun v9 _ w9 hR F=>?_
  have M:=hR;refine xA F rf rf rf fun _ F=>axf<|rS _ _ ?_
  refine ah<|
   ke (on rfl) (eX rfl (F.u rf) rfl) rfl F rfl (congrArg (Value.int .i64) (wrap_i64 (by omega))) fun _ F=>
   xM F rf rf rf fun _ F=>
   axf<|?_
  exact⟨(m+1,v9),⟨F.sub ⟨rfl,rfl,rfl,rfl,trivial⟩,((M.only (List.Sublist.append (.cons _ .slnil) (List.Sublist.refl _)) (List.Sublist.refl _))).cast rfl (ach hy),by omega⟩,by show e.kids.length-(m+1)<e.kids.length-m;omega⟩
 ·have hd6:=of_decide_eq_false hc3;refine wp_exit<|nE _ _ ?_;refine axe fun K9 zf=>ah<|xM F rf rf rf fun _ F=>xA F rf rf rf fun _ F=>axf<|zf _ _ ?_
  refine wp_ret<|bJ _ _ _ _ F rfl ?_;obtain rfl:m=e.kids.length:=by omega
  rw[Rz] at M;exact⟨_,rfl,M.only (show List.Sublist bs _ from List.sublist_append_right _ _) (List.Sublist.refl _)⟩
end Go.Proofs.YtdcofoaihmongaaGreat
namespace Go.Proofs.YtdcofoaihmongaaGreat
open Go Go.Proofs Go.Shelf
def JL:Go.Shelf.Ren:=⟨fun|190=>269|125=>208|258=>296|128=>262|129=>263|302=>307|303=>308|304=>309|305=>310|306=>311|307=>312|308=>313|309=>314|310=>315|333=>319|329=>290|330=>291|334=>320|335=>321|336=>322|344=>325|n=>n,fun|31=>28|9=>9|3=>3|46=>246|0=>0|51=>50|53=>52|4=>4|183=>325|182=>324|131=>161|5=>5|218=>352|222=>356|228=>362|229=>363|n=>n,fun|n=>n⟩
theorem Pv:Go.Proofs.Lays.n190 Tryz.prog JL:={
 mixed:=by kernel_rfl
 f125:=Tryz.func208.trans (congrArg some (by kernel_rfl))
 f128:=Tryz.func262.trans (congrArg some (by kernel_rfl))
 f129:=Tryz.func263.trans (congrArg some (by kernel_rfl))
 f190:=Tryz.func269.trans (congrArg some (by kernel_rfl))
 f258:=Tryz.func296.trans (congrArg some (by kernel_rfl))
 f302:=Tryz.func307.trans (congrArg some (by kernel_rfl))
 f303:=Tryz.func308.trans (congrArg some (by kernel_rfl))
 f304:=Tryz.func309.trans (congrArg some (by kernel_rfl))
 f305:=Tryz.func310.trans (congrArg some (by kernel_rfl))
 f306:=Tryz.func311.trans (congrArg some (by kernel_rfl))
 f307:=Tryz.func312.trans (congrArg some (by kernel_rfl))
 f308:=Tryz.func313.trans (congrArg some (by kernel_rfl))
 f309:=Tryz.func314.trans (congrArg some (by kernel_rfl))
 f310:=Tryz.func315.trans (congrArg some (by kernel_rfl))
 f329:=Tryz.func290.trans (congrArg some (by kernel_rfl))
 f330:=Tryz.func291.trans (congrArg some (by kernel_rfl))
 f333:=Tryz.func319.trans (congrArg some (by kernel_rfl))
 f334:=Tryz.func320.trans (congrArg some (by kernel_rfl))
 f335:=Tryz.func321.trans (congrArg some (by kernel_rfl))
 f336:=Tryz.func322.trans (congrArg some (by kernel_rfl))
 f344:=Tryz.func325.trans (congrArg some (by kernel_rfl))
 t0:=Tryz.underlying0
 a0:=Tryz.isAgg0
 z0:=Tryz.sizeOf0
 v0:=Tryz.zeroValue0
 t3:=Tryz.underlying3
 a3:=Tryz.isAgg3
 z3:=Tryz.sizeOf3
 v3:=Tryz.zeroValue3
 t4:=Tryz.underlying4
 a4:=Tryz.isAgg4
 z4:=Tryz.sizeOf4
 v4:=Tryz.zeroValue4
 t5:=Tryz.underlying5
 a5:=Tryz.isAgg5
 z5:=Tryz.sizeOf5
 v5:=Tryz.zeroValue5
 t9:=Tryz.underlying9
 a9:=Tryz.isAgg9
 z9:=Tryz.sizeOf9
 v9:=Tryz.zeroValue9
 t31:=Tryz.underlying28
 a31:=Tryz.isAgg28
 z31:=Tryz.sizeOf28
 v31:=Tryz.zeroValue28
 t46:=Tryz.underlying246
 a46:=Tryz.isAgg246
 z46:=Tryz.sizeOf246
 v46:=Tryz.zeroValue246
 t51:=Tryz.underlying50
 a51:=Tryz.isAgg50
 z51:=Tryz.sizeOf50
 v51:=Tryz.zeroValue50
 t53:=Tryz.underlying52
 a53:=Tryz.isAgg52
 z53:=Tryz.sizeOf52
 v53:=Tryz.zeroValue52
 t131:=Tryz.underlying161
 a131:=Tryz.isAgg161
 z131:=Tryz.sizeOf161
 v131:=Tryz.zeroValue161
 t182:=Tryz.underlying324
 a182:=Tryz.isAgg324
 z182:=Tryz.sizeOf324
 v182:=Tryz.zeroValue324
 t183:=Tryz.underlying325
 a183:=Tryz.isAgg325
 z183:=Tryz.sizeOf325
 v183:=Tryz.zeroValue325
 t218:=Tryz.underlying352
 a218:=Tryz.isAgg352
 z218:=Tryz.sizeOf352
 v218:=Tryz.zeroValue352
 t222:=Tryz.underlying356
 a222:=Tryz.isAgg356
 z222:=Tryz.sizeOf356
 v222:=Tryz.zeroValue356
 t228:=Tryz.underlying362
 a228:=Tryz.isAgg362
 z228:=Tryz.sizeOf362
 v228:=Tryz.zeroValue362
 t229:=Tryz.underlying363
 a229:=Tryz.isAgg363
 z229:=Tryz.sizeOf363
 v229:=Tryz.zeroValue363 }
def JK:Go.Shelf.Ren:=⟨fun|194=>270|n=>n,fun|31=>28|9=>9|3=>3|4=>4|0=>0|n=>n,fun|n=>n⟩
theorem Pu:Go.Proofs.Lays.n194 Tryz.prog JK:={
 mixed:=by kernel_rfl
 f194:=Tryz.func270.trans (congrArg some (by kernel_rfl))
 t0:=Tryz.underlying0
 a0:=Tryz.isAgg0
 z0:=Tryz.sizeOf0
 v0:=Tryz.zeroValue0
 t3:=Tryz.underlying3
 a3:=Tryz.isAgg3
 z3:=Tryz.sizeOf3
 v3:=Tryz.zeroValue3
 t4:=Tryz.underlying4
 a4:=Tryz.isAgg4
 z4:=Tryz.sizeOf4
 v4:=Tryz.zeroValue4
 t9:=Tryz.underlying9
 a9:=Tryz.isAgg9
 z9:=Tryz.sizeOf9
 v9:=Tryz.zeroValue9
 t31:=Tryz.underlying28
 a31:=Tryz.isAgg28
 z31:=Tryz.sizeOf28
 v31:=Tryz.zeroValue28 }
open Go.Sort Go.RowKit in
theorem slices_Sort_string(blk off cap:Nat)(ss:List (List UInt8))(w:World)(hH:Holds encStr w blk off ss.toArray)(hblk:blk<w.heap.size)(hsz:ss.length<4611686018427387904):
 Calls Tryz.prog 269 #[.slice (some ⟨blk,off,none⟩) ss.length cap] w fun e w'=>e=.returned (.tuple #[])∧∃ n os,w'=grow (putRow encStr (Sort.ahead w n) blk off (ss.mergeSort fun x y=>decide (x≤y)).toArray) os:=Any.slices_Sort_string Pv blk off cap ss w hH hblk hsz
theorem slices_Sort_string_none(p:Option Addr)(cap:Nat)(w:World):
 Calls Tryz.prog 269 #[.slice p 0 cap] w fun e w'=>e=.returned (.tuple #[])∧w'=w:=Any.slices_Sort_string_none Pv p cap w
open Go.Sort Go.RowKit in
theorem slices_Compact_string(blk off cap:Nat)(zs:List (List UInt8))(w:World)(hH:Holds encStr w blk off zs.toArray)(hsz:zs.length≤9223372036854775807)(hcap:zs.length≤cap):
 Calls Tryz.prog 270 #[.slice (some ⟨blk,off,none⟩) zs.length cap] w fun e w'=>e=.returned (.slice (some ⟨blk,off,none⟩) (Lib.compact zs).length cap)∧∃ q,w'=putRow encStr (Sort.ahead w q) blk off (Lib.compact zs++List.replicate (zs.length-(Lib.compact zs).length) []).toArray:=Any.slices_Compact_string Pu blk off cap zs w hH hsz hcap
theorem slices_Compact_string_empty(a:Option Addr)(cap:Nat)(w:World):
 Calls Tryz.prog 270 #[.slice a 0 cap] w fun e w'=>e=.returned (.slice a 0 cap)∧w'=w:=Any.slices_Compact_string_empty Pu a cap w
open Go.Sort Go.RowKit
def dN(s:ByteArray):List UInt8:=s.data.toList
def X6(b:List UInt8):ByteArray:=⟨b.toArray⟩
theorem nV(s:ByteArray):X6 (dN s)=s:=by cases s;simp[X6,dN]
def uy(l:List ByteArray):List ByteArray:=((l.map dN).mergeSort fun x y=>decide (x≤y)).map X6
def mD(l:List ByteArray):List ByteArray:=(Lib.compact (l.map dN)).map X6
theorem ER(l:List ByteArray):l.flatMap aX=(l.map dN).map encStr:=by
 induction l with
 | nil=>rfl
 | cons s l ih=>rw[List.flatMap_cons,List.map_cons,List.map_cons,← ih];show Value.string s::_=Value.string (X6 (dN s))::_;rw[nV];rfl
theorem EO(l:List (List UInt8)):(l.map X6).flatMap aX=l.map encStr:=by
 induction l with
 | nil=>rfl
 | cons s l ih=>rw[List.map_cons,List.flatMap_cons,List.map_cons,← ih];rfl
theorem SQ(w:World)(base:Nat)(v:Value)(n:Nat)(l:List ByteArray)(hn:n=l.length)(h:w.ownsRow base 9 1 v n (l.flatMap aX))(hz:n≤100000001):
 Calls Tryz.prog 269 #[v] w fun e w'=>∃ z,e=.returned z∧w'.ownsRow base 9 1 v n ((uy l).flatMap aX)∧w.grownBy w' v.ownBlock:=by
 subst hn;unfold uy;rw[ER] at h;rw[EO];rcases h.2 with⟨rfl,h0⟩|⟨g,cap,cur,rfl,hg,hh,h1,h2,h3,h4⟩
 ·have:l=[]:=List.eq_nil_of_length_eq_zero h0;subst this;refine(slices_Sort_string_none none 0 w).mono ?_;rintro e w' ⟨rfl,rfl⟩;exact⟨_,rfl,by simpa using h,World.grownBy.refl _ _⟩
 ·have hl:(l.map dN).length=l.length:=aw6 ..;rw[← hl] at h1 ⊢;refine(slices_Sort_string g 0 cap (l.map dN) w (holds_of_block hh (by rw[Nat.mul_one,← hl] at h4;exact h4)) (Array.getElem?_eq_some_iff.1 hh).1 (by rw[hl];omega)).mono ?_;rintro e w' ⟨rfl,n,os,rfl⟩;exact⟨_,rfl,ownsRow_sorted (List.length_mergeSort _) hg hh h1 h2 h3,grownBy_sorted _⟩
theorem zR:∀ l:List (List UInt8),(Lib.compact l).length≤l.length:=fun l=>by
 unfold Lib.compact Lib.compactUpTo;rw[aw6];exact axb (List.length_filter_le _ _) (by rw[List.length_range];omega)
theorem kH(d:Array (List UInt8))(x:List UInt8):∀ m,(x∈Lib.compactUpTo d m↔∃ j,j<m∧d[j]! = x)
 | 0=>by simp[Lib.compactUpTo]
 | m+1=>by
  rw[Lib.compactUpTo_succ,aw9,kH d x m];constructor
  ·rintro(⟨j,hj,h⟩|h)
   ·exact⟨j,by omega,h⟩
   ·split at h
    ·exact⟨m,by omega,(aw5.1 h).symm⟩
    ·cases h
  ·rintro⟨j,hj,h⟩;by_cases hk:Lib.keeps d m=true
   ·by_cases hjm:j=m
    ·subst hjm;right;rw[if_pos hk];exact aw5.2 h.symm
    ·exact .inl ⟨j,by omega,h⟩
   ·left;by_cases hjm:j=m
    ·subst hjm;have h3:¬ (j=0∨d[j]!≠d[j-1]!):=fun h4=>hk (decide_eq_true h4)
     have h4:j≠0:=fun e=>h3 (.inl e)
     have h5:d[j]! = d[j-1]!:=Classical.byContradiction fun e=>h3 (.inr e)
     exact⟨j-1,by omega,by rw[← h5,h]⟩
    ·exact⟨j,by omega,h⟩
theorem zu(l:List (List UInt8))(x:List UInt8):x∈Lib.compact l↔x∈l:=by
 unfold Lib.compact;rw[kH];constructor
 ·rintro⟨j,hj,rfl⟩;rw[getElem!_pos l.toArray j (by simpa using hj)];simp
 ·intro h;obtain⟨j,hj,rfl⟩:=List.getElem_of_mem h;exact⟨j,hj,by rw[getElem!_pos l.toArray j (by simpa using hj)];simp⟩
theorem Wr(w:World):grow w #[]=w:=by simp[grow]
theorem Ht(w:World)(base:Nat)(v:Value)(n:Nat)(l:List ByteArray)(hn:n=l.length)(h:w.ownsRow base 9 1 v n (l.flatMap aX))(hz:n≤100000001):
 Calls Tryz.prog 270 #[v] w fun e w'=>∃ v',e=.returned v'∧w'.ownsRow base 9 1 v' (mD l).length ((mD l).flatMap aX)∧w.grownBy w' v.ownBlock∧v'.ownBlock=v.ownBlock:=by
 subst hn;unfold mD;rw[ER] at h;rw[EO];rcases h.2 with⟨rfl,h0⟩|⟨g,cap,cur,rfl,hg,hh,h1,h2,h3,h4⟩
 ·have:l=[]:=List.eq_nil_of_length_eq_zero h0;subst this;refine(slices_Compact_string_empty none 0 w).mono ?_;rintro e w' ⟨rfl,rfl⟩;refine⟨_,rfl,?_,World.grownBy.refl _ _,rfl⟩;rw[show([]:List ByteArray).map dN=[] from rfl,show Lib.compact ([]:List (List UInt8))=[] from rfl];simpa using h
 ·have hl:(l.map dN).length=l.length:=aw6 ..;have hc:=zR (l.map dN);rw[← hl] at h1 ⊢;refine(slices_Compact_string g 0 cap (l.map dN) w (holds_of_block hh (by rw[Nat.mul_one,← hl] at h4;exact h4)) (by rw[hl];omega) h1).mono ?_;rintro e w' ⟨rfl,q,rfl⟩;have hb:=heap_sorted (n:=q) (os:=#[]) (Lib.compact (l.map dN)++List.replicate ((l.map dN).length-(Lib.compact (l.map dN)).length) []).toArray hh;have hgr:=grownBy_sorted (w:=w) (g:=g) (n:=q) (os:=#[]) (Lib.compact (l.map dN)++List.replicate ((l.map dN).length-(Lib.compact (l.map dN)).length) []).toArray;rw[Wr] at hb hgr;refine⟨_,rfl,⟨by simp,.inr ⟨g,cap,_,by rw[aw6],hg,hb,by rw[aw6];omega,h2,by simp[putCells,h3],?_⟩⟩,hgr,rfl⟩;have ht:=take_putCells cur (Lib.compact (l.map dN)++List.replicate ((l.map dN).length-(Lib.compact (l.map dN)).length) []) (by rw[axc,List.length_replicate];omega);have ht2:=congrArg (List.take (Lib.compact (l.map dN)).length) ht;rw[List.take_take,List.map_append,List.take_left' (aw6 ..),Nat.min_eq_left (by rw[axc];omega)] at ht2;rw[aw6,Nat.mul_one];exact ht2
theorem QT(l:List ByteArray)(s:ByteArray):s∈uy l↔s∈l:=by
 unfold uy;constructor
 ·intro h;obtain⟨b,hb,rfl⟩:=aw8.1 h;rw[List.mem_mergeSort] at hb;obtain⟨t,ht,rfl⟩:=aw8.1 hb;rw[nV];exact ht
 ·intro h;exact aw8.2 ⟨dN s,List.mem_mergeSort.2 (List.mem_map_of_mem h),nV s⟩
theorem QU(l:List ByteArray):(uy l).length=l.length:=by unfold uy;rw[aw6,List.length_mergeSort,aw6]
theorem Gw(l:List ByteArray)(s:ByteArray):s∈mD l↔s∈l:=by
 unfold mD;constructor
 ·intro h;obtain⟨b,hb,rfl⟩:=aw8.1 h;obtain⟨t,ht,rfl⟩:=aw8.1 ((zu _ _).1 hb);rw[nV];exact ht
 ·intro h;exact aw8.2 ⟨dN s,(zu _ _).2 (List.mem_map_of_mem h),nV s⟩
def dJ(e:aA):List ByteArray:=mD (uy (bN e))
theorem tG(e:aA)(s:ByteArray):s∈dJ e↔s∈bN e:=by unfold dJ;rw[Gw,QT]
end Go.Proofs.YtdcofoaihmongaaGreat
namespace Go.Proofs.YtdcofoaihmongaaGreat
open Go Go.RowKit
theorem YM{e:aA}{t k:Nat}{v:Value}{rs:List Rw}:(⟨v,t,k,0+(bN e).length,[]++(bN e).flatMap aX⟩::rs:List Rw)=⟨v,t,k,(bN e).length,(bN e).flatMap aX⟩::rs:=by rw[Nat.zero_add,List.nil_append]
theorem iZ.len2{d:Nat}{e:aA}(h:iZ d e):(bN e).length≤2^d:=by
 induction h with
 | @name d s h1 h2=>rw[bN,bQ];exact Nat.one_le_two_pow
 | @not d k h1 ih=>rw[bN,bQ,bQ,Nat.pow_succ];simp only[List.nil_append,List.append_nil];omega
 | @bin d op k l h1 h2 h3 h4 ih1 ih2=>rw[bN,bQ,bQ,bQ,Nat.pow_succ];simp only[List.nil_append,List.append_nil,axc];omega
theorem iZ.len{d:Nat}{e:aA}(h:iZ d e)(hd:d≤12):(bN e).length≤4096:=axb h.len2 (Nat.pow_le_pow_right (by decide:0<2) hd)
theorem NZ(w0:World)(cs:List Value)(e:aA)(d:Nat)(hE:bB w0 cs e)(hB:iZ d e)(hd:d≤12):Calls Tryz.prog 229 #[.agg cs.toArray] w0 (fun(r:Ending) (w':World)=>∃ v',r=.returned v'∧(w'.ownsRow w0.heap.size 9 1 v' (dJ e).length ((dJ e).flatMap aX)∧awX w0.heap.size w0 w')):=by
 have hln:=hB.len hd;have hE0:=hE;obtain⟨_,_,rfl,hnn,hkk⟩:=hE0.open;obtain⟨pa9,pc9,rfl,hnk,hnm,acG⟩:=SliceAt.form hnn (by decide);obtain⟨qa,qc,rfl,hkc,hkm,hcell⟩:=aC.form hkk (by decide);have bJ:=hr1 Tryz.prog Tryz.f229 (fun(r:Ending) (w':World)=>∃ v',r=.returned v'∧(w'.ownsRow w0.heap.size 9 1 v' (dJ e).length ((dJ e).flatMap aX)∧awX w0.heap.size w0 w')) 13 2 rfl;refine en Tryz.func229 rfl Tryz.ntmps229 rfl (vs:=[.agg #[.int .i64 e.op,.int .i64 e.a,.int .i64 e.rel,.int .i64 e.b,.slice pa9 e.names.length pc9,.int .u64 e.set.a,.int .u64 e.set.b,.int .u64 e.set.c,.int .u64 e.set.d,.slice qa e.kids.length qc]]) rfl fun _ F=>?_
 have M:=Mm.start w0;refine axe fun K1 gU=>ah<|Ig (on rfl) rfl (F.u rf) rfl F rfl M fun g1 _ _ F M=>xA (v:=.slice none 0 0) F rf rf rf fun _ F=>axf<|gU _ _ ?_
 refine axe fun K2 iy=>axe fun K3 nE=>ah<|xW F (M.b 0 rfl) rf rf rf OU rf rN rf fun _ F=>xC F M rf rf aiu (args1 (F.u rf)) (N_ _ _ e d (hE.keep M.below) hB hd) fun _ _ F M=>ke (on rfl) (Xa rfl (F.u rf) rfl) rfl F rfl (show Value.bool (!decide ((0:Int)=0))=_ from rfl) fun _ F=>axf<|nE _ _ ?_
 refine axj (F.e 6 rfl) ?_;refine wp_skip<|iy _ _ ?_;refine axe fun K4 ox=>ah<|xW F (M.b 0 rfl) rf rf rf OU rf rN rf fun _ F=>kt (on rfl) (fL rfl Tryz.func268 aaz rfl (args2 rfl (F.u rf))) (KF e w0 _ _ _ d _ _ _ _ (M.bM 9 1) hE hB (by omega)) rfl F rfl fun v9 _ w9 hR F=>?_
 have M:=hR.cast rfl (YM (e:=e));refine xA F rf rf rf fun _ F=>axf<|ox _ _ ?_
 refine axe fun K5 ow=>ah<|xM F rf rf rf fun _ F=>kt (on rfl) (fL rfl Tryz.func269 afd rfl (args1 (F.u rf))) (SQ _ w0.heap.size _ _ (bN e) rfl (M.r 0 rfl) (by omega)) rfl F rfl fun z9 _ w9 hR F=>?_
 have M:=M.grow 0 rfl hR.1 hR.2 (.inl rfl);refine axf<|ow _ _ ?_;refine axe fun K6 pT=>ah<|xM F rf rf rf fun _ F=>kt (on rfl) (fL rfl Tryz.func270 afc rfl (args1 (F.u rf))) (Ht _ w0.heap.size _ _ (uy (bN e)) (QU _).symm (M.r 0 rfl) (by omega)) rfl F rfl fun v8 _ w9 hR F=>?_
 have M:=M.grow 0 rfl hR.1 hR.2.1 (.inl hR.2.2);refine xA F rf rf rf fun _ F=>axf<|pT _ _ ?_
 refine wp_ret<|bJ _ _ _ _ F rfl ?_;exact⟨_,rfl,M.r 0 rfl,M.below⟩
end Go.Proofs.YtdcofoaihmongaaGreat

import Derived.Laws.BitsLemmas
import Derived.Shelf.SlicesE.Clone
import Derived.Test.YtdcofoaihmongaaGreatProg
import Derived.Test.YtdcofoaihmongaaGreatS2
open Bool renaming and_eq_true→awU,eq_iff_iff→awW
open Go renaming cell_later→awy,wp_seq_k→awB,wpList_nil→awC,wp_block→awD,wp_cond_split→awE
open Go.Lib renaming hid→awV
open Go.RowKit renaming Below→aww
open List renaming mem_of_getElem?→awz,getElem?_eq_getElem→awA,mem_singleton→awH,take_length→awJ,mem_append→awK,mem_cons→awL,mem_map→awM,length_map→awN,getElem?_eq_some_iff→awO,all_eq_true→awP,map_append→awQ,length_append→awR,flatMap_append→awS,filterMap_append→awT
open Nat renaming zero_le→awx,le_trans→awF,mul_le_mul_right→awI
open Option.some renaming inj→awG
set_option maxRecDepth 100000
set_option maxHeartbeats 8000000
namespace Go.Proofs.YtdcofoaihmongaaGreat
open Go Go.RowKit
section
variable {u:Int} {n:Nat} {e:aA}
theorem QB{n:Nat}{op a:Int}{k:Nat}(h:iM n op a k=false):(k:Int)=BI op∧(op=1→0≤a∧a<n):=by
 unfold iM at h;simp only[Bool.or_eq_false_iff,Bool.not_eq_false',decide_eq_true_eq,Bool.and_eq_false_iff,decide_eq_false_iff_not] at h;refine⟨h.1,fun ho=>?_⟩;rcases h.2 with h2|h2
 ·exact absurd ho h2
 ·omega
theorem X3(h:iM n e.op e.a e.kids.length=true):cF u n e=0:=by
 rw[uj,LO,pZ,if_pos h]
theorem Um(h:iM n e.op e.a e.kids.length=false)(h1:e.op=1):cF u n e=zx u e.a:=by
 rw[uj,LO,pZ,if_neg (by rw[h];decide),if_pos h1]
theorem X1{y:aA}(h:iM n e.op e.a e.kids.length=false)(h2:e.op=2)(hy:e.kids[0]?=some y):cF u n e=notM u (cF u n y):=by
 rw[uj,LO,pZ,if_neg (by rw[h];decide),if_neg (by omega),if_pos h2,uo _ _ _ _ hy]
theorem X2{y z:aA}(h:iM n e.op e.a e.kids.length=false)(h1:e.op≠1)(h2:e.op≠2)(hy:e.kids[0]?=some y)(hz:e.kids[1]?=some z):cF u n e=DU u e.op (cF u n y) (cF u n z):=by
 rw[uj,LO,pZ,if_neg (by rw[h];decide),if_neg h1,if_neg h2,uo _ _ _ _ hy,uo _ _ _ _ hz]
end
theorem Ai(w0:World)(tp mb:Nat)(c0 c1 c2 c3 c4 c6 c7 c8 c9 aR aO aN aQ aM aL aP:Value)(iu:Option Addr)(nB iq:Nat)(u:Int)(hT:q5 w0 tp mb c0 c1 c2 c3 c4 (.slice iu nB iq) c6 c7 c8 c9 aR aO aN aQ aM aL aP u)(sg:Nat)(sx:Int)(hs:Whole w0 sg 52 #[.int .u64 sx]):Calls Tryz.prog 175 #[.pointer (some ⟨tp,0,none⟩),.slice (some ⟨sg,0,none⟩) 1 1] w0 (fun(r:Ending) (w':World)=>∃ v,r=.returned v∧((bT w' w0.heap.size v (notM u sx))∧aww w0.heap.size w0 w')):=by
 refine dD [] (fn:=Tryz.f175) Tryz.func175 rfl Tryz.ntmps175 rfl<|lc (x:=.int .i64 1)<|an (hT.cell 17)<|mz1 (Mm.start w0) Bb JX TS rfl (by decide) fun g w1 M1=>lp (ι:=Nat×Int) (fun(t,x)=>[(14,.int .i64 (t:Int))]) (fun(t,x)=>[(g,52,#[.int .u64 x])]) (fun _=>[]) (fun(t,x) _=>t≤1∧(t=1→x=notM u sx)) (fun(t,x)=>1-t) (0,0) (an ⟨⟨rfl,trivial⟩,fun M=>⟨M,awx _,fun h=>by cases h⟩⟩ ?_)
 rintro⟨t,x⟩ w M ⟨ht,hx⟩;refine an (fun h=>?_) fun h M=>?_
 ·obtain rfl:t=0:=by simp at h;omega
  refine dr (by kernel_rfl)<|ia (i:=0)<|an ⟨rfl,rfl,by decide⟩<|lc (x:=.int .u64 sx)<|an (awy M.below ((Whole.cell hs) 0))<|ei (x:=.int .u64 (bits .xor .u64 18446744073709551615 sx))<|an (fun a w o ho hv=>PZ ho (oD hv))<|lc (x:=.int .u64 u)<|an (awy M.below (hT.cell 18))<|ei (x:=bits .and .u64 (bits .xor .u64 18446744073709551615 sx) u)<|an rfl<|ia (i:=0)<|an ⟨rfl,rfl,by decide⟩<|fun w hb M=>?_
  exact lb 0<|an ⟨⟨rfl,rfl⟩,Nat.le_refl _⟩ fun w M=>an (by omega)<|bk (1,notM u sx) ⟨rfl,trivial⟩ (fun M=>⟨M,by omega,fun _=>rfl⟩) (by dsimp only;omega)
 ·obtain rfl:=hx (by simp at h;omega);exact⟨_,rfl,⟨_,rfl,M.b 0 rfl,M.lo _ (awz (i:=0) rfl)⟩,M.below⟩
theorem wG:∀ e:aA,∀ (w0:World) (cs:List Value) (tp mb:Nat) (c0 c1 c2 c3 c4 c6 c7 c8 c9 aR aO aN aQ aM aL aP:Value) (iu:Option Addr) (nB iq:Nat) (u:Int) (_:nB≤5),q5 w0 tp mb c0 c1 c2 c3 c4 (.slice iu nB iq) c6 c7 c8 c9 aR aO aN aQ aM aL aP u→bB w0 cs e→Calls Tryz.prog 173 #[.pointer (some ⟨tp,0,none⟩),.agg cs.toArray] w0 (fun(r:Ending) (w':World)=>∃ v,r=.returned v∧((bT w' w0.heap.size v (cF u nB e))∧aww w0.heap.size w0 w')):=by
 refine aA.ind fun e ih=>?_
 intro w0 cs tp mb c0 c1 c2 c3 c4 c6 c7 c8 c9 aR aO aN aQ aM aL aP iu nB iq u hn hT h;obtain⟨nv,kv,rfl,-,hk⟩:=h.open;obtain⟨_,_,rfl,-,xI,-⟩:=aC.form hk (by decide);refine dD [] (fn:=Tryz.f173) Tryz.func173 rfl Tryz.ntmps173 rfl<|fun g1 w1 M1=>dr (by kernel_rfl)<|lb 0<|an rfl<|lb 0<|an rfl<|cl<|an (fun w' hb M'=>FL w' e.op)<|lb 0<|an (fun _=>rfl)<|lb 0<|an (fun _=>rfl)<|lb 0<|an (fun _=>rfl)<|lc (x:=.slice iu nB iq)<|an (fun _=>awy M1.below (hT.cell 5))<|fun w2 hb2 M2=>an (fun h1=>?_) fun h1=>?_
 ·exact lc (x:=.int .i64 1)<|an (awy M2.below (hT.cell 17))<|mz1 M2 Bb JX TS rfl (by decide) fun g w M M=>⟨_,rfl,⟨_,rfl,by have hW:=M.b 0 rfl;rw[X3 h1];exact hW,M.lo _ (awz (i:=0) rfl)⟩,M.below⟩
 have h1:iM nB e.op e.a e.kids.length=false:=h1;obtain⟨hv1,hv2⟩:=QB h1;refine lb 0<|an rfl<|an (fun h2=>?_) fun h2=>?_
 ·have h2:e.op=1:=by simpa using h2
  exact lb 0<|an rfl<|cst M2 (KO _ tp mb _ _ _ _ _ _ _ _ _ _ _ _ _ _ _ _ iu nB iq u (Whole.under M2.below hT hT.lt) e.a (by omega) (by omega)) fun g w M M=>⟨_,rfl,⟨_,rfl,by have hW:=M.b 0 rfl;rw[Um h1 h2];exact hW,M.lo _ (awz (i:=0) rfl)⟩,M.below⟩
 have h2:¬ e.op=1:=by simpa using h2
 have hly:0<e.kids.length:=by unfold BI at hv1;split at hv1<;>(try split at hv1)<;>omega
 obtain⟨y,hy⟩:∃ y,e.kids[0]?=some y:=⟨_,awA hly⟩;obtain⟨b,o,_,e1,hE,hc⟩:=aC.elt hk (by decide) hy;obtain⟨nv',kv',rfl,-⟩:=hE.open;refine lb 0<|an rfl<|ia (i:=0)<|an ⟨e1,rfl,hly⟩<|lc<|an (dH M2.below hc)<|cst M2 (ih y (awz hy) _ _ tp mb _ _ _ _ _ _ _ _ _ _ _ _ _ _ _ _ iu nB iq u hn (Whole.under M2.below hT hT.lt) (hE.keep M2.below)) fun gy w3 M3=>lb 1<|an rfl<|an (fun h3=>?_) fun h3=>?_
 ·exact cst M3 (Ai _ tp mb _ _ _ _ _ _ _ _ _ _ _ _ _ _ _ _ iu nB iq u (Whole.under M3.below hT hT.lt) gy _ (M3.b 0 rfl)) fun g w M M=>⟨_,rfl,⟨_,rfl,by have hW:=M.b 0 rfl;rw[X1 h1 (by simpa using h3) hy];exact hW,M.lo _ (awz (i:=0) rfl)⟩,M.below⟩
 have h3:¬ e.op=2:=by simpa using h3
 have hlz:1<e.kids.length:=by unfold BI at hv1;split at hv1<;>(try split at hv1)<;>omega
 obtain⟨z,hz⟩:∃ z,e.kids[1]?=some z:=⟨_,awA hlz⟩;obtain⟨bz,oz,_,e2,hEz,hcz⟩:=aC.elt hk (by decide) hz;obtain⟨nvz,kvz,rfl,-⟩:=hEz.open;refine lb 1<|an rfl<|ia (i:=1)<|an ⟨e2,rfl,hlz⟩<|lc<|an (dH M3.below hcz)<|cst M3 (ih z (awz hz) _ _ tp mb _ _ _ _ _ _ _ _ _ _ _ _ _ _ _ _ iu nB iq u hn (Whole.under M3.below hT hT.lt) (hEz.keep M3.below)) fun gz w4 M4=>lp (ι:=Nat×Int) (fun(t,x)=>[(68,.int .i64 (t:Int))]) (fun(t,x)=>_::(gy,52,#[.int .u64 x])::_) (fun _=>[]) (fun(t,x) _=>t≤1∧(t=0→x=cF u nB y)∧(t=1→x=DU u e.op (cF u nB y) (cF u nB z))) (fun(t,x)=>1-t) (0,cF u nB y) (an ⟨⟨rfl,trivial⟩,fun M=>⟨M,by decide,fun _=>rfl,fun h=>by cases h⟩⟩ ?_)
 rintro⟨t,x⟩ w M ⟨ht,hx0,hx1⟩;refine an (fun h=>?_) fun h M=>⟨_,rfl,⟨_,rfl,by have hW:=M.b 1 rfl;rw[X2 h1 h2 h3 hy hz,← hx1 (by simp at h;omega)];exact hW,M.lo _ (awz (i:=1) rfl)⟩,M.below⟩
 obtain rfl:t=0:=by simp at h;omega
 obtain rfl:=hx0 rfl;refine lb 2<|an rfl<|an (fun h4=>?_) fun h4=>an (fun h5=>?_) fun h5=>an (fun h6=>?_) fun h6=>?_
 all_goals simp only[decide_eq_true_eq,decide_eq_false_iff_not] at *
 ·exact dr (by kernel_rfl)<|ia (i:=0)<|an ⟨rfl,rfl,by decide⟩<|lb 1<|an rfl<|ia (i:=0)<|an ⟨rfl,rfl,by decide⟩<|lb 0<|an rfl<|ei (x:=bits .and .u64 (cF u nB y) (cF u nB z))<|an rfl<|ia (i:=0)<|an ⟨rfl,rfl,by decide⟩<|fun w hb M=>lb 1<|an ⟨⟨rfl,rfl⟩,Nat.le_refl _⟩ fun w M=>an (by omega)<|bk (1,bits .and .u64 (cF u nB y) (cF u nB z)) ⟨rfl,trivial⟩ (fun M=>⟨M,by omega,(fun h=>by cases h),fun _=>by unfold DU;rw[if_pos h4]⟩) (by dsimp only;omega)
 ·exact dr (by kernel_rfl)<|ia (i:=0)<|an ⟨rfl,rfl,by decide⟩<|lb 1<|an rfl<|ia (i:=0)<|an ⟨rfl,rfl,by decide⟩<|lb 0<|an rfl<|ei (x:=bits .or .u64 (cF u nB y) (cF u nB z))<|an rfl<|ia (i:=0)<|an ⟨rfl,rfl,by decide⟩<|fun w hb M=>lb 1<|an ⟨⟨rfl,rfl⟩,Nat.le_refl _⟩ fun w M=>an (by omega)<|bk (1,bits .or .u64 (cF u nB y) (cF u nB z)) ⟨rfl,trivial⟩ (fun M=>⟨M,by omega,(fun h=>by cases h),fun _=>by unfold DU;rw[if_neg h4,if_pos h5]⟩) (by dsimp only;omega)
 ·exact dr (by kernel_rfl)<|ia (i:=0)<|an ⟨rfl,rfl,by decide⟩<|lb 1<|an rfl<|ia (i:=0)<|an ⟨rfl,rfl,by decide⟩<|lb 0<|an rfl<|ei (x:=bits .xor .u64 (cF u nB y) (cF u nB z))<|an rfl<|ei (x:=.int .u64 (bits .xor .u64 18446744073709551615 (bits .xor .u64 (cF u nB y) (cF u nB z))))<|an (fun a w o ho hv=>PZ ho (oD hv))<|lc (x:=.int .u64 u)<|an (awy M.below (hT.cell 18))<|ei (x:=bits .and .u64 (bits .xor .u64 18446744073709551615 (bits .xor .u64 (cF u nB y) (cF u nB z))) u)<|an rfl<|ia (i:=0)<|an ⟨rfl,rfl,by decide⟩<|fun w hb M=>lb 1<|an ⟨⟨rfl,rfl⟩,Nat.le_refl _⟩ fun w M=>an (by omega)<|bk (1,bits .and .u64 (bits .xor .u64 18446744073709551615 (bits .xor .u64 (cF u nB y) (cF u nB z))) u) ⟨rfl,trivial⟩ (fun M=>⟨M,by omega,(fun h=>by cases h),fun _=>by unfold DU;rw[if_neg h4,if_neg h5,if_pos h6]⟩) (by dsimp only;omega)
 ·exact dr (by kernel_rfl)<|ia (i:=0)<|an ⟨rfl,rfl,by decide⟩<|lb 1<|an rfl<|ia (i:=0)<|an ⟨rfl,rfl,by decide⟩<|lb 0<|an rfl<|ei (x:=bits .xor .u64 (cF u nB y) (cF u nB z))<|an rfl<|ia (i:=0)<|an ⟨rfl,rfl,by decide⟩<|fun w hb M=>lb 1<|an ⟨⟨rfl,rfl⟩,Nat.le_refl _⟩ fun w M=>an (by omega)<|bk (1,bits .xor .u64 (cF u nB y) (cF u nB z)) ⟨rfl,trivial⟩ (fun M=>⟨M,by omega,(fun h=>by cases h),fun _=>by unfold DU;rw[if_neg h4,if_neg h5,if_neg h6]⟩) (by dsimp only;omega)
theorem one_cell{w:World}{g:Nat}{x:Value}(hs:w.cell? ⟨g,0,none⟩=some x):∀ j uu,[x][j]?=some uu→w.cell? ⟨g,0+j,none⟩=some uu:=fun j u hu=>by
 match j with
 | 0=>
  obtain rfl:x=u:=by simpa using hu
  exact hs
 | j+1=>simp at hu
def nzI(x:Int):Int:=if x=0 then -1 else 0
theorem ab8(x:Int):(!decide (0≤nzI x))=decide (x=0):=by
 unfold nzI;by_cases h:x=0
 ·rw[if_pos h];simp[h]
 ·rw[if_neg h];simp[h]
theorem Rv(w0:World)(sx:Int):Calls Tryz.prog 223 #[.int .u64 sx] w0 (fun(r:Ending) (w':World)=>r=.returned (.bool (!decide (sx=0)))∧aww w0.heap.size w0 w'):=by
 have bJ:=hr1 Tryz.prog Tryz.f223 (fun(r:Ending) (w':World)=>r=.returned (.bool (!decide (sx=0)))∧aww w0.heap.size w0 w') 5 2 rfl;refine en Tryz.func223 rfl Tryz.ntmps223 rfl (vs:=[.int .u64 sx]) rfl fun _ F=>?_
 have M:=Mm.start w0;refine awB fun K1 gU=>ah<|xA (v:=.bool false) F rf rf rf fun _ F=>awC<|gU _ _ ?_
 refine awB fun K2 iy=>ah<|xM F rf rf rf fun _ F=>kz F rf (Xa rfl (F.u rf) rfl) fun _ F=>xA F rf rf rf fun _ F=>awC<|iy _ _ ?_
 refine wp_ret<|bJ _ _ _ _ F rfl ?_;exact⟨rfl,M.below⟩
theorem Rt(w0:World)(sg ck:Nat)(sx:Int)(hs:w0.cell? ⟨sg,0,none⟩=some (.int .u64 sx)):Calls Tryz.prog 266 #[.slice (some ⟨sg,0,none⟩) 1 ck,.func (.func 223) #[] #[]] w0 (fun(r:Ending) (w':World)=>r=.returned (.int .i64 (nzI sx))∧aww w0.heap.size w0 w'):=by
 have hSG:=one_cell hs;have bJ:=hr1 Tryz.prog Tryz.f266 (fun(r:Ending) (w':World)=>r=.returned (.int .i64 (nzI sx))∧aww w0.heap.size w0 w') 19 4 rfl;refine en Tryz.func266 rfl Tryz.ntmps266 rfl (vs:=[.slice (some ⟨sg,0,none⟩) 1 ck,.func (.func 223) #[] #[]]) rfl fun _ F=>?_
 have M:=Mm.start w0;refine awB fun K1 gU=>ah<|xA (v:=.int .i64 0) F rf rf rf fun _ F=>awC<|gU _ _ ?_
 refine awB fun K2 iy=>awB fun K3 nE=>ah<|xM F rf rf rf fun _ F=>kz F rf (fK rfl (F.u rf) Bb) fun _ F=>xM (v:=.int .i64 0) F rf rf rf fun _ F=>awC<|nE _ _ ?_
 refine awD<|?_;refine eH (ι:=Nat) (fun t a w=>Fs a 19 [(0,.slice (some ⟨sg,0,none⟩) 1 ck),(1,.func (.func 223) #[] #[]),(7,.int .i64 1),(8,.int .i64 (t:Int))]∧Mm w0 w [] []∧t≤1∧(t=1→sx=0)) (fun t=>1-t) 0 ⟨F.sub ⟨rfl,rfl,rfl,rfl,trivial⟩,M,awx _,fun h=>by cases h⟩ ?_
 (repeat clear F);(repeat clear M)
 rintro t _ _ ⟨F,M,ht,hz⟩;refine awB fun K4 ox=>ah<|kz F rf (jo rfl (F.u rf) (F.u rf)) fun _ F=>awC<|ox _ _ ?_
 refine awB fun K5 ow=>?_
 refine awE (F.e 9 rfl) (fun hc1=>?_) (fun hc1=>?_)
 ·have hd2:=of_decide_eq_true hc1;refine wp_skip<|ow _ _ ?_;refine awB fun K6 pT=>awD<|awB fun K7 rS=>?_
  have F:=F.eq 8 rfl (congrArg (Value.int .i64) (show((t:Nat):Int)=0 by omega));refine ah<|xM F rf rf rf fun _ F=>xA F rf rf rf fun _ F=>awC<|rS _ _ ?_
  refine awB fun K8 xK=>ah<|xM F rf rf rf fun _ F=>xM F rf rf rf fun _ F=>xM F rf rf rf fun _ F=>
   ke (u:=.pointer (some ⟨sg,0,none⟩)) (on rfl) (bD (i:=0) rfl (F.u rf) (F.u rf) (by omega) Bb kC) rfl F rfl rfl fun _ F=>
   kz F rf (b_ rf (F.u rf) OV rfl ((dH M.below hSG) 0 _ rfl)) fun _ F=>
   kc (on rfl) (Gp rfl (F.u rf) Tryz.func223 (by kernel_rfl) rfl (args:=#[.int .u64 sx]) (by simp[(F.e 15 rfl)])) (Rv _ sx) rfl F rfl M fun _ _ F M=>
   awC<|
   xK _ _ ?_
  refine awE (F.e 16 rfl) (fun hc3=>?_) (fun hc3=>?_)
  ·have V6:=of_decide_eq_false (show decide (sx=0)=false by simpa using hc3);have hk5:(decide (sx=0))=false:=by simpa using hc3
   refine awB fun K9 zf=>ah<|xM F rf rf rf fun _ F=>xA F rf rf rf fun _ F=>awC<|zf _ _ ?_
   refine wp_ret<|bJ _ _ _ _ F rfl ?_;exact⟨dG (by unfold nzI;rw[if_neg (by omega)]),M.below⟩
  ·have hd6:=of_decide_eq_true (show decide (sx=0)=true by simpa using hc3);have hk7:(decide (sx=0))=true:=by simpa using hc3
   refine wp_skip<|pT _ _ ?_;have F:=F.eq 8 rfl (congrArg (Value.int .i64) (show(0:Int)=((t:Nat):Int) by omega))
   refine ah<|
    ke (on rfl) (eX rfl (F.u rf) rfl) rfl F rfl (congrArg (Value.int .i64) (wrap_i64 (by omega))) fun _ F=>
    xM F rf rf rf fun _ F=>
    awC<|?_
   exact⟨t+1,⟨F.sub ⟨rfl,rfl,rfl,rfl,trivial⟩,M,by omega,fun _=>by omega⟩,by show 1-(t+1)<1-t;omega⟩
 ·have hd8:=of_decide_eq_false hc1;refine wp_exit<|iy _ _ ?_;refine awB fun Xy lZ=>ah<|xA (v:=.int .i64 (-1)) F rf rf rf fun _ F=>awC<|lZ _ _ ?_
  refine wp_ret<|bJ _ _ _ _ F rfl ?_;exact⟨dG (by have:=hz (by omega);unfold nzI;rw[if_pos this]),M.below⟩
theorem Ru(w0:World)(sg ck:Nat)(sx:Int)(hs:w0.cell? ⟨sg,0,none⟩=some (.int .u64 sx)):Calls Tryz.prog 222 #[.slice (some ⟨sg,0,none⟩) 1 ck,.func (.func 223) #[] #[]] w0 (fun(r:Ending) (w':World)=>r=.returned (.bool (decide (0≤nzI sx)))∧aww w0.heap.size w0 w'):=by
 have bJ:=hr1 Tryz.prog Tryz.f222 (fun(r:Ending) (w':World)=>r=.returned (.bool (decide (0≤nzI sx)))∧aww w0.heap.size w0 w') 9 4 rfl;refine en Tryz.func222 rfl Tryz.ntmps222 rfl (vs:=[.slice (some ⟨sg,0,none⟩) 1 ck,.func (.func 223) #[] #[]]) rfl fun _ F=>?_
 have M:=Mm.start w0;refine awB fun K1 gU=>ah<|xA (v:=.bool false) F rf rf rf fun _ F=>awC<|gU _ _ ?_
 refine awB fun K2 iy=>ah<|xM F rf rf rf fun _ F=>xM F rf rf rf fun _ F=>xC F M rf rf aiv (args2 (F.u rf) (F.u rf)) (Rt _ sg ck sx (awy M.below hs)) fun _ _ F M=>kz F rf (Ks rfl (F.u rf) rfl) fun _ F=>xA F rf rf rf fun _ F=>awC<|iy _ _ ?_
 refine wp_ret<|bJ _ _ _ _ F rfl ?_;exact⟨rfl,M.below⟩
theorem BN(w0:World)(sg ck:Nat)(sx:Int)(hs:w0.cell? ⟨sg,0,none⟩=some (.int .u64 sx)):Calls Tryz.prog 150 #[.slice (some ⟨sg,0,none⟩) 1 ck] w0 (fun(r:Ending) (w':World)=>r=.returned (.bool (decide (sx=0)))∧aww w0.heap.size w0 w'):=by
 have bJ:=hr1 Tryz.prog Tryz.f150 (fun(r:Ending) (w':World)=>r=.returned (.bool (decide (sx=0)))∧aww w0.heap.size w0 w') 6 2 rfl;refine en Tryz.func150 rfl Tryz.ntmps150 rfl (vs:=[.slice (some ⟨sg,0,none⟩) 1 ck]) rfl fun _ F=>?_
 have M:=Mm.start w0;refine awB fun K1 gU=>ah<|xA (v:=.bool false) F rf rf rf fun _ F=>awC<|gU _ _ ?_
 refine awB fun K2 iy=>ah<|xM F rf rf rf fun _ F=>xC F M rf rf aix (args2 (F.u rf) rfl) (Ru _ sg ck sx (awy M.below hs)) fun _ _ F M=>kz F rf (pN rfl (F.u rf)) fun _ F=>xA F rf rf rf fun _ F=>awC<|iy _ _ ?_
 refine wp_ret<|bJ _ _ _ _ F rfl ?_;exact⟨aH (ab8 sx),M.below⟩
def ez(u:Int)(n:Nat)(conds:List aA)(k:Int):Int:=
 if 0<k∧k≤conds.length then (match conds[(k-1).toNat]? with|some e=>cF u n e|none=>0)
 else if k<0∧0-(conds.length:Int)≤k then notM u (match conds[(0-k-1).toNat]? with|some e=>cF u n e|none=>0)
 else notM u 0
theorem Z1{u:Int}{n:Nat}{conds:List aA}{k:Int}{e:aA}{m:Nat}(h1:0<k)(h2:k≤conds.length)(hm:(m:Int)=k-1)(he:conds[m]?=some e):ez u n conds k=cF u n e:=by
 unfold ez;rw[if_pos ⟨h1,h2⟩,← hm,Int.toNat_natCast,he]
theorem Z2{u:Int}{n:Nat}{conds:List aA}{k:Int}{e:aA}{m:Nat}(h1:k<0)(h2:0-(conds.length:Int)≤k)(hm:(m:Int)=0-k-1)(he:conds[m]?=some e):ez u n conds k=notM u (cF u n e):=by
 unfold ez;rw[if_neg (by omega),if_pos ⟨h1,h2⟩,← hm,Int.toNat_natCast,he]
theorem Z4{u:Int}{n:Nat}{conds:List aA}{k:Int}(h1:¬ (0<k∧k≤conds.length))(h2:¬ (k<0∧0-(conds.length:Int)≤k)):ez u n conds k=notM u 0:=by
 unfold ez;rw[if_neg h1,if_neg h2]
structure fV (w:World) (base tp mb:Nat) (c0 c1 c2 c3 c4 c5 c6 c7 c8 c9 aR aO aN aQ aM aL aP:Value) (u:Int) (act:Int→Int):Prop where
 box:q5 w tp mb c0 c1 c2 c3 c4 c5 c6 c7 c8 c9 aR aO aN aQ aM aL aP u
 map:∃ L,aV w Tryz.prog 3 mb (L.map ival)∧∀ k v,jU L k=some v→bT w base v (act k)
 lo:base≤tp∧base≤mb
section
variable {w w':World} {base tp mb:Nat} {c0 c1 c2 c3 c4 c5 c6 c7 c8 c9 aR aO aN aQ aM aL aP:Value} {u:Int} {act:Int→Int}
theorem fV.keep(h:fV w base tp mb c0 c1 c2 c3 c4 c5 c6 c7 c8 c9 aR aO aN aQ aM aL aP u act)(hb:aww w.heap.size w w'):fV w' base tp mb c0 c1 c2 c3 c4 c5 c6 c7 c8 c9 aR aO aN aQ aM aL aP u act:=by
 obtain⟨h1,⟨L,h2,h3⟩,h4⟩:=h;exact⟨Whole.under hb h1 h1.lt,⟨L,h2.kept (hb.block _ h2.lt),fun k v hk=>(h3 k v hk).keep hb⟩,h4⟩
theorem fV.lt(h:fV w base tp mb c0 c1 c2 c3 c4 c5 c6 c7 c8 c9 aR aO aN aQ aM aL aP u act):base≤w.heap.size:=awF h.lo.1 (Nat.le_of_lt h.box.lt)
theorem bT.turn{v:Value}{x:Int}{D:List (Value×Value)}(h:bT w base v x)(hm:aV w Tryz.prog 3 mb D)(hg:w.grownBy w' (some mb)):bT w' base v x:=by
 obtain⟨g,e,hw,hl⟩:=h;exact⟨g,e,hw.grown hg fun e2=>gM hw hm (awG e2),hl⟩
theorem bT.low{v:Value}{x:Int}{b:Nat}(h:bT w base v x)(hb:b≤base):bT w b v x:=by
 obtain⟨g,e,hw,hl⟩:=h;exact⟨g,e,hw,awF hb hl⟩
theorem H6{w0:World}{L:List (Int×Value)}{k:Int}{v:Value}(hT:q5 w0 tp mb c0 c1 c2 c3 c4 c5 c6 c7 c8 c9 aR aO aN aQ aM aL aP u)(hM:aV w0 Tryz.prog 3 mb (L.map ival))(hL:∀ k v,jU L k=some v→bT w0 base v (act k))(hlo:base≤tp∧base≤mb)(hb:aww w0.heap.size w0 w)
 (PJ:aV w' Tryz.prog 3 mb (((k,v)::gW L k).map ival)) (hg:w.grownBy w' (some mb)) (hv:bT w w0.heap.size v (act k)):bT w' base v (act k)∧fV w' base tp mb c0 c1 c2 c3 c4 c5 c6 c7 c8 c9 aR aO aN aQ aM aL aP u act∧St [mb] w0 w':=by
 have hMw:=hM.kept (hb.block _ hM.lt);have hTw:q5 w tp mb c0 c1 c2 c3 c4 c5 c6 c7 c8 c9 aR aO aN aQ aM aL aP u:=Whole.under hb hT hT.lt;have hs:bT w' base v (act k):=(hv.low (awF hlo.1 (Nat.le_of_lt hT.lt))).turn hMw hg;refine⟨hs,⟨Whole.grown hTw hg fun e=>gM hTw hMw (awG e),⟨_,PJ,fun j x hj=>?_⟩,hlo⟩,gi _ _ _ _ (iD _ _ _ hb) (St.grown hg (awH.2 rfl))⟩;rw[Al] at hj;by_cases e:j=k
 ·rw[if_pos e] at hj;rw[e,← awG hj];exact hs
 ·rw[if_neg e] at hj;exact((hL j x hj).keep hb).turn hMw hg
end
theorem Qb{p q:Prop}[Decidable p][Decidable q](h:(decide p&&decide q)=true):p∧q:=by simpa using h
theorem KU{p q:Prop}[Decidable p][Decidable q](h:(decide p&&decide q)=false):¬ (p∧q):=by simpa using h
def DH(r:aj):Int:=if r.kind=4 then 0 else r.cond
theorem tZ(w0:World)(base tp mb:Nat)(c0 c1 c2 c3 c4 c6 c7 c8 c9 aR aO aN aQ aM aL aP:Value)(iu:Option Addr)(nB iq:Nat)(u:Int)(conds:List aA)(hn:nB≤5)(hE:mG w0 c8 conds)(hcl:conds.length≤1000)(k:Int)(hk:iX k)(hTT:fV w0 base tp mb c0 c1 c2 c3 c4 (.slice iu nB iq) c6 c7 c8 c9 aR aO aN aQ aM aL aP u (ez u nB conds)):Calls Tryz.prog 149 #[.pointer (some ⟨tp,0,none⟩),.int .i64 k] w0 (fun(r:Ending) (w':World)=>∃ v,r=.returned v∧(bT w' base v (ez u nB conds k)∧fV w' base tp mb c0 c1 c2 c3 c4 (.slice iu nB iq) c6 c7 c8 c9 aR aO aN aQ aM aL aP u (ez u nB conds)∧St [mb] w0 w')):=by
 obtain⟨la8,lk8,rfl,hk8,hm8,FZ⟩:=aC.form hE (by decide);obtain⟨hT,⟨L,hM,hL⟩,hlo⟩:=hTT;have TM:∀ j uu,[c0,c1,c2,c3,c4,.slice iu nB iq,c6,c7,.slice la8 conds.length lk8,c9,aR,aO,aN,aQ,aM,aL,aP,.int .i64 1,.int .u64 u,(.map (some mb))][j]?=some uu→w0.cell? ⟨tp,0+j,none⟩=some uu:=fun j u hu=>by rw[Nat.zero_add];exact(Whole.cell hT j).trans (by simpa using hu)
 have hk1:=hk.1;have hk2:=hk.2;have bJ:=hr1 Tryz.prog Tryz.f149 (fun(r:Ending) (w':World)=>∃ v,r=.returned v∧(bT w' base v (ez u nB conds k)∧fV w' base tp mb c0 c1 c2 c3 c4 (.slice iu nB iq) c6 c7 (.slice la8 conds.length lk8) c9 aR aO aN aQ aM aL aP u (ez u nB conds)∧St [mb] w0 w')) 85 4 rfl;refine en Tryz.func149 rfl Tryz.ntmps149 rfl (vs:=[.pointer (some ⟨tp,0,none⟩),.int .i64 k]) rfl fun _ F=>?_
 have M:=Mm.start w0;refine awB fun K1 gU=>ah<|xA (v:=.slice none 0 0) F rf rf rf fun _ F=>awC<|gU _ _ ?_
 refine awB fun K2 iy=>awB fun K3 nE=>ah<|xM F rf rf rf fun _ F=>kz F rf (dL rfl (F.u rf)) fun _ F=>xF 19 F rf rf rf zL rf O0 rf fun _ F=>kz F rf (b_ rf (F.u rf) Fh rfl ((dH M.below TM) 19 _ rfl)) fun _ F=>xM F rf rf rf fun _ F=>
  kz F rf (vh (z:=.slice none 0 0) Fh (by kernel_rfl) (hM.kept (M.below.block _ hM.lt)) rfl (F.u rf) (F.u rf) (by exact hk)) fun _ F=>
  xM F rf rf rf fun _ F=>
  kz F rf (cq rfl (F.u rf) rfl) fun _ F=>
  kz F rf (cq rfl (F.u rf) rfl) fun _ F=>
  xA F rf rf rf fun _ F=>
  xA F rf rf rf fun _ F=>
  awC<|
  nE _ _ ?_
 refine awB fun K4 ox=>ah<|xM F rf rf rf fun _ F=>awC<|ox _ _ ?_
 refine awE (F.e 17 rfl) (fun hc1=>?_) (fun hc1=>?_)
 ·refine awB fun K5 ow=>ah<|xM F rf rf rf fun _ F=>xA F rf rf rf fun _ F=>awC<|ow _ _ ?_
  refine wp_ret<|bJ _ _ _ _ F rfl ?_;obtain⟨v,hv⟩:=Option.isSome_iff_exists.1 hc1;exact⟨_,rfl,(by rw[hv];exact(hL k v hv).keep M.below),(fV.keep ⟨hT,⟨L,hM,hL⟩,hlo⟩ M.below),iD _ _ _ M.below⟩
 ·refine wp_skip<|iy _ _ ?_
  refine awB fun K6 pT=>ah<|xM F rf rf rf fun _ F=>xM F rf rf rf fun _ F=>kz F rf (dL rfl (F.u rf)) fun _ F=>xF 17 F rf rf rf zL rf UC rf fun _ F=>kz F rf (b_ rf (F.u rf) u3 rfl ((dH M.below TM) 17 _ rfl)) fun _ F=>
   kn (f:=fun n=>.slice (some ⟨n,0,none⟩) 1 1) (on rfl) (Aw rfl (F.u rf) (F.u rf) Bb JX TS rfl (by decide)) rfl F rfl M fun g2 _ _ F M=>
   kx (on rfl) (fL rfl Tryz.func175 aaA rfl (args2 (F.u rf) (F.u rf))) (Ai _ tp mb _ _ _ _ _ _ _ _ _ _ _ _ _ _ _ _ iu nB iq u (Whole.under M.below hT hT.lt) g2 _ (M.b 0 rfl)) rfl F rfl M fun sv _ _ hR hB F _=>?_
  obtain⟨gs3,rfl,aaW,aaN⟩:=hR;have M:=M.newAt hB aaW aaN;clear aaW aaN;refine xA F rf rf rf fun _ F=>awC<|pT _ _ ?_
  refine awB fun K7 rS=>awD<|awB fun K8 xK=>ah<|xM F rf rf rf fun _ F=>kz F rf (Kr rfl (F.u rf) rfl) fun _ F=>xM F rf rf rf fun _ F=>FW (x:=.int .i64 k) rfl rfl (F.g 29 rfl) (bt _) (fun ge=>(cW rfl (F.u rf))) rfl F rfl rfl fun _ F=>FW (x:=.pointer (some ⟨tp,0,none⟩)) rfl rfl (F.g 29 rfl) (bt _) (fun ge=>(cW rfl (F.u rf))) rfl F rfl rfl fun _ F=>FW (x:=.pointer (some ⟨tp,0,none⟩)) rfl rfl (F.g 29 rfl) (bt _) (fun ge=>(dL rfl ((F.g 31 rfl).on ge).ev)) rfl F rfl rfl fun _ F=>FW (x:=.pointer (some ⟨tp,0,none⟩)) rfl rfl (F.g 29 rfl) (bt _) (fun ge=>(kV rfl ((F.g 32 rfl).on ge).ev zL rfl Bh)) rfl F rfl rfl fun _ F=>FW (x:=.pointer (some ⟨tp,8,none⟩)) rfl rfl (F.g 29 rfl) (bt _) (fun ge=>(kV rfl ((F.g 33 rfl).on ge).ev OW rfl UD)) rfl F rfl rfl fun _ F=>FW (x:=.slice la8 conds.length lk8) rfl rfl (F.g 29 rfl) (bt _) (fun ge=>(b_ rfl ((F.g 34 rfl).on ge).ev Uo rfl ((dH M.below TM) 8 _ rfl))) rfl F rfl rfl fun _ F=>FW (x:=.int .i64 (conds.length:Int)) rfl rfl (F.g 29 rfl) (bt _) (fun ge=>(fK rfl ((F.g 35 rfl).on ge).ev Uo)) rfl F rfl rfl fun _ F=>FW (x:=.bool (decide (k≤(conds.length:Int)))) rfl rfl (F.g 29 rfl) (bt _) (fun ge=>(abf rfl ((F.g 30 rfl).on ge).ev ((F.g 36 rfl).on ge).ev)) rfl F rfl rfl fun _ F=>kz F rf (rq (tT rfl (F.u rf) (F.u rf) rfl) (pkF _ _)) fun _ F=>xA F rf rf rf fun _ F=>awC<|xK _ _ ?_
  refine awE (F.e 26 rfl) (fun R8=>?_) (fun R8=>?_)
  ·have hP:=Qb R8;obtain⟨m,hm⟩:∃ m:Nat,(m:Int)=k-1:=⟨(k-1).toNat,by omega⟩;have acM:m<conds.length:=by omega
   obtain⟨y,hy⟩:∃ y,conds[m]?=some y:=⟨_,awA acM⟩;obtain⟨b8,ob8,cs8,rfl,acS,acH,acE⟩:=FZ _ y hy
   refine ah<|xM F rf rf rf fun _ F=>xM F rf rf rf fun _ F=>kz F rf (dL rfl (F.u rf)) fun _ F=>xF 0 F rf rf rf zL rf Bh rf fun _ F=>xF 8 F rf rf rf OW rf UD rf fun _ F=>kz F rf (b_ rf (F.u rf) Uo rfl ((dH M.below TM) 8 _ rfl)) fun _ F=>xM F rf rf rf fun _ F=>
    ke (on rfl) (Kp rfl (F.u rf) rfl) rfl F rfl (congrArg (Value.int .i64) ((wrap_i64 (by omega)).trans (by omega))) fun _ F=>
    kz F rf (bD (i:=m) rfl (F.u rf) (F.u rf) (by omega) Uo rN) fun _ F=>
    kz F rf (gV cs8 rfl (F.u rf) OU rfl (by rw[acH];exact rN) (dH M.below acE)) fun _ F=>
    kx (on rfl) (fL rfl Tryz.func173 aaB rfl (args2 (F.u rf) (F.u rf))) (wG y _ _ tp mb _ _ _ _ _ _ _ _ _ _ _ _ _ _ _ _ iu nB iq u hn (Whole.under M.below hT hT.lt) (bB.keep M.below acS)) rfl F rfl M fun sv _ _ hR hB F _=>?_
   obtain⟨gs5,rfl,aaV,aaM⟩:=hR;have M:=M.newAt hB aaV aaM;clear aaV aaM;refine xA F rf rf rf fun _ F=>awC<|rS _ _ ?_
   refine awB fun K9 zf=>ah<|xM F rf rf rf fun _ F=>kz F rf (dL rfl (F.u rf)) fun _ F=>xF 19 F rf rf rf zL rf O0 rf fun _ F=>kz F rf (b_ rf (F.u rf) Fh rfl ((dH M.below TM) 19 _ rfl)) fun _ F=>xM F rf rf rf fun _ F=>xM F rf rf rf fun _ F=>kmu rfl rfl rfl (F.u rf) (F.u rf) (F.u rf) (aV.UZ Fh (hM.kept (M.below.block _ hM.lt)) hk _) fun w9 hP=>?_
   obtain⟨PJ,hg9⟩:=hP;refine awC<|zf _ _ ?_;refine awB fun Xy lZ=>ah<|xM F rf rf rf fun _ F=>xA F rf rf rf fun _ F=>awC<|lZ _ _ ?_
   refine wp_ret<|bJ _ _ _ _ F rfl ?_;exact⟨_,rfl,H6 hT hM hL hlo M.below PJ hg9 ⟨gs5,rfl,(by rw[Z1 hP.1 hP.2 hm hy];exact M.b 0 rfl),M.lo _ (awz (i:=0) rfl)⟩⟩
  ·have hP:=KU R8
   refine awB fun K11 qH=>ah<|xM F rf rf rf fun _ F=>kz F rf (jo rfl (F.u rf) rfl) fun _ F=>xM F rf rf rf fun _ F=>FW (x:=.int .i64 k) rfl rfl (F.g 53 rfl) (bt _) (fun ge=>(cW rfl (F.u rf))) rfl F rfl rfl fun _ F=>FW (x:=.pointer (some ⟨tp,0,none⟩)) rfl rfl (F.g 53 rfl) (bt _) (fun ge=>(cW rfl (F.u rf))) rfl F rfl rfl fun _ F=>FW (x:=.pointer (some ⟨tp,0,none⟩)) rfl rfl (F.g 53 rfl) (bt _) (fun ge=>(dL rfl ((F.g 55 rfl).on ge).ev)) rfl F rfl rfl fun _ F=>FW (x:=.pointer (some ⟨tp,0,none⟩)) rfl rfl (F.g 53 rfl) (bt _) (fun ge=>(kV rfl ((F.g 56 rfl).on ge).ev zL rfl Bh)) rfl F rfl rfl fun _ F=>FW (x:=.pointer (some ⟨tp,8,none⟩)) rfl rfl (F.g 53 rfl) (bt _) (fun ge=>(kV rfl ((F.g 57 rfl).on ge).ev OW rfl UD)) rfl F rfl rfl fun _ F=>FW (x:=.slice la8 conds.length lk8) rfl rfl (F.g 53 rfl) (bt _) (fun ge=>(b_ rfl ((F.g 58 rfl).on ge).ev Uo rfl ((dH M.below TM) 8 _ rfl))) rfl F rfl rfl fun _ F=>FW (x:=.int .i64 (conds.length:Int)) rfl rfl (F.g 53 rfl) (bt _) (fun ge=>(fK rfl ((F.g 59 rfl).on ge).ev Uo)) rfl F rfl rfl fun _ F=>
    FW (x:=.int .i64 (0-(conds.length:Int))) rfl rfl (F.g 53 rfl) (bt _) (fun ge=>(rq (W_ rfl ((F.g 60 rfl).on ge).ev) (congrArg (Value.int .i64) (wrap_i64 (by omega))))) rfl F rfl rfl fun _ F=>
    FW (x:=.bool (decide (0-(conds.length:Int)≤k))) rfl rfl (F.g 53 rfl) (bt _) (fun ge=>(Ks rfl ((F.g 54 rfl).on ge).ev ((F.g 61 rfl).on ge).ev)) rfl F rfl rfl fun _ F=>
    kz F rf (rq (tT rfl (F.u rf) (F.u rf) rfl) (pkF _ _)) fun _ F=>
    xA F rf rf rf fun _ F=>
    awC<|
    qH _ _ ?_
   refine awE (F.e 50 rfl) (fun rQ=>?_) (fun rQ=>?_)
   ·have hN:=Qb rQ;obtain⟨m,hm⟩:∃ m:Nat,(m:Int)=0-k-1:=⟨(0-k-1).toNat,by omega⟩;have acM:m<conds.length:=by omega
    obtain⟨y,hy⟩:∃ y,conds[m]?=some y:=⟨_,awA acM⟩;obtain⟨b8,ob8,cs8,rfl,acS,acH,acE⟩:=FZ _ y hy
    refine ah<|xM F rf rf rf fun _ F=>xM F rf rf rf fun _ F=>xM F rf rf rf fun _ F=>kz F rf (dL rfl (F.u rf)) fun _ F=>xF 0 F rf rf rf zL rf Bh rf fun _ F=>xF 8 F rf rf rf OW rf UD rf fun _ F=>kz F rf (b_ rf (F.u rf) Uo rfl ((dH M.below TM) 8 _ rfl)) fun _ F=>xM F rf rf rf fun _ F=>
     ke (on rfl) (W_ rfl (F.u rf)) rfl F rfl (congrArg (Value.int .i64) (wrap_i64 (by omega))) fun _ F=>
     ke (on rfl) (Kp rfl (F.u rf) rfl) rfl F rfl (congrArg (Value.int .i64) ((wrap_i64 (by omega)).trans (by omega))) fun _ F=>
     kz F rf (bD (i:=m) rfl (F.u rf) (F.u rf) (by omega) Uo rN) fun _ F=>
     kz F rf (gV cs8 rfl (F.u rf) OU rfl (by rw[acH];exact rN) (dH M.below acE)) fun _ F=>
     kx (on rfl) (fL rfl Tryz.func173 aaB rfl (args2 (F.u rf) (F.u rf))) (wG y _ _ tp mb _ _ _ _ _ _ _ _ _ _ _ _ _ _ _ _ iu nB iq u hn (Whole.under M.below hT hT.lt) (bB.keep M.below acS)) rfl F rfl M fun sv _ _ hR hB F _=>?_
    obtain⟨gs7,rfl,aaU,aaL⟩:=hR;have M:=M.newAt hB aaU aaL;clear aaU aaL;refine kx (on rfl) (fL rfl Tryz.func175 aaA rfl (args2 (F.u rf) (F.u rf))) (Ai _ tp mb _ _ _ _ _ _ _ _ _ _ _ _ _ _ _ _ iu nB iq u (Whole.under M.below hT hT.lt) gs7 _ (M.b 0 rfl)) rfl F rfl M fun sv _ _ hR hB F _=>?_
    obtain⟨gs8,rfl,aaT,aaK⟩:=hR;have M:=M.newAt hB aaT aaK;clear aaT aaK;refine xA F rf rf rf fun _ F=>awC<|rS _ _ ?_
    refine awB fun K12 pR=>ah<|xM F rf rf rf fun _ F=>kz F rf (dL rfl (F.u rf)) fun _ F=>xF 19 F rf rf rf zL rf O0 rf fun _ F=>kz F rf (b_ rf (F.u rf) Fh rfl ((dH M.below TM) 19 _ rfl)) fun _ F=>xM F rf rf rf fun _ F=>xM F rf rf rf fun _ F=>kmu rfl rfl rfl (F.u rf) (F.u rf) (F.u rf) (aV.UZ Fh (hM.kept (M.below.block _ hM.lt)) hk _) fun w9 hP=>?_
    obtain⟨PJ,hg9⟩:=hP;refine awC<|pR _ _ ?_;refine awB fun K13 pQ=>ah<|xM F rf rf rf fun _ F=>xA F rf rf rf fun _ F=>awC<|pQ _ _ ?_
    refine wp_ret<|bJ _ _ _ _ F rfl ?_;exact⟨_,rfl,H6 hT hM hL hlo M.below PJ hg9 ⟨gs8,rfl,(by rw[Z2 hN.1 hN.2 hm hy];exact M.b 0 rfl),M.lo _ (awz (i:=0) rfl)⟩⟩
   ·have hN:=KU rQ;refine wp_skip<|rS _ _ ?_;refine awB fun K14 tO=>ah<|xM F rf rf rf fun _ F=>kz F rf (dL rfl (F.u rf)) fun _ F=>xF 19 F rf rf rf zL rf O0 rf fun _ F=>kz F rf (b_ rf (F.u rf) Fh rfl ((dH M.below TM) 19 _ rfl)) fun _ F=>xM F rf rf rf fun _ F=>xM F rf rf rf fun _ F=>kmu rfl rfl rfl (F.u rf) (F.u rf) (F.u rf) (aV.UZ Fh (hM.kept (M.below.block _ hM.lt)) hk _) fun w9 hP=>?_
    obtain⟨PJ,hg9⟩:=hP;refine awC<|tO _ _ ?_;refine awB fun K15 rT=>ah<|xM F rf rf rf fun _ F=>xA F rf rf rf fun _ F=>awC<|rT _ _ ?_
    refine wp_ret<|bJ _ _ _ _ F rfl ?_;exact⟨_,rfl,H6 hT hM hL hlo M.below PJ hg9 ⟨gs3,rfl,(by rw[Z4 hP hN];exact M.b 0 rfl),M.lo _ (awz (i:=0) rfl)⟩⟩
theorem Sh(w0:World)(base tp mb:Nat)(c0 c1 c2 c3 c4 c6 c7 c8 c9 aR aO aN aQ aM aL aP:Value)(iu:Option Addr)(nB iq:Nat)(u:Int)(conds:List aA)(hn:nB≤5)(hE:mG w0 c8 conds)(hcl:conds.length≤1000)(q:aj)(hk:iX q.cond)(hTT:fV w0 base tp mb c0 c1 c2 c3 c4 (.slice iu nB iq) c6 c7 c8 c9 aR aO aN aQ aM aL aP u (ez u nB conds)):Calls Tryz.prog 151 #[.pointer (some ⟨tp,0,none⟩),.agg #[.int .i64 q.kind,.int .u64 q.src.a,.int .u64 q.src.b,.int .u64 q.src.c,.int .u64 q.src.d,.int .u64 q.tgt.a,.int .u64 q.tgt.b,.int .u64 q.tgt.c,.int .u64 q.tgt.d,.bool q.self,.int .i64 q.cls,.int .u32 q.perms,.int .i64 q.cond]] w0 (fun(r:Ending) (w':World)=>∃ v,r=.returned v∧(bT w' base v (ez u nB conds (DH q))∧fV w' base tp mb c0 c1 c2 c3 c4 (.slice iu nB iq) c6 c7 c8 c9 aR aO aN aQ aM aL aP u (ez u nB conds)∧St [mb] w0 w')):=by
 have bJ:=hr1 Tryz.prog Tryz.f151 (fun(r:Ending) (w':World)=>∃ v,r=.returned v∧(bT w' base v (ez u nB conds (DH q))∧fV w' base tp mb c0 c1 c2 c3 c4 (.slice iu nB iq) c6 c7 c8 c9 aR aO aN aQ aM aL aP u (ez u nB conds)∧St [mb] w0 w')) 14 4 rfl;refine en Tryz.func151 rfl Tryz.ntmps151 rfl (vs:=[.pointer (some ⟨tp,0,none⟩),.agg #[.int .i64 q.kind,.int .u64 q.src.a,.int .u64 q.src.b,.int .u64 q.src.c,.int .u64 q.src.d,.int .u64 q.tgt.a,.int .u64 q.tgt.b,.int .u64 q.tgt.c,.int .u64 q.tgt.d,.bool q.self,.int .i64 q.cls,.int .u32 q.perms,.int .i64 q.cond]]) rfl fun _ F=>?_
 have M:=Mm.start w0;refine awB fun K1 gU=>ah<|Ig (on rfl) rfl (F.u rf) rfl F rfl M fun g1 _ _ F M=>xA (v:=.slice none 0 0) F rf rf rf fun _ F=>awC<|gU _ _ ?_
 refine awB fun K2 iy=>awB fun K3 nE=>ah<|xF 0 F rf rf rf X7 rf UC rf fun _ F=>xL F (M.b 0 rfl) rf rf rf u3 rf rf fun _ F=>kz F rf (PX rfl (F.u rf) rfl) fun _ F=>awC<|nE _ _ ?_
 refine awE (F.e 7 rfl) (fun hc2=>?_) (fun hc2=>?_)
 ·have hd3:=of_decide_eq_true hc2;refine awB fun K4 ox=>ah<|xM F rf rf rf fun _ F=>kt (on rfl) (fL rfl Tryz.func149 Vh rfl (args2 (F.u rf) rfl)) (tZ _ base tp mb _ _ _ _ _ _ _ _ _ _ _ _ _ _ _ _ iu nB iq u conds hn (hE.keep M.below) hcl 0 ⟨by decide,by decide⟩ (hTT.keep M.below)) rfl F rfl fun v9 _ w9 hR F=>?_
  refine xA F rf rf rf fun _ F=>awC<|ox _ _ ?_
  refine wp_ret<|bJ _ _ _ _ F rfl ?_;exact⟨_,rfl,(by unfold DH;rw[if_pos (by omega)];exact hR.1),hR.2.1,gi _ _ _ _ (iD _ _ _ M.below) hR.2.2⟩
 ·have V6:=of_decide_eq_false hc2;refine wp_skip<|iy _ _ ?_;refine awB fun K5 ow=>ah<|xM F rf rf rf fun _ F=>xF 12 F rf rf rf X7 rf UC rf fun _ F=>xL F (M.b 0 rfl) rf rf rf u3 rf rf fun _ F=>kt (on rfl) (fL rfl Tryz.func149 Vh rfl (args2 (F.u rf) (F.u rf))) (tZ _ base tp mb _ _ _ _ _ _ _ _ _ _ _ _ _ _ _ _ iu nB iq u conds hn (hE.keep M.below) hcl q.cond hk (hTT.keep M.below)) rfl F rfl fun v9 _ w9 hR F=>?_
  refine xA F rf rf rf fun _ F=>awC<|ow _ _ ?_
  refine wp_ret<|bJ _ _ _ _ F rfl ?_;exact⟨_,rfl,(by unfold DH;rw[if_neg (by omega)];exact hR.1),hR.2.1,gi _ _ _ _ (iD _ _ _ M.below) hR.2.2⟩
end Go.Proofs.YtdcofoaihmongaaGreat
namespace Go.Proofs.YtdcofoaihmongaaGreat
open Go Go.Proofs Go.RowKit Go.Shelf
variable {P:Program} {ρ:Go.Shelf.Ren}
theorem NX(L:SlLaysE0.n41 P ρ)(size:Nat)(z23:∀ w,(Go.sizeOf (ρ.t 23)).run P w=.ok size w)(a:Addr)(c:Nat)(w:World):
 Calls P (ρ.f 41) #[.slice (some a) 0 c] w fun e w'=>∃ v',e=.returned v'∧w'.ownsRow w.heap.size (ρ.t 23) size v' 0 []∧v'≠.slice none 0 0∧aww w.heap.size w w':=by
 have mixed:=L.mixed;have t4:=L.t4;have a4:=L.a4;have z4:=L.z4;have v4:=L.v4;have t22:=L.t22;have a22:=L.a22;have z22:=L.z22;have v22:=L.v22;have q22:∀ (w:World) (a:Option Addr) (n c n' c':Nat),(binOp .eql (ρ.t 22) (.slice a n c) (.slice none n' c')).run P w=.ok (.bool a.isNone) w:=fun w a n c n' c'=>Lib.run_eql_slice_nil w _ _ a n c n' c' L.t22
 have u22:∀ w,Sem.run P (underlying (ρ.t 22)) w=.ok (TypeDesc.slice (ρ.t 23)) w:=run_underlying t22;obtain⟨_,_,FG⟩:=L.f41
 go_enter FG,SlBodyN.n41_ntmps ρ
 go_wp2
 go_ret
 refine⟨_,rfl,?_,?_,((Below.refl _ w).alloc (Nat.le_refl _) _)⟩
 ·exact⟨by simp,.inr ⟨w.heap.size,0,#[],rfl,Nat.le_refl _,Whole.new w _ #[],Nat.le_refl _,by simp[maxLen],by simp,by simp⟩⟩
 ·intro h;cases h
theorem dM(L:SlLaysE0.n41 P ρ)(size bytes:Nat)(hi:iw (P.info? (ρ.t 23)) size bytes=true)(hsz:1≤size)(z23:∀ w,(Go.sizeOf (ρ.t 23)).run P w=.ok size w)(w:World)(v:Value)(n:Nat)(cs:List Value)(h:SliceAt w v size n cs)(hbig:n*bytes≤140737488355328):
 Calls P (ρ.f 41) #[v] w fun e w'=>∃ v',e=.returned v'∧w'.ownsRow w.heap.size (ρ.t 23) size v' n cs∧(v=.slice none 0 0↔v'=.slice none 0 0)∧aww w.heap.size w w':=by
 obtain⟨i0,z,hi0,hz0,hz1,hz2,hzs⟩:=kG hi;rcases h.2.2.2 with⟨rfl,rfl⟩|⟨a,c,rfl,hac,hc⟩
 ·have hl:=h.1;rw[Nat.zero_mul] at hl;have:cs=[]:=List.eq_nil_of_length_eq_zero hl;subst this;refine(AnyE.slices_Clone_nil L 0 0 w).mono ?_;rintro e w' ⟨rfl,rfl⟩;exact⟨_,rfl,World.ownsRow_nil _ _ _ _,Iff.rfl,Below.refl _ _⟩
 ·have hn:¬ Value.slice (some a) n c=.slice none 0 0:=by intro h;cases h
  cases cs with
  | nil=>
   have hl:=h.1
   have:n=0:=by
    rcases Nat.eq_zero_or_pos n with h0|h0
    ·exact h0
    ·have:=Nat.mul_le_mul h0 hsz;simp at hl;omega
   subst this;refine(NX L size z23 a c w).mono ?_;rintro e w' ⟨v',rfl,ho,hv,hb⟩;exact⟨v',rfl,ho,iff_of_false hn hv,hb⟩
  | cons b0 bs=>
   obtain⟨b,off,rfl⟩:=Eb (hc 0 _ (by simp;rfl));refine(AnyE.slices_Clone L i0 z size bytes hi0 hz0 hz1 hz2 hzs hsz z23 b off n c (b0::bs) w h.1 h.2.1 hbig (fun j u hu=>by have:=hc j u hu;rwa [Addr.add_mid] at this) h.2.2.1).mono ?_;rintro e w' ⟨v',rfl,ho,hv,hb⟩;exact⟨v',rfl,ho,iff_of_false hn hv,hb⟩
def Hl:Go.Shelf.Ren:=⟨fun|41=>155|n=>n,fun|22=>28|23=>9|4=>4|n=>n,fun|n=>n⟩
theorem Ho:Go.Proofs.SlLaysE0.n41 Tryz.prog Hl:={
 mixed:=by kernel_rfl
 f41:=⟨Tryz.f155.name,by decide,Tryz.func155.trans (congrArg some (by kernel_rfl))⟩
 t4:=Tryz.underlying4
 a4:=Tryz.isAgg4
 z4:=Tryz.sizeOf4
 v4:=Tryz.zeroValue4
 t22:=Tryz.underlying28
 a22:=Tryz.isAgg28
 z22:=Tryz.sizeOf28
 v22:=Tryz.zeroValue28 }
def Hf:Go.Shelf.Ren:=⟨fun|41=>157|n=>n,fun|22=>24|23=>184|4=>4|n=>n,fun|n=>n⟩
theorem Hg:Go.Proofs.SlLaysE0.n41 Tryz.prog Hf:={
 mixed:=by kernel_rfl
 f41:=⟨Tryz.f157.name,by decide,Tryz.func157.trans (congrArg some (by kernel_rfl))⟩
 t4:=Tryz.underlying4
 a4:=Tryz.isAgg4
 z4:=Tryz.sizeOf4
 v4:=Tryz.zeroValue4
 t22:=Tryz.underlying24
 a22:=Tryz.isAgg24
 z22:=Tryz.sizeOf24
 v22:=Tryz.zeroValue24 }
def G9:Go.Shelf.Ren:=⟨fun|41=>158|n=>n,fun|22=>25|23=>188|4=>4|n=>n,fun|n=>n⟩
theorem G_:Go.Proofs.SlLaysE0.n41 Tryz.prog G9:={
 mixed:=by kernel_rfl
 f41:=⟨Tryz.f158.name,by decide,Tryz.func158.trans (congrArg some (by kernel_rfl))⟩
 t4:=Tryz.underlying4
 a4:=Tryz.isAgg4
 z4:=Tryz.sizeOf4
 v4:=Tryz.zeroValue4
 t22:=Tryz.underlying25
 a22:=Tryz.isAgg25
 z22:=Tryz.sizeOf25
 v22:=Tryz.zeroValue25 }
def G6:Go.Shelf.Ren:=⟨fun|41=>159|n=>n,fun|22=>26|23=>192|4=>4|n=>n,fun|n=>n⟩
theorem G7:Go.Proofs.SlLaysE0.n41 Tryz.prog G6:={
 mixed:=by kernel_rfl
 f41:=⟨Tryz.f159.name,by decide,Tryz.func159.trans (congrArg some (by kernel_rfl))⟩
 t4:=Tryz.underlying4
 a4:=Tryz.isAgg4
 z4:=Tryz.sizeOf4
 v4:=Tryz.zeroValue4
 t22:=Tryz.underlying26
 a22:=Tryz.isAgg26
 z22:=Tryz.sizeOf26
 v22:=Tryz.zeroValue26 }
def G3:Go.Shelf.Ren:=⟨fun|41=>160|n=>n,fun|22=>27|23=>197|4=>4|n=>n,fun|n=>n⟩
theorem G4:Go.Proofs.SlLaysE0.n41 Tryz.prog G3:={
 mixed:=by kernel_rfl
 f41:=⟨Tryz.f160.name,by decide,Tryz.func160.trans (congrArg some (by kernel_rfl))⟩
 t4:=Tryz.underlying4
 a4:=Tryz.isAgg4
 z4:=Tryz.sizeOf4
 v4:=Tryz.zeroValue4
 t22:=Tryz.underlying27
 a22:=Tryz.isAgg27
 z22:=Tryz.sizeOf27
 v22:=Tryz.zeroValue27 }
def G0:Go.Shelf.Ren:=⟨fun|41=>161|n=>n,fun|22=>30|23=>56|4=>4|n=>n,fun|n=>n⟩
theorem G1:Go.Proofs.SlLaysE0.n41 Tryz.prog G0:={
 mixed:=by kernel_rfl
 f41:=⟨Tryz.f161.name,by decide,Tryz.func161.trans (congrArg some (by kernel_rfl))⟩
 t4:=Tryz.underlying4
 a4:=Tryz.isAgg4
 z4:=Tryz.sizeOf4
 v4:=Tryz.zeroValue4
 t22:=Tryz.underlying30
 a22:=Tryz.isAgg30
 z22:=Tryz.sizeOf30
 v22:=Tryz.zeroValue30 }
def GX:Go.Shelf.Ren:=⟨fun|41=>162|n=>n,fun|22=>31|23=>84|4=>4|n=>n,fun|n=>n⟩
theorem GY:Go.Proofs.SlLaysE0.n41 Tryz.prog GX:={
 mixed:=by kernel_rfl
 f41:=⟨Tryz.f162.name,by decide,Tryz.func162.trans (congrArg some (by kernel_rfl))⟩
 t4:=Tryz.underlying4
 a4:=Tryz.isAgg4
 z4:=Tryz.sizeOf4
 v4:=Tryz.zeroValue4
 t22:=Tryz.underlying31
 a22:=Tryz.isAgg31
 z22:=Tryz.sizeOf31
 v22:=Tryz.zeroValue31 }
def GU:Go.Shelf.Ren:=⟨fun|41=>163|n=>n,fun|22=>32|23=>203|4=>4|n=>n,fun|n=>n⟩
theorem GV:Go.Proofs.SlLaysE0.n41 Tryz.prog GU:={
 mixed:=by kernel_rfl
 f41:=⟨Tryz.f163.name,by decide,Tryz.func163.trans (congrArg some (by kernel_rfl))⟩
 t4:=Tryz.underlying4
 a4:=Tryz.isAgg4
 z4:=Tryz.sizeOf4
 v4:=Tryz.zeroValue4
 t22:=Tryz.underlying32
 a22:=Tryz.isAgg32
 z22:=Tryz.sizeOf32
 v22:=Tryz.zeroValue32 }
def GQ:Go.Shelf.Ren:=⟨fun|41=>164|n=>n,fun|22=>33|23=>205|4=>4|n=>n,fun|n=>n⟩
theorem GR:Go.Proofs.SlLaysE0.n41 Tryz.prog GQ:={
 mixed:=by kernel_rfl
 f41:=⟨Tryz.f164.name,by decide,Tryz.func164.trans (congrArg some (by kernel_rfl))⟩
 t4:=Tryz.underlying4
 a4:=Tryz.isAgg4
 z4:=Tryz.sizeOf4
 v4:=Tryz.zeroValue4
 t22:=Tryz.underlying33
 a22:=Tryz.isAgg33
 z22:=Tryz.sizeOf33
 v22:=Tryz.zeroValue33 }
def GK:Go.Shelf.Ren:=⟨fun|41=>165|n=>n,fun|22=>35|23=>125|4=>4|n=>n,fun|n=>n⟩
theorem GL:Go.Proofs.SlLaysE0.n41 Tryz.prog GK:={
 mixed:=by kernel_rfl
 f41:=⟨Tryz.f165.name,by decide,Tryz.func165.trans (congrArg some (by kernel_rfl))⟩
 t4:=Tryz.underlying4
 a4:=Tryz.isAgg4
 z4:=Tryz.sizeOf4
 v4:=Tryz.zeroValue4
 t22:=Tryz.underlying35
 a22:=Tryz.isAgg35
 z22:=Tryz.sizeOf35
 v22:=Tryz.zeroValue35 }
def GH:Go.Shelf.Ren:=⟨fun|41=>166|n=>n,fun|22=>36|23=>127|4=>4|n=>n,fun|n=>n⟩
theorem GI:Go.Proofs.SlLaysE0.n41 Tryz.prog GH:={
 mixed:=by kernel_rfl
 f41:=⟨Tryz.f166.name,by decide,Tryz.func166.trans (congrArg some (by kernel_rfl))⟩
 t4:=Tryz.underlying4
 a4:=Tryz.isAgg4
 z4:=Tryz.sizeOf4
 v4:=Tryz.zeroValue4
 t22:=Tryz.underlying36
 a22:=Tryz.isAgg36
 z22:=Tryz.sizeOf36
 v22:=Tryz.zeroValue36 }
def GA:Go.Shelf.Ren:=⟨fun|41=>167|n=>n,fun|22=>37|23=>129|4=>4|n=>n,fun|n=>n⟩
theorem GD:Go.Proofs.SlLaysE0.n41 Tryz.prog GA:={
 mixed:=by kernel_rfl
 f41:=⟨Tryz.f167.name,by decide,Tryz.func167.trans (congrArg some (by kernel_rfl))⟩
 t4:=Tryz.underlying4
 a4:=Tryz.isAgg4
 z4:=Tryz.sizeOf4
 v4:=Tryz.zeroValue4
 t22:=Tryz.underlying37
 a22:=Tryz.isAgg37
 z22:=Tryz.sizeOf37
 v22:=Tryz.zeroValue37 }
def Gx:Go.Shelf.Ren:=⟨fun|41=>225|n=>n,fun|22=>139|23=>52|4=>4|n=>n,fun|n=>n⟩
theorem Gy:Go.Proofs.SlLaysE0.n41 Tryz.prog Gx:={
 mixed:=by kernel_rfl
 f41:=⟨Tryz.f225.name,by decide,Tryz.func225.trans (congrArg some (by kernel_rfl))⟩
 t4:=Tryz.underlying4
 a4:=Tryz.isAgg4
 z4:=Tryz.sizeOf4
 v4:=Tryz.zeroValue4
 t22:=Tryz.underlying139
 a22:=Tryz.isAgg139
 z22:=Tryz.sizeOf139
 v22:=Tryz.zeroValue139 }
theorem jq(w:World)(v:Value)(n:Nat)(cs:List Value)(h:SliceAt w v 1 n cs)(hbig:n≤100000000):Calls Tryz.prog 155 #[v] w fun r w'=>∃ v',r=.returned v'∧w'.ownsRow w.heap.size 9 1 v' n cs∧(v=.slice none 0 0↔v'=.slice none 0 0)∧aww w.heap.size w w':=
 dM Ho 1 16 (by kernel_rfl) (by decide) (fun w=>Tryz.sizeOf9 w) w v n cs h (awF (awI _ hbig) (by decide))
theorem Hh(w:World)(v:Value)(n:Nat)(cs:List Value)(h:SliceAt w v 5 n cs)(hbig:n≤100000000):Calls Tryz.prog 157 #[v] w fun r w'=>∃ v',r=.returned v'∧w'.ownsRow w.heap.size 184 5 v' n cs∧(v=.slice none 0 0↔v'=.slice none 0 0)∧aww w.heap.size w w':=
 dM Hg 5 48 (by kernel_rfl) (by decide) (fun w=>Tryz.sizeOf184 w) w v n cs h (awF (awI _ hbig) (by decide))
theorem He(w:World)(v:Value)(n:Nat)(cs:List Value)(h:SliceAt w v 9 n cs)(hbig:n≤100000000):Calls Tryz.prog 158 #[v] w fun r w'=>∃ v',r=.returned v'∧w'.ownsRow w.heap.size 188 9 v' n cs∧(v=.slice none 0 0↔v'=.slice none 0 0)∧aww w.heap.size w w':=
 dM G_ 9 80 (by kernel_rfl) (by decide) (fun w=>Tryz.sizeOf188 w) w v n cs h (awF (awI _ hbig) (by decide))
theorem G8(w:World)(v:Value)(n:Nat)(cs:List Value)(h:SliceAt w v 11 n cs)(hbig:n≤100000000):Calls Tryz.prog 159 #[v] w fun r w'=>∃ v',r=.returned v'∧w'.ownsRow w.heap.size 192 11 v' n cs∧(v=.slice none 0 0↔v'=.slice none 0 0)∧aww w.heap.size w w':=
 dM G7 11 96 (by kernel_rfl) (by decide) (fun w=>Tryz.sizeOf192 w) w v n cs h (awF (awI _ hbig) (by decide))
theorem G5(w:World)(v:Value)(n:Nat)(cs:List Value)(h:SliceAt w v 2 n cs)(hbig:n≤100000000):Calls Tryz.prog 160 #[v] w fun r w'=>∃ v',r=.returned v'∧w'.ownsRow w.heap.size 197 2 v' n cs∧(v=.slice none 0 0↔v'=.slice none 0 0)∧aww w.heap.size w w':=
 dM G4 2 24 (by kernel_rfl) (by decide) (fun w=>Tryz.sizeOf197 w) w v n cs h (awF (awI _ hbig) (by decide))
theorem G2(w:World)(v:Value)(n:Nat)(cs:List Value)(h:SliceAt w v 13 n cs)(hbig:n≤100000000):Calls Tryz.prog 161 #[v] w fun r w'=>∃ v',r=.returned v'∧w'.ownsRow w.heap.size 56 13 v' n cs∧(v=.slice none 0 0↔v'=.slice none 0 0)∧aww w.heap.size w w':=
 dM G1 13 104 (by kernel_rfl) (by decide) (fun w=>Tryz.sizeOf56 w) w v n cs h (awF (awI _ hbig) (by decide))
theorem GZ(w:World)(v:Value)(n:Nat)(cs:List Value)(h:SliceAt w v 13 n cs)(hbig:n≤100000000):Calls Tryz.prog 162 #[v] w fun r w'=>∃ v',r=.returned v'∧w'.ownsRow w.heap.size 84 13 v' n cs∧(v=.slice none 0 0↔v'=.slice none 0 0)∧aww w.heap.size w w':=
 dM GY 13 112 (by kernel_rfl) (by decide) (fun w=>Tryz.sizeOf84 w) w v n cs h (awF (awI _ hbig) (by decide))
theorem GW(w:World)(v:Value)(n:Nat)(cs:List Value)(h:SliceAt w v 10 n cs)(hbig:n≤100000000):Calls Tryz.prog 163 #[v] w fun r w'=>∃ v',r=.returned v'∧w'.ownsRow w.heap.size 203 10 v' n cs∧(v=.slice none 0 0↔v'=.slice none 0 0)∧aww w.heap.size w w':=
 dM GV 10 80 (by kernel_rfl) (by decide) (fun w=>Tryz.sizeOf203 w) w v n cs h (awF (awI _ hbig) (by decide))
theorem GS(w:World)(v:Value)(n:Nat)(cs:List Value)(h:SliceAt w v 13 n cs)(hbig:n≤100000000):Calls Tryz.prog 164 #[v] w fun r w'=>∃ v',r=.returned v'∧w'.ownsRow w.heap.size 205 13 v' n cs∧(v=.slice none 0 0↔v'=.slice none 0 0)∧aww w.heap.size w w':=
 dM GR 13 104 (by kernel_rfl) (by decide) (fun w=>Tryz.sizeOf205 w) w v n cs h (awF (awI _ hbig) (by decide))
theorem GP(w:World)(v:Value)(n:Nat)(cs:List Value)(h:SliceAt w v 8 n cs)(hbig:n≤100000000):Calls Tryz.prog 165 #[v] w fun r w'=>∃ v',r=.returned v'∧w'.ownsRow w.heap.size 125 8 v' n cs∧(v=.slice none 0 0↔v'=.slice none 0 0)∧aww w.heap.size w w':=
 dM GL 8 72 (by kernel_rfl) (by decide) (fun w=>Tryz.sizeOf125 w) w v n cs h (awF (awI _ hbig) (by decide))
theorem GJ(w:World)(v:Value)(n:Nat)(cs:List Value)(h:SliceAt w v 9 n cs)(hbig:n≤100000000):Calls Tryz.prog 166 #[v] w fun r w'=>∃ v',r=.returned v'∧w'.ownsRow w.heap.size 127 9 v' n cs∧(v=.slice none 0 0↔v'=.slice none 0 0)∧aww w.heap.size w w':=
 dM GI 9 80 (by kernel_rfl) (by decide) (fun w=>Tryz.sizeOf127 w) w v n cs h (awF (awI _ hbig) (by decide))
theorem GF(w:World)(v:Value)(n:Nat)(cs:List Value)(h:SliceAt w v 10 n cs)(hbig:n≤100000000):Calls Tryz.prog 167 #[v] w fun r w'=>∃ v',r=.returned v'∧w'.ownsRow w.heap.size 129 10 v' n cs∧(v=.slice none 0 0↔v'=.slice none 0 0)∧aww w.heap.size w w':=
 dM GD 10 88 (by kernel_rfl) (by decide) (fun w=>Tryz.sizeOf129 w) w v n cs h (awF (awI _ hbig) (by decide))
theorem Gz(w:World)(v:Value)(n:Nat)(cs:List Value)(h:SliceAt w v 1 n cs)(hbig:n≤100000000):Calls Tryz.prog 225 #[v] w fun r w'=>∃ v',r=.returned v'∧w'.ownsRow w.heap.size 52 1 v' n cs∧(v=.slice none 0 0↔v'=.slice none 0 0)∧aww w.heap.size w w':=
 dM Gy 1 8 (by kernel_rfl) (by decide) (fun w=>Tryz.sizeOf52 w) w v n cs h (awF (awI _ hbig) (by decide))
end Go.Proofs.YtdcofoaihmongaaGreat
namespace Go.Proofs.YtdcofoaihmongaaGreat
open Go Go.RowKit
def Z7(w:World)(base:Nat)(cs:List Value)(x:aj×Int):Prop:=∃ v,cs=x.1.cells++[v]∧bT w base v x.2
def gI(w:World)(base:Nat)(v:Value)(l:List (aj×Int)):Prop:=aC 14 (Z7 w base) w v l
theorem Z7.keep{w w':World}{base:Nat}{cs:List Value}{x:aj×Int}(h:Z7 w base cs x)(hb:aww w.heap.size w w'):Z7 w' base cs x:=by
 obtain⟨v,e,hs⟩:=h;exact⟨v,e,hs.keep hb⟩
theorem gI.keep{w w':World}{base:Nat}{v:Value}{l:List (aj×Int)}(h:gI w base v l)(hb:aww w.heap.size w w'):gI w' base v l:=aC.mono h hb fun _ _ h=>h.keep hb
theorem Bt{w:World}{b o:Nat}{r:aj}{v:Value}(h:∀ j u,(r.cells++[v])[j]?=some u→w.cell? ⟨b,o+j,none⟩=some u):
 ∀ j uu,[.int .i64 r.kind,.int .u64 r.src.a,.int .u64 r.src.b,.int .u64 r.src.c,.int .u64 r.src.d,.int .u64 r.tgt.a,.int .u64 r.tgt.b,.int .u64 r.tgt.c,.int .u64 r.tgt.d,.bool r.self,.int .i64 r.cls,.int .u32 r.perms,.int .i64 r.cond,v][j]?=some uu→w.cell? ⟨b,o+j,none⟩=some uu:=h
theorem Po{w:World}{base e g c:Nat}{x:Value}(h:w.ownsRow base e 1 (.slice (some ⟨g,0,none⟩) 1 c) 1 [x]):w.cell? ⟨g,0,none⟩=some x:=by
 have:=h.cells (g:=g) rfl 0 x rfl;simpa[Addr.add] using this
def mg(r:aj)(s t:Int):Bool:=r.src.mem s&&(r.tgt.mem t||(r.self&&decide (s=t)))
def wM(s t bit acc:Int)(y:aj×Int):Int:=if (decide (bits .and .u32 y.1.perms bit=0)||!(mg y.1 s t))=true then acc else bits .andNot .u64 acc y.2
def QK(x:Int)(l:List (aj×Int))(s t bit:Int):Bool:=decide (l.foldl (wM s t bit) x=0)
theorem Yf{s t bit acc x:Int}{l:List (aj×Int)}{m:Nat}{y:aj×Int}(hy:l[m]?=some y)(h:acc=(l.take m).foldl (wM s t bit) x)(hq:(decide (bits .and .u32 y.1.perms bit=0)||!(mg y.1 s t))=true):acc=(l.take (m+1)).foldl (wM s t bit) x:=by
 rw[bn hy,List.foldl_append,← h];exact(if_pos hq).symm
theorem abR{s t bit acc x:Int}{l:List (aj×Int)}{m:Nat}{y:aj×Int}(hy:l[m]?=some y)(h:acc=(l.take m).foldl (wM s t bit) x)(hq:(decide (bits .and .u32 y.1.perms bit=0)||!(mg y.1 s t))=false):bits .andNot .u64 acc y.2=(l.take (m+1)).foldl (wM s t bit) x:=by
 rw[bn hy,List.foldl_append,← h];exact(if_neg (by rw[hq];decide)).symm
theorem Yg{s t bit acc x:Int}{l:List (aj×Int)}{m:Nat}(hm:m=l.length)(h:acc=(l.take m).foldl (wM s t bit) x):decide (acc=0)=QK x l s t bit:=by
 subst hm;rw[awJ] at h;rw[h];rfl
def lU(x y:aj):Bool:=(decide (y.kind=x.kind)&&decide (y.cls=x.cls))&&!decide (bits .and .u32 y.perms x.perms=0)
def nH(k:Nat):Int:=if k<32 then 2^k else 0
def KP(x:aj×Int)(near:List (aj×Int))(s t:Int)(k:Nat):Bool:=!(decide (bits .and .u32 x.1.perms (nH k)=0))&&!QK x.2 near s t (nH k)
def f_(x:aj×Int)(l:List (aj×Int)):Bool:=
 decide (x.2=0)||x.1.pairs.all fun p=>(List.range 32).all fun k=>!KP x (l.filter fun y=>lU x.1 y.1) p.1 p.2 k
def uY(a b:List (aj×Int)):Bool:=a.all fun x=>f_ x b
theorem wN{w:World}{g c:Nat}{x:Value}(hs:w.cell? ⟨g,0,none⟩=some x)(h1:x.oneCell'=true:=by rfl)(hc:1≤c:=by decide):SliceAt w (.slice (some ⟨g,0,none⟩) 1 c) 1 1 [x]:=
 ⟨rfl,by decide,fun u hu=>by rw[awH.1 hu];exact h1,.inr ⟨_,_,rfl,hc,fun j u hu=>by
  match j with
  | 0=>
   obtain rfl:x=u:=by simpa using hu
   exact hs
  | j+1=>simp at hu⟩⟩
theorem DT(w:World)(v:Value)(n:Nat)(cs:List Value)(h:SliceAt w v 1 n cs)(hbig:n≤100000000):Calls Tryz.prog 225 #[v] w fun r w'=>∃ v',r=.returned v'∧((w'.ownsRow w.heap.size 52 1 v' n cs∧(v=.slice none 0 0↔v'=.slice none 0 0))∧aww w.heap.size w w'):=
 (Gz w v n cs h hbig).mono fun _ _ ⟨v',e,h1,h2,h3⟩=>⟨v',e,⟨h1,h2⟩,h3⟩
theorem Sd(w0:World)(q:aj)(hq:q.Ok)(s t:Int):Calls Tryz.prog 226 #[.agg #[.int .i64 q.kind,.int .u64 q.src.a,.int .u64 q.src.b,.int .u64 q.src.c,.int .u64 q.src.d,.int .u64 q.tgt.a,.int .u64 q.tgt.b,.int .u64 q.tgt.c,.int .u64 q.tgt.d,.bool q.self,.int .i64 q.cls,.int .u32 q.perms,.int .i64 q.cond],.int .i64 s,.int .i64 t] w0 (fun(r:Ending) (w':World)=>r=.returned (.bool (mg q s t))∧aww w0.heap.size w0 w'):=by
 refine dD [] (fn:=Tryz.f226) Tryz.func226 rfl Tryz.ntmps226 rfl<|fun g1 w1 M1=>lb 0<|an rfl<|cl<|an (gT _ q.src hq.src s) fun w2 M2=>lb 0<|an (fun _=>rfl)<|cl<|an (fun _=>gT _ q.tgt hq.tgt t) fun w3 M3=>lb 0<|an (fun _=>rfl)<|?_
 exact fun M=>⟨rfl,M.below⟩
theorem Fl(w0:World)(x:aj×Int)(gx:Nat)(hxc:w0.cell? ⟨gx,0,none⟩=some (.int .u64 x.2))(base:Nat)(lv:Value)(l:List (aj×Int))(hL:gI w0 base lv l)(hcl:l.length≤1000)(hok:∀ y∈l,y.1.Ok)(s t bit:Int):Calls Tryz.prog 154 #[.agg #[.int .i64 x.1.kind,.int .u64 x.1.src.a,.int .u64 x.1.src.b,.int .u64 x.1.src.c,.int .u64 x.1.src.d,.int .u64 x.1.tgt.a,.int .u64 x.1.tgt.b,.int .u64 x.1.tgt.c,.int .u64 x.1.tgt.d,.bool x.1.self,.int .i64 x.1.cls,.int .u32 x.1.perms,.int .i64 x.1.cond,.slice (some ⟨gx,0,none⟩) 1 1],lv,.int .i64 s,.int .i64 t,.int .u32 bit] w0 (fun(r:Ending) (w':World)=>r=.returned (.bool (QK x.2 l s t bit))∧aww w0.heap.size w0 w'):=by
 obtain⟨_,_,rfl,-⟩:=aC.form hL (by decide);refine dD [] (fn:=Tryz.f154) Tryz.func154 rfl Tryz.ntmps154 rfl<|fun g1 w1 M1=>lb 0<|an rfl<|cg<|an (DT _ _ 1 [.int .u64 x.2] (wN (awy M1.below hxc)) (by decide)) fun lv w2 ⟨⟨ho,_⟩,hb⟩=>⟨_,_,M1.xO (r:=⟨lv,52,1,1,[.int .u64 x.2]⟩) hb ho,?_⟩
 obtain⟨lg,cp,_,rfl,-,-,hlc,-⟩:=qz ho (Nat.zero_lt_one);refine lq (ι:=Nat×Int) (fun(m,acc)=>[(20,.int .i64 (m:Int))]) (fun(m,acc)=>[⟨.slice (some ⟨lg,0,none⟩) 1 cp,52,1,1,[.int .u64 acc]⟩]) (fun(m,acc) _=>m≤l.length∧acc=(l.take m).foldl (wM s t bit) x.2) (fun(m,acc)=>l.length-m) (0,x.2) (an ⟨⟨rfl,trivial⟩,fun M=>⟨M,awx _,rfl⟩⟩ ?_);rintro⟨m,acc⟩ w M ⟨hm,hacc⟩;refine an (fun h=>?_) fun h=>cl<|an (BN _ lg cp _ (Po (M.r 0 rfl))) fun w7 M7=>fun M=>⟨rb (Yg (by simp at h;omega) hacc).symm,M.below⟩
 have hlt:m<l.length:=by simp at h;omega
 obtain⟨y,hy⟩:∃ y,l[m]?=some y:=⟨_,awA hlt⟩;obtain⟨b,o,_,e1,⟨_,rfl,gy,rfl,hwy,hly⟩,hc⟩:=aC.elt hL (by decide) hy;refine ia<|an ⟨e1,rfl,hlt⟩<|lc (x:=_)<|an (dH M.below (Bt hc))<|ei<|an yB fun g2 w3 M3=>lb 0<|an ⟨rfl,rfl⟩ fun w4 M4=>lb 0<|an rfl<|ei (x:=bits .and .u32 y.1.perms bit)<|an rfl<|lb 0<|an (fun _=>rfl)<|cl<|an (fun _=>Sd _ y.1 (hok y (awz hy)) s t) fun w5 M5=>?_
 refine an (fun hq=>an (by omega)<|bk (m+1,acc) ⟨rfl,trivial⟩ (fun M=>⟨M.only (.cons _ (.refl _)) (.refl _),by omega,Yf hy hacc hq⟩) (by dsimp only;omega)) fun hq=>?_
 refine lq (ι:=Nat×Int) (fun(k,z)=>[(40,.int .i64 (k:Int))]) (fun(k,z)=>[⟨.slice (some ⟨lg,0,none⟩) 1 cp,52,1,1,[.int .u64 z]⟩]) (fun(k,z) _=>k≤1∧(k=0→z=acc)∧(k=1→z=(l.take (m+1)).foldl (wM s t bit) x.2)) (fun(k,z)=>1-k) (0,acc) (an ⟨⟨rfl,trivial⟩,fun M=>⟨M,awx _,fun _=>rfl,fun h=>by cases h⟩⟩ ?_);rintro⟨k,z⟩ w M ⟨hk,hz0,hz1⟩;refine an (fun h2=>?_) fun h2=>an (by omega)<|bk (m+1,z) ⟨rfl,trivial⟩ (fun M=>⟨M.only (.cons _ (.refl _)) (.refl _),by omega,hz1 (by simp at h2;omega)⟩) (by dsimp only;omega)
 obtain rfl:k=0:=by simp at h2;omega
 obtain rfl:=hz0 rfl;refine dr (by kernel_rfl)<|ia (i:=0)<|an ⟨rfl,rfl,by decide⟩<|lc (x:=.int .u64 z)<|an (Po (M.r 0 rfl))<|lb 0<|an rfl<|ia (i:=0)<|an ⟨rfl,rfl,by decide⟩<|lc (x:=.int .u64 y.2)<|an (awy M.below ((Whole.cell hwy) 0))<|ei (x:=bits .andNot .u64 z y.2)<|an rfl<|ia (i:=0)<|an ⟨rfl,rfl,by decide⟩<|fun w hb M=>sr 0 0 ⟨rfl,rfl,by decide⟩ rfl fun w M=>an (by omega)<|bk (1,bits .andNot .u64 z y.2) ⟨rfl,trivial⟩ (fun M=>⟨M,by omega,(fun h=>by cases h),fun _=>abR hy hacc hq⟩) (by dsimp only;omega)
def mV(z:(aj×Int)×Nat):List Value:=z.1.1.cells++[.slice (some ⟨z.2,0,none⟩) 1 1]
theorem xB(z:(aj×Int)×Nat):(mV z).length=14:=rfl
def cG{α:Type}(w:World)(base:Nat)(N:List ((α×Int)×Nat)):Prop:=∀ z∈N,Whole w z.2 52 #[.int .u64 z.1.2]∧base≤z.2
theorem cG.snoc{α:Type}{w:World}{base g:Nat}{N:List ((α×Int)×Nat)}{y:α×Int}(h:cG w base N)(hw:Whole w g 52 #[.int .u64 y.2])(hg:base≤g):cG w base (N++[(y,g)]):=fun z hz=>by
 rcases awK.1 hz with h1|h1
 ·exact h z h1
 ·rw[awH.1 h1];exact⟨hw,hg⟩
theorem cG.keep{α:Type}{w w':World}{base:Nat}{N:List ((α×Int)×Nat)}(h:cG w base N)(hb:aww w.heap.size w w'):cG w' base N:=fun z hz=>⟨Whole.under hb (h z hz).1 (h z hz).1.lt,(h z hz).2⟩
theorem Ey(N:List ((aj×Int)×Nat)):∀ u∈N.flatMap mV,u.oneCell'=true:=fun u hu=>by
 obtain⟨z,-,hz⟩:=List.mem_flatMap.1 hu;simp only[mV,aj.cells,awK,awL,List.not_mem_nil,or_false] at hz;rcases hz with(rfl|rfl|rfl|rfl|rfl|rfl|rfl|rfl|rfl|rfl|rfl|rfl|rfl)|rfl<;>rfl
theorem MX{w:World}{base b n:Nat}{v:Value}{N:List ((aj×Int)×Nat)}(ho:w.ownsRow b 146 14 v n (N.flatMap mV))(hn:n=N.length)(hN:cG w base N):gI w base v (N.map (·.1)):=by
 subst hn;refine⟨N.map mV,by simp,fun x hx=>?_,?_,fun i x y hx hy=>?_⟩
 ·obtain⟨z,-,rfl⟩:=awM.1 hx;exact xB z
 ·rw[← List.flatMap_def,awN];exact SliceAt.bC ho (Ey N)
 ·rw[List.getElem?_map] at hx hy
  cases hz:N[i]? with
  | none=>rw[hz] at hx;simp at hx
  | some z=>
   rw[hz] at hx hy;simp only[Option.map_some,Option.some.injEq] at hx hy;subst hx hy;obtain⟨h1,h2⟩:=hN z (awz hz);exact⟨_,rfl,z.2,rfl,h1,h2⟩
theorem fB{w:World}{base e k n:Nat}{v:Value}{xs:List Value}(h:w.ownsRow base e k v n xs):∃ a c,v=.slice a n c∧n≤c∧n≤9223372036854775807:=by
 rcases h.2 with⟨rfl,rfl⟩|⟨g,cap,cur,rfl,-,-,h1,h2,-⟩
 ·exact⟨none,0,rfl,Nat.le_refl _,by decide⟩
 ·exact⟨_,_,rfl,h1,awF h1 h2⟩
theorem Ph{α:Type}{w:World}{base e k n c:Nat}{a:Option Addr}{f:α→List Value}{l:List α}(h:w.ownsRow base e k (.slice a n c) n (l.flatMap f))(hf:∀ x,(f x).length=k){m:Nat}{y:α}(hy:l[m]?=some y)(_:0<k)(hn:n=l.length):
 ∃ g,a=some ⟨g,0,none⟩∧∀ j uu,(f y)[j]?=some uu→w.cell? ⟨g,0+m*k+j,none⟩=some uu:=by
 have hm:=(awO.1 hy).1;obtain⟨g,cap,cur,hv,-,-,-⟩:=qz h (by omega);injection hv with e1 e2 e3;refine⟨g,e1,fun j u hu=>?_⟩;have hj:j<k:=by rw[← hf y];exact(awO.1 hu).1
 have:=h.cells (g:=g) (by rw[e1];rfl) (m*k+j) u (by rw[cE hf hy j hj];exact hu);rw[Addr.add_lit] at this;simpa using this
theorem SV:∀ k:Nat,k<32→IntKind.u32.wrap (nH k*2^((1:Int)).toNat)=nH (k+1):=by decide
theorem ZR:∀ k:Nat,k<32→decide (nH k=0)=false:=by decide
theorem Xm:nH 32=0:=by decide
theorem Xr{α:Type}{p:α→Bool}{l:List α}{m:Nat}{y:α}(hy:l[m]?=some y)(h:(l.take m).all p=true)(hp:p y=true):(l.take (m+1)).all p=true:=by
 rw[bn hy,List.all_append,h];simp[hp]
theorem Xq{α:Type}{p:α→Bool}{l:List α}{m:Nat}{y:α}(hy:l[m]?=some y)(hp:p y=false):l.all p=false:=by
 rw[Bool.eq_false_iff];intro h;have:=awP.1 h y (awz hy);rw[hp] at this;cases this
theorem Ms{p:Nat→Bool}{k:Nat}(h:(List.range k).all p=true)(hp:p k=true):(List.range (k+1)).all p=true:=by
 rw[List.range_succ,List.all_append,h];simp[hp]
theorem Mr{p:Nat→Bool}{k n:Nat}(hk:k<n)(hp:p k=false):(List.range n).all p=false:=by
 rw[Bool.eq_false_iff];intro h;have:=awP.1 h k (List.mem_range.2 hk);rw[hp] at this;cases this
theorem ZK{x:aj×Int}{l near:List (aj×Int)}{m:Nat}(hn:near=l.filter fun y=>lU x.1 y.1)(hm:m=x.1.pairs.length)(h:((x.1.pairs.take m).all fun p=>(List.range 32).all fun k=>!KP x near p.1 p.2 k)=true):true=f_ x l:=by
 subst hm hn;rw[awJ] at h;unfold f_;rw[h,Bool.or_true]
theorem adL{x:aj×Int}{l near:List (aj×Int)}{m k:Nat}{p:Nat×Nat}(hn:near=l.filter fun y=>lU x.1 y.1)(hp:x.1.pairs[m]?=some p)(hk:k<32)(hx:decide (x.2=0)=false)(hb:KP x near p.1 p.2 k=true):false=f_ x l:=by
 subst hn;unfold f_;rw[hx,Bool.false_or];refine(Xq hp ?_).symm;exact Mr hk (by rw[hb];rfl)
theorem Vk{x:aj}{l:List (aj×Int)}{N:List ((aj×Int)×Nat)}{m g:Nat}{y:aj×Int}(hy:l[m]?=some y)(h:N.map (·.1)=(l.take m).filter fun y=>lU x y.1)(hq:lU x y.1=true):(N++[(y,g)]).map (·.1)=(l.take (m+1)).filter fun y=>lU x y.1:=by
 rw[bn hy,List.filter_append,← h,awQ];simp[hq]
theorem YS{x:aj}{l:List (aj×Int)}{N:List ((aj×Int)×Nat)}{m:Nat}{y:aj×Int}(hy:l[m]?=some y)(h:N.map (·.1)=(l.take m).filter fun y=>lU x y.1)(hq:lU x y.1=false):N.map (·.1)=(l.take (m+1)).filter fun y=>lU x y.1:=by
 rw[bn hy,List.filter_append,← h];simp[hq]
theorem RW(l:List Nat):ints l=l.flatMap fun x:Nat=>[Value.int .i64 (x:Int)]:=by unfold ints;induction l<;>simp_all
theorem VK{w:World}{base n c:Nat}{a:Option Addr}{l:List Nat}(h:w.ownsRow base 3 1 (.slice a n c) n (ints l)){m y:Nat}(hy:l[m]?=some y)(hn:n=l.length):∃ g,a=some ⟨g,0,none⟩∧w.cell? ⟨g,0+m*1,none⟩=some (.int .i64 (y:Int)):=by
 obtain⟨g,e,hc⟩:=Ph (k:=1) (f:=fun x:Nat=>[Value.int .i64 (x:Int)]) (l:=l) (by rw[← RW];exact h) (fun _=>rfl) hy (by decide) hn;exact⟨g,e,hc 0 _ rfl⟩
theorem Q7(w0:World)(r:aj)(hr:r.Ok):Calls Tryz.prog 59 #[.agg #[.int .i64 r.kind,.int .u64 r.src.a,.int .u64 r.src.b,.int .u64 r.src.c,.int .u64 r.src.d,.int .u64 r.tgt.a,.int .u64 r.tgt.b,.int .u64 r.tgt.c,.int .u64 r.tgt.d,.bool r.self,.int .i64 r.cls,.int .u32 r.perms,.int .i64 r.cond]] w0 fun e w'=>∃ v,e=.returned v∧(w'.ownsRow w0.heap.size 111 2 v r.pairs.length (eE r.pairs)∧aww w0.heap.size w0 w'):=by
 refine dD [] (fn:=Tryz.f59) Tryz.func59 rfl Tryz.ntmps59 rfl<|fun g1 w1 M1=>lb 0<|an rfl<|cw M1 (ot _ r.src hr.src) fun u1 w2 M2=>?_
 obtain⟨a1,c1,rfl,-,-⟩:=fB (v:=u1) (n:=(elems r.src).length) (M2.r 0 rfl);have hn1:(elems r.src).length≤256:=dY _ _;refine lq (ι:=Nat×Value) (fun(k,u)=>[(3,u),(13,.int .i64 (k:Int))]) (fun(k,u)=>⟨u,111,2,(r.bZ ((elems r.src).take k)).length,eE (r.bZ ((elems r.src).take k))⟩::_) (fun(k,u) _=>k≤(elems r.src).length) (fun(k,u)=>(elems r.src).length-k) (0,.slice none 0 0) (an ⟨⟨rfl,rfl,trivial⟩,fun M=>⟨M.bM 111 2,awx _⟩⟩ ?_);rintro⟨k,u⟩ w M hk;refine an (fun h=>?_) fun h=>?_
 ·have hlt:k<(elems r.src).length:=by simp at h;omega
  obtain⟨s,hs⟩:∃ s,(elems r.src)[k]?=some s:=⟨_,awA hlt⟩;obtain⟨g,e,hc⟩:=VK (M.r 1 rfl) hs rfl;have hP:=mQ r ((elems r.src).take k);have hP2:=List.length_take_le k (elems r.src);have Zb:=bn hs;refine ia<|an ⟨e,rfl,hlt⟩<|lc (x:=.int .i64 (s:Int))<|an hc<|lb 0<|an rfl<|ei<|an Im fun g2 w3 M3=>lb 0<|an ⟨rfl,rfl⟩ fun w4 M4=>lb 1<|an rfl<|?_
  have hT:elems (r.tgts s)=if r.self=true then elems (r.tgt.with s) else elems r.tgt:=by unfold aj.tgts;split<;>rfl
  refine an (fun hf=>?_) fun hf=>?_
  rw[if_pos hf] at hT;refine lb 0<|an rfl<|cl<|an (IL _ r.tgt hr.tgt s) fun w5 M5=>lb 0<|an ⟨rfl,rfl⟩ fun w6 M6=>lb 0<|an rfl<|cw M6 (ot _ (r.tgt.with s) (ay.zX hr.tgt s)) fun u2 w7 M7=>?_
  obtain⟨a2,c2,rfl,-,-⟩:=fB (v:=u2) (n:=(elems (r.tgt.with s)).length) (M7.r 0 rfl);generalize elems (r.tgt.with s)=l2 at *
  rotate_left
  rw[if_neg (by rw[hf];decide)] at hT;refine lb 0<|an rfl<|cw M4 (ot _ r.tgt hr.tgt) fun u2 w7 M7=>?_
  obtain⟨a2,c2,rfl,-,-⟩:=fB (v:=u2) (n:=(elems r.tgt).length) (M7.r 0 rfl);generalize elems r.tgt=l2 at *
  all_goals
   subst hT;have hn2:(elems (r.tgts s)).length≤256:=dY _ _;refine lq (ι:=Nat×Value) (fun(q,u)=>[(3,u),(27,.int .i64 (q:Int))]) (fun(q,u)=>[_,⟨u,111,2,(r.bZ ((elems r.src).take k)).length+q,eE (r.bZ ((elems r.src).take k))++eE (((elems (r.tgts s)).take q).map fun t=>(s,t))⟩,_]) (fun(q,u) _=>q≤(elems (r.tgts s)).length) (fun(q,u)=>(elems (r.tgts s)).length-q) (0,u) (an ⟨⟨rfl,rfl,trivial⟩,fun M=>⟨M.cast rfl (by dsimp only;rw[List.take_zero,List.map_nil,show eE []=[] from rfl,List.append_nil,Nat.add_zero]),awx _⟩⟩ ?_);rintro⟨q,u⟩ w M hq;refine an (fun h=>?_) fun h=>?_
   ·have hlt:q<(elems (r.tgts s)).length:=by simp at h;omega
    obtain⟨y,hy⟩:∃ y,(elems (r.tgts s))[q]?=some y:=⟨_,awA hlt⟩;obtain⟨g,e,hc⟩:=VK (M.r 0 rfl) hy rfl;refine ia<|an ⟨e,rfl,hlt⟩<|lc (x:=.int .i64 (y:Int))<|an hc<|ei (x:=.agg #[.int .i64 (s:Int),.int .i64 (y:Int)])<|an (bd (by kernel_rfl))<|fun g3 w8 M8=>ap 1 id rfl (M8.slice 0 rfl (k:=2) (n:=1) rfl rfl (by simp[maxLen])) ⟨by unfold maxLen;omega,by omega⟩ fun v4 w9 M9=>an (by omega)<|bk (q+1,v4) ⟨rfl,rfl,trivial⟩ (fun M=>⟨(M.only (.cons _ (.refl _)) (.refl _)).cast rfl (by dsimp only;rw[bn hy,awQ,lP,← List.append_assoc];rfl),by dsimp only;omega⟩) (by dsimp only;omega)
   obtain rfl:q=(elems (r.tgts s)).length:=by simp at h;omega
   exact an (by omega)<|bk (k+1,u) ⟨rfl,rfl,trivial⟩ (fun M=>⟨(M.only (.cons _ (.refl _)) (.cons _ (.refl _))).cast rfl (by dsimp only;rw[awJ,Zb,kS,lP,awR,awN]),by dsimp only;omega⟩) (by dsimp only;omega)
 obtain rfl:k=(elems r.src).length:=by simp at h;omega
 exact fun M=>⟨_,rfl,by have h:=M.r 0 rfl;rw[awJ] at h;exact h,M.below⟩
theorem zl(w0:World)(x:aj×Int)(hxo:x.1.Ok)(gx:Nat)(hxc:w0.cell? ⟨gx,0,none⟩=some (.int .u64 x.2))(base:Nat)(lv:Value)(l:List (aj×Int))(hL:gI w0 base lv l)(hcl:l.length≤1000)(hok:∀ y∈l,y.1.Ok):Calls Tryz.prog 80 #[.agg #[.int .i64 x.1.kind,.int .u64 x.1.src.a,.int .u64 x.1.src.b,.int .u64 x.1.src.c,.int .u64 x.1.src.d,.int .u64 x.1.tgt.a,.int .u64 x.1.tgt.b,.int .u64 x.1.tgt.c,.int .u64 x.1.tgt.d,.bool x.1.self,.int .i64 x.1.cls,.int .u32 x.1.perms,.int .i64 x.1.cond,.slice (some ⟨gx,0,none⟩) 1 1],lv] w0 (fun(r:Ending) (w':World)=>r=.returned (.bool (f_ x l))∧aww w0.heap.size w0 w'):=by
 obtain⟨_,_,rfl,-⟩:=aC.form hL (by decide);refine dD [] (fn:=Tryz.f80) Tryz.func80 rfl Tryz.ntmps80 rfl<|fun g1 w1 M1=>lb 0<|an rfl<|cl<|an (BN _ gx 1 _ (awy M1.below hxc)) fun w2 M2=>an (fun h=>fun M=>⟨rb (by unfold f_;rw[h];rfl),M.below⟩) fun h0=>lq (ι:=Nat×Value×List ((aj×Int)×Nat)) (fun(m,v,N)=>[(5,v),(16,.int .i64 (m:Int))]) (fun(m,v,N)=>[⟨v,146,14,N.length,N.flatMap mV⟩]) (fun(m,v,N) _=>m≤l.length∧N.map (·.1)=((l.take m).filter fun y=>lU x.1 y.1)∧cG w0 base N) (fun(m,v,N)=>l.length-m) (0,.slice none 0 0,[]) (an ⟨⟨rfl,rfl,trivial⟩,fun M=>⟨M.bM 146 14,awx _,rfl,(fun _ h=>by cases h)⟩⟩ ?_)
 rintro⟨m,v,N⟩ w M ⟨hm,DG,hN⟩;refine an (fun h=>?_) fun h=>?_
 ·have hlt:m<l.length:=by simp at h;omega
  obtain⟨y,hy⟩:∃ y,l[m]?=some y:=⟨_,awA hlt⟩;obtain⟨b,o,_,e1,⟨_,rfl,gy,rfl,hwy,hly⟩,hc⟩:=aC.elt hL (by decide) hy
  have hlN:N.length≤1000:=by
   have h:=congrArg List.length DG;rw[awN] at h;rw[h];exact awF (List.length_filter_le _ _) (by rw[List.length_take];omega)
  exact ia<|an ⟨e1,rfl,hlt⟩<|lc<|an (dH M.below (Bt hc))<|ei<|an yB fun g2 w3 M3=>lb 0<|an ⟨rfl,rfl⟩ fun w4 M4=>lb 0<|an rfl<|lb 1<|an rfl<|lb 0<|an (fun _=>rfl)<|lb 1<|an (fun _=>rfl)<|lb 0<|an (fun _=>rfl)<|lb 1<|an (fun _=>rfl)<|ei (x:=bits .and .u32 y.1.perms x.1.perms)<|an (fun _=>rfl)<|an (fun hq=>lb 0<|an rfl<|fun g3 w5 M5=>ap 0 id rfl (M5.slice 0 rfl (k:=14) (n:=1) rfl rfl (by simp[maxLen])) ⟨by unfold maxLen;omega,by omega⟩ fun v4 w6 M6=>an (by omega)<|bk (m+1,v4,N++[(y,gy)]) ⟨rfl,rfl,trivial⟩ (fun M=>⟨(M.only (.cons _ (.cons _ (.refl _))) (.refl _)).cast rfl (by dsimp only;rw[awR,awS];rfl),by omega,Vk hy DG hq,hN.snoc hwy hly⟩) (by dsimp only;omega)) fun hq=>an (by omega)<|bk (m+1,v,N) ⟨rfl,rfl,trivial⟩ (fun M=>⟨M.only (.cons _ (.refl _)) (.refl _),by omega,YS hy DG hq,hN⟩) (by dsimp only;omega)
 obtain rfl:m=l.length:=by simp at h;omega
 rw[awJ] at DG;refine lb 0<|an rfl<|cw M (Q7 _ x.1 hxo) fun u w7 M7=>?_
 obtain⟨pa,pc,rfl,-,hpl⟩:=fB (v:=u) (n:=x.1.pairs.length) (M7.r 0 rfl);refine lr (ι:=Nat) (fun m=>[(55,.int .i64 (m:Int))]) (fun m _=>m≤x.1.pairs.length∧((x.1.pairs.take m).all fun p=>(List.range 32).all fun k=>!KP x (N.map (·.1)) p.1 p.2 k)=true) (fun m=>x.1.pairs.length-m) 0 (an ⟨⟨rfl,trivial⟩,fun M=>⟨M,awx _,rfl⟩⟩ ?_);intro m w8 M8 ⟨hm,hall⟩;refine an (fun h2=>?_) fun h2 M=>⟨rb (ZK DG (by simp at h2;omega) hall).symm,M.below⟩
 have hlt:m<x.1.pairs.length:=by simp at h2;omega
 obtain⟨p,hp⟩:∃ p,x.1.pairs[m]?=some p:=⟨_,awA hlt⟩;obtain⟨pg,e1,hc⟩:=Ph (k:=2) (f:=yQ) (M8.r 0 rfl) (fun _=>rfl) hp (by decide) rfl;refine ia<|an ⟨e1,rfl,hlt⟩<|lc<|an hc<|ei<|an aeG fun g5 w9 M9=>lb 0<|an ⟨rfl,rfl⟩ fun rz nI=>lr (ι:=Nat) (fun k=>[(10,.int .u32 (nH k))]) (fun k _=>k≤32∧((List.range k).all fun k=>!KP x (N.map (·.1)) p.1 p.2 k)=true) (fun k=>32-k) 0 (an ⟨⟨rfl,trivial⟩,fun M=>⟨M,by decide,rfl⟩⟩ ?_)
 intro k Dp M11 ⟨hk,aaR⟩;refine an (fun h3=>?_) fun h3=>?_
 ·have Cr:k<32:=by
   rcases Nat.lt_or_ge k 32 with h|h
   ·exact h
   ·rw[show k=32 by omega,Xm] at h3;cases h3
  refine lb 1<|an rfl<|ei (x:=bits .and .u32 x.1.perms (nH k))<|an rfl<|lb 1<|an (fun _=>rfl)<|ei (x:=0)<|an (fun _=>⟨rfl,by decide⟩)<|lb 0<|an (fun _=>rfl)<|ei (x:=1)<|an (fun _=>⟨rfl,by decide⟩)<|lb 0<|an (fun _=>rfl)<|cl<|an (fun _=>Fl _ x gx (awy M11.below hxc) base v (N.map (·.1)) (MX (M11.r 1 rfl) rfl (hN.keep M11.below)) (by rw[DG];exact awF (List.length_filter_le _ _) hcl) (by rw[DG];exact fun z hz=>hok z (List.mem_filter.1 hz).1) p.1 p.2 (nH k)) fun Ie EW=>?_
  refine an (fun hb M=>⟨rb (adL DG hp Cr h0 hb).symm,M.below⟩) fun hb=>?_
  refine ei (x:=.int .u32 (nH (k+1)))<|an (fun a w o ho hv=>?_)<|bk (k+1) ⟨rfl,trivial⟩ (fun M=>⟨M,by omega,Ms aaR (by rw[show KP x (N.map (·.1)) p.1 p.2 k=false from hb];rfl)⟩) (by dsimp only;omega);exact(mX ho (oD hv) (uf hv) (by decide) (by decide)).trans (by rw[SV k Cr])
 have Cr:k=32:=by
  rcases Nat.lt_or_ge k 32 with h|h
  ·rw[ZR k h] at h3;cases h3
  ·omega
 exact an (by omega)<|bk (m+1) ⟨rfl,trivial⟩ (fun M=>⟨M.only (.cons _ (.refl _)) (.refl _),by omega,Xr hp hall (by rw[← Cr];exact aaR)⟩) (by dsimp only;omega)
theorem ZG{P:Program}{a:Act}{w:World}{o:Oper}{f:FuncId}{cs:Array Operand}{cap:Array Value}(ho:o.op=.makeFunc (.func f) #[] cs)(hc:cs.map a.eval=cap):(execOp a.eval o).run P w=.ok (.value (.func (.func f) #[] cap)) w:=by
 unfold execOp;simp[ho,hc,Instr.makeFunc]
def firstAt{α:Type}(p:α→Bool):List α→Nat→Int
 | [],_=>-1
 | x::l,k=>if p x=true then (k:Int) else firstAt p l (k+1)
theorem CB{α:Type}{p:α→Bool}:∀ {l:List α} {k:Nat},decide (0≤firstAt p l k)=l.any p
 | [],_=>rfl
 | x::l,k=>by
  rw[firstAt,List.any_cons]
  cases h:p x with
  | true=>rw[if_pos rfl];simp
  | false=>rw[if_neg (by decide),CB];rfl
theorem NM{α:Type}{p:α→Bool}{l:List α}{m:Nat}{y:α}(hy:l[m]?=some y)(h:firstAt p l 0=firstAt p (l.drop m) m)(hp:p y=true):(m:Int)=firstAt p l 0:=by
 rw[h,List.drop_eq_getElem_cons (awO.1 hy).1,(awO.1 hy).2,firstAt,if_pos hp]
theorem NK{α:Type}{p:α→Bool}{l:List α}{m:Nat}{y:α}(hy:l[m]?=some y)(h:firstAt p l 0=firstAt p (l.drop m) m)(hp:p y=false):firstAt p l 0=firstAt p (l.drop (m+1)) (m+1):=by
 rw[h,List.drop_eq_getElem_cons (awO.1 hy).1,(awO.1 hy).2,firstAt,if_neg (by rw[hp];decide)]
theorem Kh{α:Type}{p:α→Bool}{l:List α}{m:Nat}(hm:m=l.length)(h:firstAt p l 0=firstAt p (l.drop m) m):-1=firstAt p l 0:=by
 subst hm;rw[h,List.drop_length];rfl
theorem Y4(a b:List (aj×Int)):(!(a.any fun x=>!f_ x b))=uY a b:=by
 unfold uY;rw[List.not_any_eq_all_not];simp
theorem VP(w0:World)(x:aj×Int)(hxo:x.1.Ok)(gx:Nat)(hxc:w0.cell? ⟨gx,0,none⟩=some (.int .u64 x.2))(bx base:Nat)(lv:Value)(l:List (aj×Int))(Zn:Whole w0 bx 141 #[lv])(hL:gI w0 base lv l)(hcl:l.length≤1000)(hok:∀ y∈l,y.1.Ok):Calls Tryz.prog 153 #[.agg #[.int .i64 x.1.kind,.int .u64 x.1.src.a,.int .u64 x.1.src.b,.int .u64 x.1.src.c,.int .u64 x.1.src.d,.int .u64 x.1.tgt.a,.int .u64 x.1.tgt.b,.int .u64 x.1.tgt.c,.int .u64 x.1.tgt.d,.bool x.1.self,.int .i64 x.1.cls,.int .u32 x.1.perms,.int .i64 x.1.cond,.slice (some ⟨gx,0,none⟩) 1 1],.pointer (some ⟨bx,0,none⟩)] w0 (fun(r:Ending) (w':World)=>r=.returned (.bool (!f_ x l))∧aww w0.heap.size w0 w'):=by
 have bJ:=hr1 Tryz.prog Tryz.f153 (fun(r:Ending) (w':World)=>r=.returned (.bool (!f_ x l))∧aww w0.heap.size w0 w') 8 3 rfl;refine en Tryz.func153 rfl Tryz.ntmps153 rfl (vs:=[.agg #[.int .i64 x.1.kind,.int .u64 x.1.src.a,.int .u64 x.1.src.b,.int .u64 x.1.src.c,.int .u64 x.1.src.d,.int .u64 x.1.tgt.a,.int .u64 x.1.tgt.b,.int .u64 x.1.tgt.c,.int .u64 x.1.tgt.d,.bool x.1.self,.int .i64 x.1.cls,.int .u32 x.1.perms,.int .i64 x.1.cond,.slice (some ⟨gx,0,none⟩) 1 1],.pointer (some ⟨bx,0,none⟩)]) rfl fun _ F=>?_
 have M:=Mm.start w0;refine awB fun K1 gU=>ah<|Ig (on rfl) rfl (F.u rf) rfl F rfl M fun g1 _ _ F M=>xA (v:=.bool false) F rf rf rf fun _ F=>awC<|gU _ _ ?_
 refine awB fun K2 iy=>ah<|xW F (M.b 0 rfl) rf rf rf IZ rf j6 rf fun _ F=>kz F rf (b_ rf (F.u rf) zM rfl ((dH M.below (D4 Zn)) 0 _ rfl)) fun _ F=>xC F M rf rf q80 (args2 (F.u rf) (F.u rf)) (zl _ x hxo gx (awy M.below hxc) base lv l (hL.keep M.below) hcl hok) fun _ _ F M=>kz F rf (pN rfl (F.u rf)) fun _ F=>xA F rf rf rf fun _ F=>awC<|iy _ _ ?_
 refine wp_ret<|bJ _ _ _ _ F rfl ?_;exact⟨rfl,M.below⟩
theorem VN(w0:World)(bx base:Nat)(lv:Value)(l:List (aj×Int))(Zn:Whole w0 bx 141 #[lv])(hL:gI w0 base lv l)(hcl:l.length≤1000)(hok:∀ y∈l,y.1.Ok)(av:Value)(a1:List (aj×Int))(hA:gI w0 base av a1)(hca:a1.length≤1000)(V1:∀ y∈a1,y.1.Ok):Calls Tryz.prog 224 #[av,.func (.func 153) #[] #[.pointer (some ⟨bx,0,none⟩)]] w0 (fun(r:Ending) (w':World)=>r=.returned (.int .i64 (firstAt (fun x=>!f_ x l) a1 0))∧aww w0.heap.size w0 w'):=by
 obtain⟨la6,lk6,rfl,hk6,hm6,acW⟩:=aC.form hA (by decide);have bJ:=hr1 Tryz.prog Tryz.f224 (fun(r:Ending) (w':World)=>r=.returned (.int .i64 (firstAt (fun x=>!f_ x l) a1 0))∧aww w0.heap.size w0 w') 19 4 rfl;refine en Tryz.func224 rfl Tryz.ntmps224 rfl (vs:=[.slice la6 a1.length lk6,.func (.func 153) #[] #[.pointer (some ⟨bx,0,none⟩)]]) rfl fun _ F=>?_
 have M:=Mm.start w0;refine awB fun K1 gU=>ah<|xA (v:=.int .i64 0) F rf rf rf fun _ F=>awC<|gU _ _ ?_
 refine awB fun K2 iy=>awB fun K3 nE=>ah<|xM F rf rf rf fun _ F=>kz F rf (fK rfl (F.u rf) zM) fun _ F=>xM (v:=.int .i64 0) F rf rf rf fun _ F=>awC<|nE _ _ ?_
 refine awD<|?_;refine eH (ι:=Nat) (fun m a w=>Fs a 19 [(0,.slice la6 a1.length lk6),(1,.func (.func 153) #[] #[.pointer (some ⟨bx,0,none⟩)]),(7,.int .i64 (a1.length:Int)),(8,.int .i64 (m:Int))]∧Mm w0 w [] []∧m≤a1.length∧firstAt (fun x=>!f_ x l) a1 0=firstAt (fun x=>!f_ x l) (a1.drop m) m) (fun m=>a1.length-m) 0 ⟨F.sub ⟨rfl,rfl,rfl,rfl,trivial⟩,M,awx _,rfl⟩ ?_
 (repeat clear F);(repeat clear M)
 rintro m _ _ ⟨F,M,hm,hI⟩;refine awB fun K4 ox=>ah<|kz F rf (jo rfl (F.u rf) (F.u rf)) fun _ F=>awC<|ox _ _ ?_
 refine awB fun K5 ow=>?_
 refine awE (F.e 9 rfl) (fun hc1=>?_) (fun hc1=>?_)
 ·have hd2:=of_decide_eq_true hc1;refine wp_skip<|ow _ _ ?_;refine awB fun K6 pT=>awD<|awB fun K7 rS=>ah<|xM F rf rf rf fun _ F=>xA F rf rf rf fun _ F=>awC<|rS _ _ ?_
  refine awB fun K8 xK=>?_
  have ajI:m<a1.length:=by omega
  obtain⟨x,hx⟩:∃ x,a1[m]?=some x:=⟨_,awA ajI⟩;obtain⟨b6,o6,cs6,rfl,⟨_,rfl,gx,rfl,hwx,hlx⟩,-,hr6⟩:=acW m x hx;have hr6:=Bt hr6
  refine ah<|xM F rf rf rf fun _ F=>xM F rf rf rf fun _ F=>xM F rf rf rf fun _ F=>
   kz F rf (bD (i:=m) rfl (F.u rf) (F.u rf) (by omega) zM j6) fun _ F=>
   kz F rf (gV [.int .i64 x.1.kind,.int .u64 x.1.src.a,.int .u64 x.1.src.b,.int .u64 x.1.src.c,.int .u64 x.1.src.d,.int .u64 x.1.tgt.a,.int .u64 x.1.tgt.b,.int .u64 x.1.tgt.c,.int .u64 x.1.tgt.d,.bool x.1.self,.int .i64 x.1.cls,.int .u32 x.1.perms,.int .i64 x.1.cond,.slice (some ⟨gx,0,none⟩) 1 1] rfl (F.u rf) IZ rfl j6 (dH M.below hr6)) fun _ F=>
   kc (on rfl) (Gp rfl (F.u rf) Tryz.func153 (by kernel_rfl) rfl (args:=#[.agg #[.int .i64 x.1.kind,.int .u64 x.1.src.a,.int .u64 x.1.src.b,.int .u64 x.1.src.c,.int .u64 x.1.src.d,.int .u64 x.1.tgt.a,.int .u64 x.1.tgt.b,.int .u64 x.1.tgt.c,.int .u64 x.1.tgt.d,.bool x.1.self,.int .i64 x.1.cls,.int .u32 x.1.perms,.int .i64 x.1.cond,.slice (some ⟨gx,0,none⟩) 1 1],.pointer (some ⟨bx,0,none⟩)]) (by simp[(F.e 15 rfl)])) (VP _ x (V1 x (awz hx)) gx (awy M.below (by simpa using hwx.cell 0)) bx base lv l (Whole.under M.below Zn Zn.lt) (hL.keep M.below) hcl hok) rfl F rfl M fun _ _ F M=>
   awC<|
   xK _ _ ?_
  refine awE (F.e 16 rfl) (fun hc3=>?_) (fun hc3=>?_)
  ·have V6:(f_ x l)=false:=by simpa using hc3
   have Zd:(!f_ x l)=true:=hc3;refine awB fun K9 zf=>ah<|xM F rf rf rf fun _ F=>xA F rf rf rf fun _ F=>awC<|zf _ _ ?_
   refine wp_ret<|bJ _ _ _ _ F rfl ?_;exact⟨dG (NM hx hI Zd),M.below⟩
  ·have TL:(f_ x l)=true:=by simpa using hc3
   have Zd:(!f_ x l)=false:=hc3;refine wp_skip<|pT _ _ ?_
   refine ah<|
    ke (on rfl) (eX rfl (F.u rf) rfl) rfl F rfl (congrArg (Value.int .i64) (wrap_i64 (by omega))) fun _ F=>
    xM F rf rf rf fun _ F=>
    awC<|?_
   exact⟨m+1,⟨F.sub ⟨rfl,rfl,rfl,rfl,trivial⟩,M,by omega,NK hx hI Zd⟩,by show a1.length-(m+1)<a1.length-m;omega⟩
 ·have hd6:=of_decide_eq_false hc1;refine wp_exit<|iy _ _ ?_;refine awB fun Xy lZ=>ah<|xA (v:=.int .i64 (-1)) F rf rf rf fun _ F=>awC<|lZ _ _ ?_
  refine wp_ret<|bJ _ _ _ _ F rfl ?_;exact⟨dG (Kh (by omega) hI),M.below⟩
theorem VO(w0:World)(bx base:Nat)(lv:Value)(l:List (aj×Int))(Zn:Whole w0 bx 141 #[lv])(hL:gI w0 base lv l)(hcl:l.length≤1000)(hok:∀ y∈l,y.1.Ok)(av:Value)(a1:List (aj×Int))(hA:gI w0 base av a1)(hca:a1.length≤1000)(V1:∀ y∈a1,y.1.Ok):Calls Tryz.prog 152 #[av,.func (.func 153) #[] #[.pointer (some ⟨bx,0,none⟩)]] w0 (fun(r:Ending) (w':World)=>r=.returned (.bool (a1.any fun x=>!f_ x l))∧aww w0.heap.size w0 w'):=by
 have bJ:=hr1 Tryz.prog Tryz.f152 (fun(r:Ending) (w':World)=>r=.returned (.bool (a1.any fun x=>!f_ x l))∧aww w0.heap.size w0 w') 9 4 rfl;refine en Tryz.func152 rfl Tryz.ntmps152 rfl (vs:=[av,.func (.func 153) #[] #[.pointer (some ⟨bx,0,none⟩)]]) rfl fun _ F=>?_
 have M:=Mm.start w0;refine awB fun K1 gU=>ah<|xA (v:=.bool false) F rf rf rf fun _ F=>awC<|gU _ _ ?_
 refine awB fun K2 iy=>ah<|xM F rf rf rf fun _ F=>xM F rf rf rf fun _ F=>xC F M rf rf aiw (args2 (F.u rf) (F.u rf)) (VN _ bx base lv l (Whole.under M.below Zn Zn.lt) (hL.keep M.below) hcl hok av a1 (hA.keep M.below) hca V1) fun _ _ F M=>kz F rf (Ks rfl (F.u rf) rfl) fun _ F=>xA F rf rf rf fun _ F=>awC<|iy _ _ ?_
 refine wp_ret<|bJ _ _ _ _ F rfl ?_;exact⟨aH CB,M.below⟩
theorem uX(w0:World)(base:Nat)(lv:Value)(l:List (aj×Int))(hL:gI w0 base lv l)(hcl:l.length≤1000)(hok:∀ y∈l,y.1.Ok)(av:Value)(a1:List (aj×Int))(hA:gI w0 base av a1)(hca:a1.length≤1000)(V1:∀ y∈a1,y.1.Ok):Calls Tryz.prog 79 #[av,lv] w0 (fun(r:Ending) (w':World)=>r=.returned (.bool (uY a1 l))∧aww w0.heap.size w0 w'):=by
 obtain⟨iu,iq,rfl,hk5,hm5,Ny⟩:=aC.form hL (by decide);have bJ:=hr1 Tryz.prog Tryz.f79 (fun(r:Ending) (w':World)=>r=.returned (.bool (uY a1 l))∧aww w0.heap.size w0 w') 9 4 rfl;refine en Tryz.func79 rfl Tryz.ntmps79 rfl (vs:=[av,.slice iu l.length iq]) rfl fun _ F=>?_
 have M:=Mm.start w0;refine awB fun K1 gU=>ah<|kb1 (on rfl) rfl (F.u rf) rfl rfl F rfl M fun g1 _ _ F M=>xA (v:=.bool false) F rf rf rf fun _ F=>awC<|gU _ _ ?_
 refine awB fun K2 iy=>ah<|xM F rf rf rf fun _ F=>
  kz F rf (ZG (cap:=#[.pointer (some ⟨g1,0,none⟩)]) rfl (by simp[(F.e 3 rfl)])) fun _ F=>
  xC F M rf rf aiz (args2 (F.u rf) (F.u rf)) (VO _ g1 base _ l (M.b 0 rfl) (hL.keep M.below) hcl hok av a1 (hA.keep M.below) hca V1) fun _ _ F M=>
  kz F rf (pN rfl (F.u rf)) fun _ F=>
  xA F rf rf rf fun _ F=>
  awC<|
  iy _ _ ?_
 refine wp_ret<|bJ _ _ _ _ F rfl ?_;exact⟨aH (Y4 a1 l),M.below⟩
theorem St.adf{w w':World}{mb:Nat}(h:St [mb] w w'):w.grownBy w' (some mb):=⟨h.os,h.tape,h.output,h.size,fun k hk hne=>h.block k hk fun e=>hne (congrArg some (awH.1 e))⟩
theorem aW.I3{B:Nat}{w0 w w':World}{bs:List Bx}{rs:List Rw}(M:aW B w0 w bs rs)(i:Nat){mb:Nat}{L L':List (Int×Value)}(hi:bs[i]?=some (mb,9003,eF L))(h:St [mb] w w')(hM:aV w' Tryz.prog 3 mb (L'.map ival)):aW B w0 w' (bs.set i (mb,9003,eF L')) rs:=
 M.turn i hi rfl h.adf (mU hM) fun _ _ h2=>gM h2 (M.map i hi)
def Di(w:World)(base:Nat)(L:List (Int×Value))(act:Int→Int):Prop:=∀ k v,jU L k=some v→bT w base v (act k)
theorem Di.old{w w':World}{base:Nat}{L:List (Int×Value)}{act:Int→Int}(h:Di w base L act)(ho:∀ g cs,Whole w g 52 cs→Whole w' g 52 cs):Di w' base L act:=fun k v hv=>by
 obtain⟨g,e,h1,h2⟩:=h k v hv;exact⟨g,e,ho _ _ h1,h2⟩
theorem Di.nil(w:World)(base:Nat)(act:Int→Int):Di w base [] act:=fun k v hv=>by cases hv
theorem cG.old{α:Type}{w w':World}{base:Nat}{N:List ((α×Int)×Nat)}(h:cG w base N)(ho:∀ g cs,Whole w g 52 cs→Whole w' g 52 cs):cG w' base N:=fun z hz=>⟨ho _ _ (h z hz).1,(h z hz).2⟩
theorem cG.nil{α:Type}(w:World)(base:Nat):cG w base ([]:List ((α×Int)×Nat)):=fun z hz=>by cases hz
def Ea(z:(bV×Int)×Nat):List Value:=z.1.1.cells
def sw{α:Type}(z:(α×Int)×Nat):List Value:=[.slice (some ⟨z.2,0,none⟩) 1 1]
def DA(u:Int)(n:Nat)(conds:List aA)(y:bV):Option (bV×Int):=if ez u n conds y.cond=0 then none else some ({ y with cond:=0 },ez u n conds y.cond)
theorem abN{u:Int}{n m:Nat}{conds:List aA}{l:List bV}{N:List ((bV×Int)×Nat)}{y:bV}(hy:l[m]?=some y)(h:N.map (·.1)=(l.take m).filterMap (DA u n conds))(hq:decide (ez u n conds y.cond=0)=true):N.map (·.1)=(l.take (m+1)).filterMap (DA u n conds):=by
 rw[bn hy,awT,← h];simp[DA,of_decide_eq_true hq]
theorem Ya{u:Int}{n m g:Nat}{conds:List aA}{l:List bV}{N:List ((bV×Int)×Nat)}{y:bV}(hy:l[m]?=some y)(h:N.map (·.1)=(l.take m).filterMap (DA u n conds))(hq:decide (ez u n conds y.cond=0)=false):(N++[((({ y with cond:=0 }:bV),ez u n conds y.cond),g)]).map (fun z:(bV×Int)×Nat=>z.1)=(l.take (m+1)).filterMap (DA u n conds):=by
 rw[bn hy,awT,awQ,← h];simp[DA,of_decide_eq_false hq]
theorem pJ(w0:World)(c0 c1 c2 c3 c4 c5 c6 c7 c8 c9 aR aO aN aQ aM aL aP:Value)(p:aF)(hp:aK w0 c0 c1 c2 c3 c4 c5 c6 c7 c8 c9 aR aO aN aQ aM aL aP p)(hok:p.Ok)(hn:p.bools.length≤5)(hcl:p.conds.length≤1000)(ajS:p.trans.length≤4096):Calls Tryz.prog 73 #[.agg #[c0,c1,c2,c3,c4,c5,c6,c7,c8,c9,aR,aO,aN,aQ,aM,aL,aP]] w0 (fun(r:Ending) (w':World)=>∃ v,r=.returned v∧((∃ v1 v2,∃ N:List ((bV×Int)×Nat),v=.tuple #[v1,v2]∧N.map (·.1)=p.trans.filterMap (DA (aZ p.bools.length) p.bools.length p.conds)∧w'.ownsRow w0.heap.size 84 13 v1 N.length (N.flatMap Ea)∧w'.ownsRow w0.heap.size 139 1 v2 N.length (N.flatMap sw)∧cG w' w0.heap.size N)∧aww w0.heap.size w0 w')):=by
 obtain⟨iu,iq,rfl,hk5,hm5,Ny⟩:=SliceAt.form hp.bools (by decide);obtain⟨RR,RL,rfl,aqF,afS,Zk⟩:=SliceAt.form hp.trans (by decide);have bJ:=Nu Tryz.prog Tryz.f73 (fun(r:Ending) (w':World)=>∃ v,r=.returned v∧((∃ v1 v2,∃ N:List ((bV×Int)×Nat),v=.tuple #[v1,v2]∧N.map (·.1)=p.trans.filterMap (DA (aZ p.bools.length) p.bools.length p.conds)∧w'.ownsRow w0.heap.size 84 13 v1 N.length (N.flatMap Ea)∧w'.ownsRow w0.heap.size 139 1 v2 N.length (N.flatMap sw)∧cG w' w0.heap.size N)∧aww w0.heap.size w0 w')) 37 2 3 rfl;refine en Tryz.func73 rfl Tryz.ntmps73 rfl (vs:=[.agg #[c0,c1,c2,c3,c4,.slice iu p.bools.length iq,c6,c7,c8,c9,.slice RR p.trans.length RL,aO,aN,aQ,aM,aL,aP]]) rfl fun _ F=>?_
 have M:=Mm.start w0;refine awB fun K1 gU=>ah<|Ig (on rfl) rfl (F.u rf) rfl F rfl M fun g1 _ _ F M=>xA (v:=.slice none 0 0) F rf rf rf fun _ F=>xA (v:=.slice none 0 0) F rf rf rf fun _ F=>awC<|gU _ _ ?_
 refine awB fun K2 iy=>ah<|xW F (M.b 0 rfl) rf rf rf OW rf Bh rf fun _ F=>kx (on rfl) (fL rfl Tryz.func148 aaC rfl (args1 (F.u rf))) (nA _ _ _ _ _ _ _ _ _ _ _ _ _ _ _ _ _ iu p.bools.length iq hn) rfl F rfl M fun tv _ _ hR hB F _=>?_
 obtain⟨tp,mb,rfl,Dr,hMb,acL,acN⟩:=hR;have M:=M.FP hB (b1:=(tp,304,#[c0,c1,c2,c3,c4,.slice iu p.bools.length iq,c6,c7,c8,c9,.slice RR p.trans.length RL,aO,aN,aQ,aM,aL,aP,.int .i64 1,.int .u64 (aZ p.bools.length),(.map (some mb))])) (.inl ⟨rfl,Dr⟩) acL (b2:=(mb,9003,eF [])) (mU hMb) acN (gM Dr hMb);refine xA F rf rf rf fun _ F=>awC<|iy _ _ ?_
 refine awB fun K3 nE=>?_
 have M:=M.bM 84 13;refine ah<|xA (v:=.slice none 0 0) F rf rf rf fun _ F=>awC<|nE _ _ ?_
 refine awB fun K4 ox=>?_
 have M:=M.bM 139 1;refine ah<|xA (v:=.slice none 0 0) F rf rf rf fun _ F=>awC<|ox _ _ ?_
 refine awB fun K5 ow=>awB fun K6 pT=>ah<|xF 10 F rf rf rf OW rf aik rf fun _ F=>xL F (M.b 2 rfl) rf rf rf u31 rf rf fun _ F=>kz F rf (fK rfl (F.u rf) u31) fun _ F=>xM (v:=.int .i64 0) F rf rf rf fun _ F=>awC<|pT _ _ ?_
 refine awD<|?_;refine eH (ι:=Nat×Value×Value×List ((bV×Int)×Nat)×List (Int×Value)) (fun|(m,v,v2,N,L),a,w=>Fs a 37 [(4,.pointer (some ⟨tp,0,none⟩)),(5,v),(6,v2),(13,.slice RR p.trans.length RL),(14,.int .i64 (p.trans.length:Int)),(15,.int .i64 (m:Int))]∧Mm w0 w [(tp,304,#[c0,c1,c2,c3,c4,.slice iu p.bools.length iq,c6,c7,c8,c9,.slice RR p.trans.length RL,aO,aN,aQ,aM,aL,aP,.int .i64 1,.int .u64 (aZ p.bools.length),(.map (some mb))]),(mb,9003,eF L)] [⟨v2,139,1,N.length,N.flatMap sw⟩,⟨v,84,13,N.length,N.flatMap Ea⟩]∧m≤p.trans.length∧N.map (·.1)=(p.trans.take m).filterMap (DA (aZ p.bools.length) p.bools.length p.conds)∧cG w w0.heap.size N∧Di w w0.heap.size L (ez (aZ p.bools.length) p.bools.length p.conds)) (fun|(m,v,v2,N,L)=>p.trans.length-m) (0,.slice none 0 0,.slice none 0 0,[],[]) ⟨F.sub ⟨rfl,rfl,rfl,rfl,rfl,rfl,trivial⟩,M.only (.cons_cons _ (.cons_cons _ (.cons _ .slnil))) (.cons_cons _ (.cons_cons _ .slnil)),awx _,rfl,cG.nil _ _,Di.nil _ _ _⟩ ?_
 (repeat clear F);(repeat clear M)
 rintro⟨m,v,v2,N,L⟩ _ _ ⟨F,M,hm,DG,hN,hL⟩;have MR:=M;have M:=M.FH;refine awB fun K7 rS=>ah<|kz F rf (jo rfl (F.u rf) (F.u rf)) fun _ F=>awC<|rS _ _ ?_
 refine awB fun K8 xK=>?_
 refine awE (F.e 16 rfl) (fun hc2=>?_) (fun hc2=>?_)
 ·have hd3:=of_decide_eq_true hc2;refine wp_skip<|xK _ _ ?_;refine awB fun K9 zf=>awD<|awB fun Xy lZ=>?_
  have hlt:m<p.trans.length:=by omega
  obtain⟨y,hy⟩:∃ y,p.trans[m]?=some y:=⟨_,awA hlt⟩;obtain⟨b10,aiI,rfl,aaQ⟩:=Zk m hlt
  have afJ:∀ j uu,[.int .i64 y.kind,.int .u64 y.src.a,.int .u64 y.src.b,.int .u64 y.src.c,.int .u64 y.src.d,.int .u64 y.tgt.a,.int .u64 y.tgt.b,.int .u64 y.tgt.c,.int .u64 y.tgt.d,.int .i64 y.cls,.string y.name,.int .i64 y.res,.int .i64 y.cond][j]?=some uu→w0.cell? ⟨b10,aiI+m*13+j,none⟩=some uu:=fun j u hu=>aaQ j u (by
   rw[cE bV.eG hy j (awO.1 hu).1];exact hu)
  clear aaQ;have qB:=hok.trans y (awz hy);have hct:p.trans.length≤4096:=ajS
  refine ah<|
   kz F rf (bD (i:=m) rfl (F.u rf) (F.u rf) (by omega) u31 UA) fun _ F=>
   kz F rf (gV [.int .i64 y.kind,.int .u64 y.src.a,.int .u64 y.src.b,.int .u64 y.src.c,.int .u64 y.src.d,.int .u64 y.tgt.a,.int .u64 y.tgt.b,.int .u64 y.tgt.c,.int .u64 y.tgt.d,.int .i64 y.cls,.string y.name,.int .i64 y.res,.int .i64 y.cond] rfl (F.u rf) u84 rfl UA (dH (MR.below.trans M.below) afJ)) fun _ F=>
   JU (on rfl) rfl Qq rfl F rfl M fun g4 _ _ F M=>
   Ld (on rfl) rfl (F.u rf) (F.u rf) F M 0 rfl UA rfl rfl rfl fun _ M=>
   awC<|
   lZ _ _ ?_
  refine awB fun K11 qH=>ah<|xM F rf rf rf fun _ F=>xF 12 F rf rf rf u84 rf UC rf fun _ F=>xL F (M.b 0 rfl) rf rf rf u3 rf rf fun _ F=>kt (on rfl) (fL rfl Tryz.func149 Vh rfl (args2 (F.u rf) (F.u rf))) (tZ _ w0.heap.size tp mb _ _ _ _ _ _ _ _ _ _ _ _ _ _ _ _ iu p.bools.length iq (aZ p.bools.length) p.conds hn (hp.conds.keep (MR.below.trans M.below)) hcl y.cond (hok.trans y (awz hy)).cond ⟨M.b 1 rfl,⟨_,M.map 2 rfl,hL.old M.old⟩,⟨M.lo _ (awz (i:=1) rfl),M.lo _ (awz (i:=2) rfl)⟩⟩) rfl F rfl fun v9 _ w9 hR F=>?_
  obtain⟨⟨gs,rfl,hws,hls⟩,⟨aj1,⟨L9,PJ,hL9⟩,-⟩,TP⟩:=hR;have M:=M.I3 2 rfl TP PJ;have hN:=hN.old M.old;have MR:=MR.comp M;have M:=M.FH;have hL:Di _ _ _ _:=hL9;refine xA F rf rf rf fun _ F=>awC<|qH _ _ ?_
  refine awB fun K12 pR=>awB fun K13 pQ=>ah<|xM F rf rf rf fun _ F=>
   xC F M rf rf aiA (args1 (F.u rf)) (BN _ gs 1 _ (by simpa using(M.old _ _ hws).cell 0)) fun _ _ F M=>
   awC<|
   pQ _ _ ?_
  refine awE (F.e 24 rfl) (fun hc5=>?_) (fun hc5=>?_)
  ·have hd6:=of_decide_eq_true hc5;have Zd:decide (ez (aZ p.bools.length) p.bools.length p.conds y.cond=0)=true:=hc5;refine wp_exit<|zf _ _ ?_
   refine ah<|
    ke (on rfl) (eX rfl (F.u rf) rfl) rfl F rfl (congrArg (Value.int .i64) (wrap_i64 (by omega))) fun _ F=>
    xM F rf rf rf fun _ F=>
    awC<|?_
   exact⟨(m+1,v,v2,N,L9),⟨F.sub ⟨rfl,rfl,rfl,rfl,rfl,rfl,trivial⟩,MR.comp (M.only (.cons _ (.cons_cons _ (.cons_cons _ .slnil))) (.cons_cons _ (.cons_cons _ .slnil))),by omega,abN hy DG Zd,hN.old M.old,hL.old M.old⟩,by show p.trans.length-(m+1)<p.trans.length-m;omega⟩
  ·have hd7:=of_decide_eq_false hc5;have Zd:decide (ez (aZ p.bools.length) p.bools.length p.conds y.cond=0)=false:=hc5;refine wp_skip<|pR _ _ ?_;refine awB fun K14 tO=>ah<|xF 12 F rf rf rf u84 rf UC rf fun _ F=>ks (on rfl) rfl (F.u rf) rfl F M 0 (cs':=#[.int .i64 y.kind,.int .u64 y.src.a,.int .u64 y.src.b,.int .u64 y.src.c,.int .u64 y.src.d,.int .u64 y.tgt.a,.int .u64 y.tgt.b,.int .u64 y.tgt.c,.int .u64 y.tgt.d,.int .i64 y.cls,.string y.name,.int .i64 y.res,.int .i64 0]) rfl rfl rfl UC rfl rfl rfl rfl fun _ M=>awC<|tO _ _ ?_
   have hlN:N.length≤4096:=by
    have h:=congrArg List.length DG;rw[awN] at h;rw[h];exact awF (List.length_filterMap_le _ _) (awF (List.length_take_le _ _) (awF (Nat.le_of_lt hlt) hct))
   refine ah<|xM F rf rf rf fun _ F=>xW F (M.b 0 rfl) rf rf rf u84 rf UA rf fun _ F=>
    kl (on rfl) rfl u31 UA Qq rfl (pv:=#[(0,.agg #[.int .i64 y.kind,.int .u64 y.src.a,.int .u64 y.src.b,.int .u64 y.src.c,.int .u64 y.src.d,.int .u64 y.tgt.a,.int .u64 y.tgt.b,.int .u64 y.tgt.c,.int .u64 y.tgt.d,.int .i64 y.cls,.string y.name,.int .i64 y.res,.int .i64 0])]) (by simp[(F.e 27 rfl)]) (cells:=#[.int .i64 y.kind,.int .u64 y.src.a,.int .u64 y.src.b,.int .u64 y.src.c,.int .u64 y.src.d,.int .u64 y.tgt.a,.int .u64 y.tgt.b,.int .u64 y.tgt.c,.int .u64 y.tgt.d,.int .i64 y.cls,.string y.name,.int .i64 y.res,.int .i64 0]) (by kernel_rfl) rfl F rfl M fun g8 _ _ F M=>
    kp (on rfl) rfl u31 afw rfl M 1 rfl (F.u rf) (F.u rf) (M.slice 0 rfl rfl rfl (by simp[maxLen])) ⟨by unfold maxLen;omega,by omega⟩ rfl F rfl fun v9 _ _ F M=>
    xM F rf rf rf fun _ F=>
    xM F rf rf rf fun _ F=>
    xS F M rf rf rf aeQ aeU aeD rf rf fun g10 _ _ F M=>
    kp (on rfl) rfl aeQ acw rfl M 0 rfl (F.u rf) (F.u rf) (M.slice 0 rfl rfl rfl (by simp[maxLen])) ⟨by unfold maxLen;omega,by omega⟩ rfl F rfl fun v11 _ _ F M=>
    xA F rf rf rf fun _ F=>
    xA F rf rf rf fun _ F=>
    awC<|
    zf _ _ ?_
   refine ah<|
    ke (on rfl) (eX rfl (F.u rf) rfl) rfl F rfl (congrArg (Value.int .i64) (wrap_i64 (by omega))) fun _ F=>
    xM F rf rf rf fun _ F=>
    awC<|?_
   exact⟨(m+1,v9,v11,N++[(({ y with cond:=0 },ez (aZ p.bools.length) p.bools.length p.conds y.cond),gs)],L9),⟨F.sub ⟨rfl,rfl,rfl,rfl,rfl,rfl,trivial⟩,(MR.comp (M.only (.cons _ (.cons _ (.cons _ (.cons_cons _ (.cons_cons _ .slnil))))) (.cons_cons _ (.cons_cons _ .slnil)))).cast rfl (by rw[awR,awS,awS];rfl),by omega,Ya hy DG Zd,(hN.old M.old).snoc (M.old _ _ hws) hls,hL.old M.old⟩,by show p.trans.length-(m+1)<p.trans.length-m;omega⟩
 ·have aqP:=of_decide_eq_false hc2;refine wp_exit<|ow _ _ ?_;refine awB fun K15 rT=>ah<|xM F rf rf rf fun _ F=>xM F rf rf rf fun _ F=>xA F rf rf rf fun _ F=>xA F rf rf rf fun _ F=>awC<|rT _ _ ?_
  refine wp_ret<|bJ _ _ _ _ _ F rfl rfl ?_;exact⟨_,rfl,⟨_,_,N,rfl,(by rw[DG,List.take_of_length_le (by omega)]),M.r 1 rfl,M.r 0 rfl,hN⟩,(MR.below.trans M.below)⟩
section
variable {P:Program} {ops:Array Oper} {Q':Exit→Act→World→Prop} {a:Act} {w:World} {o:Oper} {d N:Nat} {g:Good}
theorem dxS{S:World→World→Prop}(hw:Region.wanted o (yielded ops a.tmps)=true){f:FuncId}{args:Array Value}(hr:(execOp a.eval o).run P w=.ok (.enter f args) w)
 (hc:Calls P f args w fun e w'=>∃ v,e=.returned v∧(g v w'∧S w w')) (hd:o.dst=some d) (hf:Fr a N) (hN:Nat.blt d N=true)
 (hE:∀ v a' w',S w w'→g v w'→Put a (o.dst.getD 0) v a'→Q' .normal a' w'):wpList P ops Q' [o] a w:=
 kN hw hr hc hd hf (by simpa using hN) fun u a' w' h p=>awC (hE u a' w' h.2 h.1 (by rw[hd];exact p))
end
def H8(base tp mb:Nat)(c0 c1 c2 c3 c4 c5 c6 c7 c8 c9 aR aO aN aQ aM aL aP:Value)(u:Int)(act:Int→Int)(w w':World):Prop:=St [mb] w w'∧(fV w base tp mb c0 c1 c2 c3 c4 c5 c6 c7 c8 c9 aR aO aN aQ aM aL aP u act→fV w' base tp mb c0 c1 c2 c3 c4 c5 c6 c7 c8 c9 aR aO aN aQ aM aL aP u act)
section
variable {base tp mb:Nat} {c0 c1 c2 c3 c4 c5 c6 c7 c8 c9 aR aO aN aQ aM aL aP:Value} {u:Int} {act:Int→Int}
theorem LZ(w w':World)(h:aww w.heap.size w w'):H8 base tp mb c0 c1 c2 c3 c4 c5 c6 c7 c8 c9 aR aO aN aQ aM aL aP u act w w':=⟨iD _ _ _ h,fun hT=>hT.keep h⟩
theorem LY(a b c:World)(h:H8 base tp mb c0 c1 c2 c3 c4 c5 c6 c7 c8 c9 aR aO aN aQ aM aL aP u act a b)(k:H8 base tp mb c0 c1 c2 c3 c4 c5 c6 c7 c8 c9 aR aO aN aQ aM aL aP u act b c):H8 base tp mb c0 c1 c2 c3 c4 c5 c6 c7 c8 c9 aR aO aN aQ aM aL aP u act a c:=⟨gi _ _ _ _ h.1 k.1,fun hT=>k.2 (h.2 hT)⟩
def Qj(base mb:Nat)(x:Int):Good:=fun v u=>∃ g,v=.slice (some ⟨g,0,none⟩) 1 1∧Whole u g 52 #[.int .u64 x]∧base≤g∧g≠mb
def ag2(base mb:Nat)(y:aj)(x:Int):Good:=fun v u=>∃ g,v=.agg #[.int .i64 y.kind,.int .u64 y.src.a,.int .u64 y.src.b,.int .u64 y.src.c,.int .u64 y.src.d,.int .u64 y.tgt.a,.int .u64 y.tgt.b,.int .u64 y.tgt.c,.int .u64 y.tgt.d,.bool y.self,.int .i64 y.cls,.int .u32 y.perms,.int .i64 y.cond,.slice (some ⟨g,0,none⟩) 1 1]∧Whole u g 52 #[.int .u64 x]∧base≤g∧g≠mb
def SlG(ws:World)(base mb:Nat)(y:aj)(x:Int):Good:=fun v u=>∃ b g,v=.slice (some ⟨b,0,none⟩) 1 1∧Whole u b 146 #[.int .i64 y.kind,.int .u64 y.src.a,.int .u64 y.src.b,.int .u64 y.src.c,.int .u64 y.src.d,.int .u64 y.tgt.a,.int .u64 y.tgt.b,.int .u64 y.tgt.c,.int .u64 y.tgt.d,.bool y.self,.int .i64 y.cls,.int .u32 y.perms,.int .i64 y.cond,.slice (some ⟨g,0,none⟩) 1 1]∧ws.heap.size≤b∧b≠mb∧Whole u g 52 #[.int .u64 x]∧base≤g∧g≠mb
theorem Sp{g mb:Nat}(h:g≠mb):g∉[mb]:=fun e=>h (awH.1 e)
theorem Na{base':Nat}{x:Int}:yu (H8 base tp mb c0 c1 c2 c3 c4 c5 c6 c7 c8 c9 aR aO aN aQ aM aL aP u act) (Qj base' mb x):=fun _ _ _ ⟨g,e,h,k,n⟩ hS=>⟨g,e,hS.1.whole h (Sp n),k,n⟩
theorem RQ{base':Nat}{x:Int}{y:aj}:yu (H8 base tp mb c0 c1 c2 c3 c4 c5 c6 c7 c8 c9 aR aO aN aQ aM aL aP u act) (ag2 base' mb y x):=fun _ _ _ ⟨g,e,h,k,n⟩ hS=>⟨g,e,hS.1.whole h (Sp n),k,n⟩
theorem Vw{ws:World}{base':Nat}{x:Int}{y:aj}:yu (H8 base tp mb c0 c1 c2 c3 c4 c5 c6 c7 c8 c9 aR aO aN aQ aM aL aP u act) (SlG ws base' mb y x):=fun _ _ _ ⟨b,g,e,h1,k1,n1,h,k,n⟩ hS=>⟨b,g,e,hS.1.whole h1 (Sp n1),k1,n1,hS.1.whole h (Sp n),k,n⟩
theorem XU{w:World}{v:Value}{x:Int}(h:bT w base v x)(hT:fV w base tp mb c0 c1 c2 c3 c4 c5 c6 c7 c8 c9 aR aO aN aQ aM aL aP u act):Qj base mb x v w:=by
 obtain⟨g,e,hw,hl⟩:=h;obtain⟨-,⟨L,hM,-⟩,-⟩:=hT;exact⟨g,e,hw,hl,gM hw hM⟩
end
theorem aW.adT{B:Nat}{w0 w:World}{bs:List Bx}{rs:List Rw}(M:aW B w0 w bs rs){g:Nat}{t:TypeId}{cs:Array Value}(h:Whole w g t cs)(hB:B≤g)(hf:∀ b∈bs,b.1≠g)(hr:∀ r∈rs,r.v.ownBlock≠some g)(ht:Nat.blt t 9000=true:=by rfl):aW B w0 w ((g,t,cs)::bs) rs:=by
 refine⟨M.below,M.le,M.old,?_,?_,?_,M.row,?_,M.vX⟩
 ·intro b hb;rcases awL.1 hb with rfl|hb
  ·exact .inl ⟨ht,h⟩
  ·exact M.box b hb
 ·intro b hb;rcases awL.1 hb with rfl|hb
  ·exact hB
  ·exact M.lo b hb
 ·rw[List.map_cons,List.nodup_cons];refine⟨fun h=>?_,M.nd⟩;obtain⟨b,hb,e⟩:=awM.1 h;exact hf b hb e
 ·intro r hr' b hb;rcases awL.1 hb with rfl|hb
  ·exact hr r hr'
  ·exact M.far r hr' b hb
theorem aW.X_{B:Nat}{w0 w w':World}{bs:List Bx}{rs:List Rw}(M:aW B w0 w bs rs)(i:Nat){mb:Nat}{L L':List (Int×Value)}(hi:bs[i]?=some (mb,9003,eF L))(h:St [mb] w w')(hM:aV w' Tryz.prog 3 mb (L'.map ival))
 {g:Nat} {t:TypeId} {cs:Array Value} (hg:Whole w' g t cs) (hs:w.heap.size≤g) (ht:Nat.blt t 9000=true:=by rfl):aW B w0 w' ((g,t,cs)::bs.set i (mb,9003,eF L')) rs:=by
 refine(M.I3 i hi h hM).adT hg (awF M.big hs) (fun b hb=>?_) (fun r hr e=>?_) ht
 ·rcases List.mem_or_eq_of_mem_set hb with hb|rfl
  ·have:=(M.box b hb).lt;omega
  ·have:=(M.box _ (awz hi)).lt;simp only at this ⊢;omega
 ·have:=((M.row r hr).lt g e).2;omega
theorem Mi{u:Int}{n m g:Nat}{conds:List aA}{l:List aj}{N:List ((aj×Int)×Nat)}{y:aj}(hy:l[m]?=some y)(h:N.map (·.1)=(l.take m).map fun y=>(y,ez u n conds (DH y))):(N++[((y,ez u n conds (DH y)),g)]).map (fun z:(aj×Int)×Nat=>z.1)=(l.take (m+1)).map fun y=>(y,ez u n conds (DH y)):=by
 rw[bn hy,awQ,awQ,← h];simp
theorem Sg(w0:World)(base tp mb:Nat)(c0 c1 c2 c3 c4 c6 c7 c8 c9 aR aO aN aQ aM aL aP:Value)(iu:Option Addr)(nB iq:Nat)(u:Int)(conds:List aA)(hn:nB≤5)(hE:mG w0 c8 conds)(hcl:conds.length≤1000)(q:aj)(hk:iX q.cond)(hTT:fV w0 base tp mb c0 c1 c2 c3 c4 (.slice iu nB iq) c6 c7 c8 c9 aR aO aN aQ aM aL aP u (ez u nB conds)):Calls Tryz.prog 151 #[.pointer (some ⟨tp,0,none⟩),.agg #[.int .i64 q.kind,.int .u64 q.src.a,.int .u64 q.src.b,.int .u64 q.src.c,.int .u64 q.src.d,.int .u64 q.tgt.a,.int .u64 q.tgt.b,.int .u64 q.tgt.c,.int .u64 q.tgt.d,.bool q.self,.int .i64 q.cls,.int .u32 q.perms,.int .i64 q.cond]] w0 (fun(r:Ending) (w':World)=>∃ v,r=.returned v∧(Qj base mb (ez u nB conds (DH q)) v w'∧H8 base tp mb c0 c1 c2 c3 c4 (.slice iu nB iq) c6 c7 c8 c9 aR aO aN aQ aM aL aP u (ez u nB conds) w0 w')):=
 (Sh w0 base tp mb _ _ _ _ _ _ _ _ _ _ _ _ _ _ _ _ iu nB iq u conds hn hE hcl q hk hTT).mono fun _ _ ⟨v,e,h1,h2,h3⟩=>⟨v,e,XU h1 h2,h3,fun _=>h2⟩
theorem BW(w0:World)(c0 c1 c2 c3 c4 c5 c6 c7 c8 c9 aR aO aN aQ aM aL aP:Value)(p:aF)(hp:aK w0 c0 c1 c2 c3 c4 c5 c6 c7 c8 c9 aR aO aN aQ aM aL aP p)(hok:p.Ok)(hn:p.bools.length≤5)(hcl:p.conds.length≤1000)(hcr:p.rules.length≤4096):Calls Tryz.prog 78 #[.agg #[c0,c1,c2,c3,c4,c5,c6,c7,c8,c9,aR,aO,aN,aQ,aM,aL,aP]] w0 (fun(r:Ending) (w':World)=>∃ v,r=.returned v∧((∃ N:List ((aj×Int)×Nat),N.map (·.1)=(p.rules.map fun y=>(y,(ez (aZ p.bools.length) p.bools.length p.conds (DH y))))∧w'.ownsRow w0.heap.size 146 14 v N.length (N.flatMap mV)∧cG w' w0.heap.size N)∧aww w0.heap.size w0 w')):=by
 obtain⟨iu,iq,rfl,hk5,hm5,Ny⟩:=SliceAt.form hp.bools (by decide);obtain⟨YW,Vt,rfl,hk9,hm9,V7⟩:=SliceAt.form hp.rules (by decide);have bJ:=hr1 Tryz.prog Tryz.f78 (fun(r:Ending) (w':World)=>∃ v,r=.returned v∧((∃ N:List ((aj×Int)×Nat),N.map (·.1)=(p.rules.map fun y=>(y,(ez (aZ p.bools.length) p.bools.length p.conds (DH y))))∧w'.ownsRow w0.heap.size 146 14 v N.length (N.flatMap mV)∧cG w' w0.heap.size N)∧aww w0.heap.size w0 w')) 26 2 rfl;refine en Tryz.func78 rfl Tryz.ntmps78 rfl (vs:=[.agg #[c0,c1,c2,c3,c4,.slice iu p.bools.length iq,c6,c7,c8,.slice YW p.rules.length Vt,aR,aO,aN,aQ,aM,aL,aP]]) rfl fun _ F=>?_
 have M:=Mm.start w0;refine awB fun K1 gU=>ah<|Ig (on rfl) rfl (F.u rf) rfl F rfl M fun g1 _ _ F M=>xA (v:=.slice none 0 0) F rf rf rf fun _ F=>awC<|gU _ _ ?_
 refine awB fun K2 iy=>ah<|xW F (M.b 0 rfl) rf rf rf OW rf Bh rf fun _ F=>kx (on rfl) (fL rfl Tryz.func148 aaC rfl (args1 (F.u rf))) (nA _ _ _ _ _ _ _ _ _ _ _ _ _ _ _ _ _ iu p.bools.length iq hn) rfl F rfl M fun tv _ _ hR hB F _=>?_
 obtain⟨tp,mb,rfl,Dr,hMb,acL,acN⟩:=hR;have M:=M.FP hB (b1:=(tp,304,#[c0,c1,c2,c3,c4,.slice iu p.bools.length iq,c6,c7,c8,.slice YW p.rules.length Vt,aR,aO,aN,aQ,aM,aL,aP,.int .i64 1,.int .u64 (aZ p.bools.length),(.map (some mb))])) (.inl ⟨rfl,Dr⟩) acL (b2:=(mb,9003,eF [])) (mU hMb) acN (gM Dr hMb);refine xA F rf rf rf fun _ F=>awC<|iy _ _ ?_
 refine awB fun K3 nE=>?_
 have M:=M.bM 146 14;refine ah<|xA (v:=.slice none 0 0) F rf rf rf fun _ F=>awC<|nE _ _ ?_
 refine awB fun K4 ox=>awB fun K5 ow=>ah<|xF 9 F rf rf rf OW rf ail rf fun _ F=>xL F (M.b 2 rfl) rf rf rf u30 rf rf fun _ F=>kz F rf (fK rfl (F.u rf) u30) fun _ F=>xM (v:=.int .i64 0) F rf rf rf fun _ F=>awC<|ow _ _ ?_
 refine awD<|?_;refine eH (ι:=Nat×Value×List ((aj×Int)×Nat)×List (Int×Value)) (fun|(m,v,N,L),a,w=>Fs a 26 [(3,.pointer (some ⟨tp,0,none⟩)),(4,v),(10,.slice YW p.rules.length Vt),(11,.int .i64 (p.rules.length:Int)),(12,.int .i64 (m:Int))]∧Mm w0 w [(tp,304,#[c0,c1,c2,c3,c4,.slice iu p.bools.length iq,c6,c7,c8,.slice YW p.rules.length Vt,aR,aO,aN,aQ,aM,aL,aP,.int .i64 1,.int .u64 (aZ p.bools.length),(.map (some mb))]),(mb,9003,eF L)] [⟨v,146,14,N.length,N.flatMap mV⟩]∧m≤p.rules.length∧N.map (·.1)=((p.rules.take m).map fun y=>(y,(ez (aZ p.bools.length) p.bools.length p.conds (DH y))))∧cG w w0.heap.size N∧Di w w0.heap.size L (ez (aZ p.bools.length) p.bools.length p.conds)) (fun|(m,v,N,L)=>p.rules.length-m) (0,.slice none 0 0,[],[]) ⟨F.sub ⟨rfl,rfl,rfl,rfl,rfl,trivial⟩,M.only (.cons_cons _ (.cons_cons _ (.cons _ .slnil))) (.cons_cons _ .slnil),awx _,rfl,cG.nil _ _,Di.nil _ _ _⟩ ?_
 (repeat clear F);(repeat clear M)
 rintro⟨m,v,N,L⟩ _ _ ⟨F,M,hm,DG,hN,hL⟩;have MR:=M;have M:=M.FH;refine awB fun K6 pT=>ah<|kz F rf (jo rfl (F.u rf) (F.u rf)) fun _ F=>awC<|pT _ _ ?_
 refine awB fun K7 rS=>?_
 refine awE (F.e 13 rfl) (fun hc2=>?_) (fun hc2=>?_)
 ·have hd3:=of_decide_eq_true hc2;refine wp_skip<|rS _ _ ?_;refine awB fun K8 xK=>awD<|awB fun K9 zf=>?_
  have hlt:m<p.rules.length:=by omega
  obtain⟨y,hy⟩:∃ y,p.rules[m]?=some y:=⟨_,awA hlt⟩;obtain⟨b9,ob9,rfl,af9⟩:=V7 m hlt
  have ajh:∀ j uu,[.int .i64 y.kind,.int .u64 y.src.a,.int .u64 y.src.b,.int .u64 y.src.c,.int .u64 y.src.d,.int .u64 y.tgt.a,.int .u64 y.tgt.b,.int .u64 y.tgt.c,.int .u64 y.tgt.d,.bool y.self,.int .i64 y.cls,.int .u32 y.perms,.int .i64 y.cond][j]?=some uu→w0.cell? ⟨b9,ob9+m*13+j,none⟩=some uu:=fun j u hu=>af9 j u (by
   rw[cE aj.eG hy j (awO.1 hu).1];exact hu)
  clear af9;have qB:=hok.rules y (awz hy)
  have hlN:N.length≤4096:=by
   have h:=congrArg List.length DG;rw[awN,awN] at h;rw[h];exact awF (List.length_take_le _ _) (awF (Nat.le_of_lt hlt) hcr)
  refine ah<|
   kz F rf (bD (i:=m) rfl (F.u rf) (F.u rf) (by omega) u30 qm) fun _ F=>
   kz F rf (gV [.int .i64 y.kind,.int .u64 y.src.a,.int .u64 y.src.b,.int .u64 y.src.c,.int .u64 y.src.d,.int .u64 y.tgt.a,.int .u64 y.tgt.b,.int .u64 y.tgt.c,.int .u64 y.tgt.d,.bool y.self,.int .i64 y.cls,.int .u32 y.perms,.int .i64 y.cond] rfl (F.u rf) X7 rfl qm (dH (MR.below.trans M.below) ajh)) fun _ F=>
   JU (on rfl) rfl mJ rfl F rfl M fun g4 _ _ F M=>
   Ld (on rfl) rfl (F.u rf) (F.u rf) F M 0 rfl qm rfl rfl rfl fun _ M=>
   awC<|
   zf _ _ ?_
  have hT8:fV _ w0.heap.size tp mb c0 c1 c2 c3 c4 (.slice iu p.bools.length iq) c6 c7 c8 (.slice (some ⟨b9,ob9,none⟩) p.rules.length Vt) aR aO aN aQ aM aL aP (aZ p.bools.length) (ez (aZ p.bools.length) p.bools.length p.conds):=⟨M.b 1 rfl,⟨_,M.map 2 rfl,hL.old M.old⟩,⟨M.lo _ (awz (i:=1) rfl),M.lo _ (awz (i:=2) rfl)⟩⟩;have ajD:∀ k∈[mb],w0.heap.size≤k:=fun k hk=>by rw[awH.1 hk];exact hT8.lo.2
  refine rdS (H8 w0.heap.size tp mb c0 c1 c2 c3 c4 (.slice iu p.bools.length iq) c6 c7 c8 (.slice (some ⟨b9,ob9,none⟩) p.rules.length Vt) aR aO aN aQ aM aL aP (aZ p.bools.length) (ez (aZ p.bools.length) p.bools.length p.conds)) LZ LY 7 [16,17,18,19,20,21,22] [bI (v),bI (.agg #[.int .i64 y.kind,.int .u64 y.src.a,.int .u64 y.src.b,.int .u64 y.src.c,.int .u64 y.src.d,.int .u64 y.tgt.a,.int .u64 y.tgt.b,.int .u64 y.tgt.c,.int .u64 y.tgt.d,.bool y.self,.int .i64 y.cls,.int .u32 y.perms,.int .i64 y.cond]),bI (.pointer (some ⟨tp,0,none⟩)),bI (.agg #[.int .i64 y.kind,.int .u64 y.src.a,.int .u64 y.src.b,.int .u64 y.src.c,.int .u64 y.src.d,.int .u64 y.tgt.a,.int .u64 y.tgt.b,.int .u64 y.tgt.c,.int .u64 y.tgt.d,.bool y.self,.int .i64 y.cls,.int .u32 y.perms,.int .i64 y.cond]),(Qj w0.heap.size mb (ez (aZ p.bools.length) p.bools.length p.conds (DH y))),(ag2 w0.heap.size mb y (ez (aZ p.bools.length) p.bools.length p.conds (DH y))),(SlG M.wd w0.heap.size mb y (ez (aZ p.bools.length) p.bools.length p.conds (DH y)))] (by kernel_rfl) (by kernel_rfl) (by kernel_rfl) rfl (by decide) rfl rfl F ⟨rJ _ _,rJ _ _,rJ _ _,rJ _ _,Na,RQ,Vw,trivial⟩ ⟨?_,?_,?_,?_,?_,?_,?_,trivial⟩ ?_
  ·exact fun a w Q' hf hi H G hK hE=>dv (on rfl) (cW rfl (G 4 _ rfl (F.g 4 rfl)).ev) rfl hf rfl hK rfl
  ·exact fun a w Q' hf hi H G hK hE=>dv (on rfl) (Ax rfl (G 6 _ rfl (F.g 6 rfl)).ev X7 rfl (hi.1.whole (M.b 0 rfl) (Sp (gM (M.b 0 rfl) (M.map 2 rfl)))) qm rfl) rfl hf rfl hK rfl
  ·exact fun a w Q' hf hi H G hK hE=>dv (on rfl) (cW rfl (G 3 _ rfl (F.g 3 rfl)).ev) rfl hf rfl hK rfl
  ·exact fun a w Q' hf hi H G hK hE=>dv (on rfl) (Ax rfl (G 6 _ rfl (F.g 6 rfl)).ev X7 rfl (hi.1.whole (M.b 0 rfl) (Sp (gM (M.b 0 rfl) (M.map 2 rfl)))) qm rfl) rfl hf rfl hK rfl
  ·exact fun a w Q' hf hi H G hK hE=>dxS (on rfl) (fL rfl Tryz.func151 afe rfl (args2 (iA (H 2 ⟨.data,by simp,rfl⟩ _ _ rfl rfl)).ev (iA (H 3 ⟨.data,by simp,rfl⟩ _ _ rfl rfl)).ev)) (Sg _ w0.heap.size tp mb _ _ _ _ _ _ _ _ _ _ _ _ _ _ _ _ iu p.bools.length iq (aZ p.bools.length) p.conds hn (hp.conds.keep ((MR.below.trans M.below).trans (hi.1.below M.big ajD))) hcl y (hok.rules y (awz hy)).cond (hi.2 hT8)) rfl hf rfl hE
  ·intro a w Q' hf hi H G hK hE;obtain⟨_,h20,Zv,rfl,hg8,Zh,hn8⟩:=H 4 ⟨.data,by simp,rfl⟩ _ _ rfl rfl;exact dv (on rfl) (vm rfl (pv:=#[(0,.agg #[.int .i64 y.kind,.int .u64 y.src.a,.int .u64 y.src.b,.int .u64 y.src.c,.int .u64 y.src.d,.int .u64 y.tgt.a,.int .u64 y.tgt.b,.int .u64 y.tgt.c,.int .u64 y.tgt.d,.bool y.self,.int .i64 y.cls,.int .u32 y.perms,.int .i64 y.cond]),(1,.slice (some ⟨Zv,0,none⟩) 1 1)]) (by simp[(iA (H 1 ⟨.data,by simp,rfl⟩ _ _ rfl rfl)).ev,h20.ev]) (cells:=#[.int .i64 y.kind,.int .u64 y.src.a,.int .u64 y.src.b,.int .u64 y.src.c,.int .u64 y.src.d,.int .u64 y.tgt.a,.int .u64 y.tgt.b,.int .u64 y.tgt.c,.int .u64 y.tgt.d,.bool y.self,.int .i64 y.cls,.int .u32 y.perms,.int .i64 y.cond,.slice (some ⟨Zv,0,none⟩) 1 1]) (by kernel_rfl)) rfl hf rfl hK ⟨Zv,rfl,hg8,Zh,hn8⟩
  ·intro a w Q' hf hi H G hK hE;obtain⟨_,h21,Zv,rfl,hg8,Zh,hn8⟩:=H 5 ⟨.data,by simp,rfl⟩ _ _ rfl rfl;exact dn (f:=fun n=>.slice (some ⟨n,0,none⟩) 1 1) (on rfl) (oZ rfl zM j6 yB (by decide) (by decide) (pv:=#[(0,.agg #[.int .i64 y.kind,.int .u64 y.src.a,.int .u64 y.src.b,.int .u64 y.src.c,.int .u64 y.src.d,.int .u64 y.tgt.a,.int .u64 y.tgt.b,.int .u64 y.tgt.c,.int .u64 y.tgt.d,.bool y.self,.int .i64 y.cls,.int .u32 y.perms,.int .i64 y.cond,.slice (some ⟨Zv,0,none⟩) 1 1])]) (by simp[h21.ev]) (cells:=#[.int .i64 y.kind,.int .u64 y.src.a,.int .u64 y.src.b,.int .u64 y.src.c,.int .u64 y.src.d,.int .u64 y.tgt.a,.int .u64 y.tgt.b,.int .u64 y.tgt.c,.int .u64 y.tgt.d,.bool y.self,.int .i64 y.cls,.int .u32 y.perms,.int .i64 y.cond,.slice (some ⟨Zv,0,none⟩) 1 1]) (by kernel_rfl)) rfl hf rfl hK (fun b w' n=>⟨b,Zv,rfl,n.whole,n.at_▸hi.1.size,by have:=n.at_;have:=(M.map 2 rfl).lt;have:=hi.1.size;omega,Whole.under n.below hg8 hg8.lt,Zh,hn8⟩)
  (repeat clear F);intro _ _ Dq F D
  obtain⟨_,h,rfl⟩:=D 0 _ _ rfl rfl;have F:=F.add h;obtain⟨_,h,b8,Zv,rfl,R9,ajY,-,hg8,Zh,-⟩:=D 6 _ _ rfl rfl;have F:=F.add h;obtain⟨aj1,⟨L9,PJ,hL9⟩,-⟩:=Dq.2 hT8;have M:=M.X_ 2 rfl Dq.1 PJ R9 ajY;have hN:=hN.old M.old;have MR:=MR.comp M;have M:=M.FH;have hL:Di _ _ _ _:=hL9;clear D Dq;intro Qt Wg;refine kp (on rfl) rfl zM VL rfl M 0 rfl (F.u rf) (F.u rf) (M.slice 0 rfl rfl rfl (by simp[maxLen])) ⟨by unfold maxLen;omega,by omega⟩ rfl F rfl fun v5 _ _ F M=>awC (Wg _ _ ?_)
  intro Qt Wg;refine xA F rf rf rf fun _ F=>awC (Wg _ _ ?_)
  refine xK _ _ ?_
  refine ah<|
   ke (on rfl) (eX rfl (F.u rf) rfl) rfl F rfl (congrArg (Value.int .i64) (wrap_i64 (by omega))) fun _ F=>
   xM F rf rf rf fun _ F=>
   awC<|?_
  exact⟨(m+1,v5,N++[((y,(ez (aZ p.bools.length) p.bools.length p.conds (DH y))),Zv)],L9),⟨F.sub ⟨rfl,rfl,rfl,rfl,rfl,trivial⟩,(MR.comp (M.only (.cons _ (.cons _ (.cons_cons _ (.cons_cons _ .slnil)))) (.cons_cons _ .slnil))).cast rfl (by rw[awR,awS];rfl),by omega,Mi hy DG,(hN.old M.old).snoc (M.old _ _ hg8) Zh,hL.old M.old⟩,by show p.rules.length-(m+1)<p.rules.length-m;omega⟩
 ·have hd6:=of_decide_eq_false hc2;refine wp_exit<|ox _ _ ?_;refine awB fun Xy lZ=>ah<|xM F rf rf rf fun _ F=>xA F rf rf rf fun _ F=>awC<|lZ _ _ ?_
  refine wp_ret<|bJ _ _ _ _ F rfl ?_;exact⟨_,rfl,⟨N,(by rw[DG,List.take_of_length_le (by omega)]),M.r 0 rfl,hN⟩,(MR.below.trans M.below)⟩
theorem MW{s:ay}{k:Nat}:k∈elems s↔k<256∧s.has k=true:=by
 unfold elems cA;rw[List.mem_filter,List.mem_range]
theorem bX{r:aj}{s o:Nat}(hs:s<256)(ho:o<256):(s,o)∈r.pairs↔r.src.has s=true∧(r.tgt.has o||r.self&&decide (s=o))=true:=by
 unfold aj.pairs aj.bZ;simp only[List.mem_flatMap,awM,Prod.mk.injEq,MW];constructor
 ·rintro⟨a,⟨-,ha⟩,b,⟨-,hb⟩,rfl,rfl⟩;refine⟨ha,?_⟩;unfold aj.tgts at hb
  cases hq:r.self with
  | false=>rw[hq] at hb;simpa using hb
  | true=>
   rw[hq,if_pos rfl] at hb;unfold ay.with at hb;rw[if_pos ⟨by omega,by omega⟩,Int.toNat_natCast,ay.has_add _ hs ho] at hb;rcases Bool.or_eq_true_iff.1 hb with h|h
   ·have:b=a:=by simpa using h
    subst this;simp
   ·simp[h]
 ·rintro⟨h1,h2⟩;refine⟨s,⟨hs,h1⟩,o,⟨ho,?_⟩,rfl,rfl⟩;unfold aj.tgts
  cases hq:r.self with
  | false=>rw[hq] at h2;simpa using h2
  | true=>
   rw[if_pos rfl]
   unfold ay.with
   rw[if_pos ⟨by omega,by omega⟩,Int.toNat_natCast,ay.has_add _ hs ho];rw[hq] at h2;rcases Bool.or_eq_true_iff.1 h2 with h|h
   ·simp[h]
   ·have:s=o:=by simpa using h
    subst this;simp
theorem iT{r:aj}{p:Nat×Nat}(h:p∈r.pairs):p.1<256∧p.2<256:=by
 unfold aj.pairs aj.bZ at h;obtain⟨s,hs,hp⟩:=List.mem_flatMap.1 h;obtain⟨t,ht,rfl⟩:=awM.1 hp;simp[elems,cA] at hs ht;exact⟨hs.1,ht.1⟩
def ib(x:Int)(r:Nat):Bool:=x.toNat.testBit r
def vY(x:Int):Prop:=0≤x∧x<18446744073709551616
def fS(x:Int):Prop:=0≤x∧x<4294967296
theorem E5(n:Int):IntKind.u64.wrap n=n%18446744073709551616:=by simp[IntKind.wrap,IntKind.bits,IntKind.signed]
theorem i_(op:BinOp)(a b:Int):vY (bits op .u64 a b):=by
 unfold bits;simp only[E5];constructor<;>omega
theorem lK(op:BinOp)(a b:Int):fS (bits op .u32 a b):=by
 unfold bits;simp only[IntKind.wrap_u32];constructor<;>omega
theorem yR{x:Int}(h:vY x):(BitVec.ofInt 64 x).toNat=x.toNat:=by
 obtain⟨a,rfl⟩:=Int.eq_ofNat_of_zero_le h.1;rw[BitVec.ofInt_natCast,BitVec.toNat_ofNat];have:=h.2;simp only[Int.toNat_natCast];exact Nat.mod_eq_of_lt (by omega)
theorem u6(op:BinOp){a b:Int}(ha:vY a)(hb:vY b)(r:Nat):ib (bits op .u64 a b) r=match op with|.and=>ib a r&&ib b r|.or=>ib a r||ib b r|.xor=>ib a r ^^ ib b r|_=>ib a r&&!ib b r:=by
 have key:∀ v:BitVec 64,ib (IntKind.u64.wrap (v.toNat:Int)) r=v.getLsbD r:=by
  intro v;have:=v.isLt;unfold ib;rw[E5,Int.emod_eq_of_lt (by omega) (by omega),Int.toNat_natCast];rfl
 have ga:(BitVec.ofInt 64 a).getLsbD r=ib a r:=by unfold BitVec.getLsbD;rw[yR ha];rfl
 have gb:(BitVec.ofInt 64 b).getLsbD r=ib b r:=by unfold BitVec.getLsbD;rw[yR hb];rfl
 have arC:ib b r=true→r<64:=fun h=>by rw[← gb] at h;exact BitVec.lt_of_getLsbD h
 have adi:ib a r=true→r<64:=fun h=>by rw[← ga] at h;exact BitVec.lt_of_getLsbD h
 unfold bits;show ib (IntKind.u64.wrap ((BitVec.toNat (match op with|.and=>BitVec.ofInt 64 a&&&BitVec.ofInt 64 b|.or=>BitVec.ofInt 64 a|||BitVec.ofInt 64 b|.xor=>BitVec.ofInt 64 a ^^^ BitVec.ofInt 64 b|_=>BitVec.ofInt 64 a&&&~~~BitVec.ofInt 64 b):Nat):Int)) r=_;rw[key];cases op<;>simp only[BitVec.getLsbD_and,BitVec.getLsbD_or,BitVec.getLsbD_xor,BitVec.getLsbD_not,ga,gb] <;>
 ·cases h:ib a r<;>simp;intro _;exact adi h
theorem Y_(r:Nat):ib 18446744073709551615 r=decide (r<64):=by
 unfold ib;rw[show(18446744073709551615:Int).toNat=2^64-1 from rfl,Nat.testBit_two_pow_sub_one]
theorem Y8(n r:Nat):ib (2^n-1) r=decide (r<n):=by
 unfold ib
 have:((2:Int)^n-1).toNat=2^n-1:=by
  rw[show((2:Int)^n-1)=((2^n-1:Nat):Int) by rw[Int.natCast_sub (Nat.two_pow_pos n)];simp];exact Int.toNat_natCast _
 rw[this,Nat.testBit_two_pow_sub_one]
theorem Co{x y:Int}(hx:0≤x)(hy:0≤y)(h:∀ r,ib x r=ib y r):x=y:=by
 have:=Nat.eq_of_testBit_eq (x:=x.toNat) (y:=y.toNat) h;omega
theorem eY(r:Nat):ib 0 r=false:=by unfold ib;simp
theorem XT(n:Int):IntKind.u32.wrap n=n%4294967296:=by simp[IntKind.wrap,IntKind.bits,IntKind.signed]
theorem sF{x:Int}(h:fS x):(BitVec.ofInt 32 x).toNat=x.toNat:=by
 obtain⟨a,rfl⟩:=Int.eq_ofNat_of_zero_le h.1;rw[BitVec.ofInt_natCast,BitVec.toNat_ofNat];have:=h.2;simp only[Int.toNat_natCast];exact Nat.mod_eq_of_lt (by omega)
theorem oR(op:BinOp){a b:Int}(ha:fS a)(hb:fS b)(r:Nat):ib (bits op .u32 a b) r=match op with|.and=>ib a r&&ib b r|.or=>ib a r||ib b r|.xor=>ib a r ^^ ib b r|_=>ib a r&&!ib b r:=by
 have key:∀ v:BitVec 32,ib (IntKind.u32.wrap (v.toNat:Int)) r=v.getLsbD r:=by
  intro v;have:=v.isLt;unfold ib;rw[XT,Int.emod_eq_of_lt (by omega) (by omega),Int.toNat_natCast];rfl
 have ga:(BitVec.ofInt 32 a).getLsbD r=ib a r:=by unfold BitVec.getLsbD;rw[sF ha];rfl
 have gb:(BitVec.ofInt 32 b).getLsbD r=ib b r:=by unfold BitVec.getLsbD;rw[sF hb];rfl
 have adi:ib a r=true→r<32:=fun h=>by rw[← ga] at h;exact BitVec.lt_of_getLsbD h
 unfold bits;show ib (IntKind.u32.wrap ((BitVec.toNat (match op with|.and=>BitVec.ofInt 32 a&&&BitVec.ofInt 32 b|.or=>BitVec.ofInt 32 a|||BitVec.ofInt 32 b|.xor=>BitVec.ofInt 32 a ^^^ BitVec.ofInt 32 b|_=>BitVec.ofInt 32 a&&&~~~BitVec.ofInt 32 b):Nat):Int)) r=_;rw[key];cases op<;>simp only[BitVec.getLsbD_and,BitVec.getLsbD_or,BitVec.getLsbD_xor,BitVec.getLsbD_not,ga,gb] <;>
 ·cases h:ib a r<;>simp;intro _;exact adi h
theorem VR(k r:Nat):ib ((2:Int)^k) r=decide (k=r):=by
 unfold ib;rw[show((2:Int)^k).toNat=2^k by rw[show((2:Int)^k)=((2^k:Nat):Int) by simp];exact Int.toNat_natCast _,Nat.testBit_two_pow]
theorem PA{x:Int}(h:0≤x):x=0↔∀ r,ib x r=false:=⟨fun e r=>by rw[e];exact eY r,fun H=>Co h (Int.le_refl _) fun r=>by rw[H r,eY]⟩
theorem Y9{x:Int}(h:fS x){r:Nat}(hr:ib x r=true):r<32:=by
 refine Classical.byContradiction fun hn=>?_
 unfold ib at hr;have h2:x.toNat<2^r:=Nat.lt_of_lt_of_le (show x.toNat<2^32 by have:=h.2;have:=h.1;omega) (Nat.pow_le_pow_right (by decide) (by omega));rw[Nat.testBit_lt_two_pow h2] at hr;cases hr
theorem ZQ(k:Nat):fS (nH k):=by
 unfold nH;split
 ·rename_i h;refine⟨Int.pow_nonneg (by decide),?_⟩;have h2:(2:Nat)^k<2^32:=Nat.pow_lt_pow_right (by decide) h;rw[show((2:Int)^k)=((2^k:Nat):Int) by simp];omega
 ·exact⟨Int.le_refl _,by decide⟩
theorem Hv{p:Int}(hp:fS p){k:Nat}(hk:k<32):decide (bits .and .u32 p (nH k)=0)=!ib p k:=by
 have h:=oR .and hp (ZQ k);have hb:∀ r,ib (nH k) r=decide (k=r):=fun r=>by unfold nH;rw[if_pos hk];exact VR k r
 cases e:ib p k with
 | true=>
  rw[decide_eq_false];rfl;intro h0;have h1:=h k;rw[h0,eY,e,hb] at h1;simp at h1
 | false=>
  rw[decide_eq_true];rfl;refine(PA (lK _ _ _).1).2 fun r=>?_
  rw[h r,hb];by_cases hkr:k=r
  ·subst hkr;simp[e]
  ·simp[hkr]
def Gv(l:List (aj×Int))(kind cls:Int)(s t k r:Nat):Prop:=∃ y∈l,y.1.kind=kind∧y.1.cls=cls∧ib y.1.perms k=true∧mg y.1 s t=true∧ib y.2 r=true
structure Il (l:List (aj×Int)):Prop where
 perms:∀ y∈l,fS y.1.perms
 yD:∀ y∈l,vY y.2
theorem I8{s t:Int}{k:Nat}(hk:k<32):∀ (l:List (aj×Int)) (x:Int),Il l→vY x→vY (l.foldl (wM s t (nH k)) x)∧∀ r,ib (l.foldl (wM s t (nH k)) x) r=(ib x r&&l.all fun y=>!(ib y.1.perms k&&mg y.1 s t&&ib y.2 r))
 | [],x,_,hx=>⟨hx,fun r=>by simp⟩
 | y::l,x,hl,hx=>by
  have hl':Il l:=⟨fun z hz=>hl.perms z (by simp[hz]),fun z hz=>hl.yD z (by simp[hz])⟩;have hy:=hl.perms y (by simp);have hw:=hl.yD y (by simp);rw[List.foldl_cons]
  have e:wM s t (nH k) x y=if (ib y.1.perms k&&mg y.1 s t)=true then bits .andNot .u64 x y.2 else x:=by
   unfold wM;rw[Hv hy hk];cases ib y.1.perms k<;>cases mg y.1 s t<;>rfl
  have hx':vY (wM s t (nH k) x y):=by rw[e];split;exact i_ _ _ _;exact hx
  obtain⟨h1,h2⟩:=I8 hk l _ hl' hx';refine⟨h1,fun r=>?_⟩;rw[h2 r,e,List.all_cons];split
  ·rename_i hc;rw[u6 .andNot hx hw r,hc,Bool.true_and,← Bool.and_assoc]
  ·rename_i hc;rw[show(ib y.1.perms k&&mg y.1 s t)=false by simpa using hc];simp
theorem O1{l:List (aj×Int)}{x:Int}(hl:Il l)(hx:vY x){s t:Int}{k:Nat}(hk:k<32):QK x l s t (nH k)=true↔∀ r,ib x r=true→∃ y∈l,ib y.1.perms k=true∧mg y.1 s t=true∧ib y.2 r=true:=by
 obtain⟨h1,h2⟩:=I8 (s:=s) (t:=t) hk l x hl hx;unfold QK;rw[decide_eq_true_iff,PA h1.1];constructor
 ·intro H r hr;have h:=H r;rw[h2 r,hr,Bool.true_and,List.all_eq_false] at h;obtain⟨y,hy,hn⟩:=h;refine⟨y,hy,?_⟩;simpa[awU,and_assoc] using hn
 ·intro H r;rw[h2 r]
  cases e:ib x r with
  | false=>rfl
  | true=>
   obtain⟨y,hy,a1,a2,a3⟩:=H r e;rw[Bool.true_and,List.all_eq_false];exact⟨y,hy,by simp[a1,a2,a3]⟩
theorem Zx(r:aj){s t:Nat}(hs:s<256)(ht:t<256):mg r s t=(r.src.has s&&(r.tgt.has t||r.self&&decide (s=t))):=by
 have e1:∀ (a:ay) (n:Nat),n<256→a.mem (n:Int)=a.has n:=fun a n hn=>by
  unfold ay.mem;rw[Int.toNat_natCast,decide_eq_true (by omega:(0:Int)≤n∧(n:Int)<256),Bool.true_and]
 have e2:decide ((s:Int)=(t:Int))=decide (s=t):=decide_eq_decide.2 (by omega);unfold mg;rw[e1 _ _ hs,e1 _ _ ht,e2]
theorem fQ{r:aj}{s t:Nat}(hs:s<256)(ht:t<256):mg r s t=true↔(s,t)∈r.pairs:=by
 rw[Zx r hs ht,bX hs ht,awU]
theorem YR{x y:aj}(hx:fS x.perms)(hy:fS y.perms)(h1:y.kind=x.kind)(h2:y.cls=x.cls){k:Nat}(hk1:ib x.perms k=true)(hk2:ib y.perms k=true):lU x y=true:=by
 unfold lU;rw[decide_eq_true h1,decide_eq_true h2,decide_eq_false];rfl;intro h0;have h:=oR .and hy hx k;rw[h0,eY,hk1,hk2] at h;cases h
theorem vw{x:aj×Int}{l:List (aj×Int)}(hx:fS x.1.perms)(hw:vY x.2)(hl:Il l):f_ x l=true↔∀ s t k r:Nat,s<256→t<256→mg x.1 s t=true→ib x.1.perms k=true→ib x.2 r=true→Gv l x.1.kind x.1.cls s t k r:=by
 have hf:Il (l.filter fun y=>lU x.1 y.1):=⟨fun y hy=>hl.perms y (List.mem_filter.1 hy).1,fun y hy=>hl.yD y (List.mem_filter.1 hy).1⟩;unfold f_;rw[Bool.or_eq_true,decide_eq_true_iff];constructor
 ·intro H s t k r hs ht hg hk hr;rcases H with H|H
  ·rw[H,eY] at hr;cases hr
  ·have Cr:=Y9 hx hk;have h:=awP.1 (awP.1 H (s,t) ((fQ hs ht).1 hg)) k (List.mem_range.2 Cr);unfold KP at h;rw[Hv hx Cr,hk] at h;obtain⟨y,hy,a1,a2,a3⟩:=(O1 hf hw Cr).1 (by simpa using h) r hr;obtain⟨b1,b2⟩:=List.mem_filter.1 hy;unfold lU at b2;simp only[awU,decide_eq_true_iff] at b2;exact⟨y,b1,b2.1.1,b2.1.2,a1,a2,a3⟩
 ·intro H;refine .inr (awP.2 fun p hp=>awP.2 fun k hk=>?_);have Cr:=List.mem_range.1 hk;obtain⟨hs,ht⟩:=iT hp;unfold KP;rw[Hv hx Cr]
  cases e:ib x.1.perms k with
  | false=>rfl
  | true=>
   have:QK x.2 (l.filter fun y=>lU x.1 y.1) p.1 p.2 (nH k)=true:=(O1 hf hw Cr).2 fun r hr=>by
    obtain⟨y,hy,a1,a2,a3,a4,a5⟩:=H p.1 p.2 k r hs ht ((fQ hs ht).2 hp) e hr;exact⟨y,List.mem_filter.2 ⟨hy,YR hx (hl.perms y hy) a1 a2 e a3⟩,a3,a4,a5⟩
   rw[this];rfl
def ZC(n r:Nat)(op a:Int)(l:List Bool):Bool:=
 if iM n op a l.length=true then false else if op=1 then r.testBit a.toNat else if op=2 then !(l.getD 0 false) else
  if op=3 then l.getD 0 false&&l.getD 1 false else if op=4 then l.getD 0 false||l.getD 1 false else if op=6 then !(l.getD 0 false ^^ l.getD 1 false) else l.getD 0 false ^^ l.getD 1 false
mutual
def NR(n r:Nat):aA→Bool
 | .node op a _ _ _ _ kids=>ZC n r op a (XP n r kids)
def XP(n r:Nat):List aA→List Bool
 | []=>[]
 | k::l=>NR n r k::XP n r l
end
theorem F8(n r:Nat)(e:aA):NR n r e=ZC n r e.op e.a (XP n r e.kids):=by cases e;rw[NR];rfl
theorem OP{n:Nat}(h:n≤5):vY (aZ n):=by
 unfold vY aZ;rcases five h with rfl|rfl|rfl|rfl|rfl|rfl<;>decide
theorem Pz(n r:Nat):ib (aZ n) r=decide (r<2^n):=Y8 (2^n) r
theorem Uj:vY 18446744073709551615:=by unfold vY;decide
theorem nN:vY 0:=by unfold vY;decide
theorem ML(u x:Int):vY (notM u x):=i_ _ _ _
theorem Cn{n:Nat}(hn:n≤5){x:Int}(hx:vY x)(r:Nat):ib (notM (aZ n) x) r=(decide (r<2^n)&&!ib x r):=by
 have h6:=nt6 hn;unfold notM;rw[u6 .and (i_ _ _ _) (OP hn),u6 .xor Uj hx,Y_,Pz];by_cases h:r<2^n
 ·simp[h,show r<64 by omega]
 ·simp[h]
theorem NY{i:Int}{k:Nat}(hk:k<64):jZ i k=k.testBit i.toNat:=by
 unfold jZ
 have e:((0*64+(k:Int))/2^i.toNat)=((k/2^i.toNat:Nat):Int):=by
  rw[show(0*64+(k:Int))=(k:Int) by omega,Int.natCast_ediv];simp
 have hd:k/2^i.toNat<64:=Nat.lt_of_le_of_lt (Nat.div_le_self _ _) hk;have hb:=(bits_nat .i64 63 (by decide) (fun n h0 h1=>by rw[IntKind.wrap_i64];omega) (k/2^i.toNat) 1 (by omega) (by decide)).1;rw[e];have h1:((1:Nat):Int)=1:=rfl;rw[h1] at hb;rw[hb,Nat.and_one_is_mod,Nat.testBit_eq_decide_div_mod_eq];exact decide_eq_decide.2 (by omega)
theorem Eh{k:Nat}(h:k<64):∃ m:Nat,(2:Int)^k=(m:Int)∧m<18446744073709551616:=
 ⟨2^k,by simp,Nat.pow_lt_pow_right (by decide) h⟩
theorem yg(i:Int):∀ k,vY (fM i k)
 | 0=>nN
 | k+1=>by
  unfold fM;split
  ·exact i_ _ _ _
  ·exact yg i k
theorem ED(i:Int)(afW:∀ k:Nat,k<64→jZ i k=k.testBit i.toNat):∀ k,k≤64→∀ r,ib (fM i k) r=(decide (r<k)&&r.testBit i.toNat)
 | 0,_,r=>by unfold fM;rw[eY];simp
 | k+1,hk,r=>by
  have ih:=ED i afW k (by omega) r;have hb:=afW k (by omega)
  have hp:IntKind.u64.wrap (1*2^((k:Int)).toNat)=(2:Int)^k:=by
   rw[E5,Int.toNat_natCast,Int.one_mul];obtain⟨m,e,hm⟩:=Eh (by omega:k<64);rw[e];omega
  have hw:vY ((2:Int)^k):=by
   obtain⟨m,e,hm⟩:=Eh (by omega:k<64);unfold vY;rw[e];omega
  unfold fM;rw[hb,hp];split
  ·rename_i hc;rw[u6 .or (yg i k) hw,ih,VR];by_cases e:k=r
   ·subst e;simp[hc]
   ·have:decide (r<k+1)=decide (r<k):=decide_eq_decide.2 (by omega);simp[e,this]
  ·rename_i hc;rw[ih];by_cases e:r=k
   ·subst e;simp[show r.testBit i.toNat=false by simpa using hc]
   ·have:decide (r<k+1)=decide (r<k):=decide_eq_decide.2 (by omega);rw[this]
theorem ZP(u i:Int):vY (zx u i):=i_ _ _ _
theorem Za{n:Nat}(hn:n≤5)(i:Int)(r:Nat):ib (zx (aZ n) i) r=(decide (r<2^n)&&r.testBit i.toNat):=by
 have h6:=nt6 hn;unfold zx;rw[u6 .and (yg i 64) (OP hn),ED i (fun k hk=>NY hk) 64 (Nat.le_refl _),Pz];by_cases h:r<2^n
 ·simp[h,show r<64 by omega]
 ·simp[h]
theorem adM{u op x y:Int}:vY (DU u op x y):=by
 unfold DU;split
 ·exact i_ _ _ _
 ·split
  ·exact i_ _ _ _
  ·split<;>exact i_ _ _ _
theorem Fe{n:Nat}(hn:n≤5):∀ e:aA,vY (cF (aZ n) n e)∧∀ r,ib (cF (aZ n) n e) r=(decide (r<2^n)&&NR n r e):=by
 refine aA.ind fun e ih=>?_
 have hlen:∀ l:List aA,(nP (aZ n) n l).length=l.length:=fun l=>by induction l with
  | nil=>rw[nP];rfl
  | cons k l h=>rw[nP,List.length_cons,h,List.length_cons]
 have afU:∀ (r:Nat) (l:List aA),(XP n r l).length=l.length:=fun r l=>by induction l with
  | nil=>rw[XP];rfl
  | cons k l h=>rw[XP,List.length_cons,h,List.length_cons]
 have hget:∀ (l:List aA),(∀ k∈l,vY (cF (aZ n) n k)∧∀ r,ib (cF (aZ n) n k) r=(decide (r<2^n)&&NR n r k))→∀ i,vY ((nP (aZ n) n l).getD i 0)∧∀ r,ib ((nP (aZ n) n l).getD i 0) r=(decide (r<2^n)&&(XP n r l).getD i false):=by
  intro l
  induction l with
  | nil=>intro _ i;rw[nP];exact⟨nN,fun r=>by rw[XP];simp[eY]⟩
  | cons k l h=>
   intro H i;rw[nP]
   cases i with
   | zero=>exact⟨(H k (by simp)).1,fun r=>by rw[XP];exact(H k (by simp)).2 r⟩
   | succ i=>
    have:=h (fun k hk=>H k (by simp[hk])) i;exact⟨this.1,fun r=>by rw[XP];exact this.2 r⟩
 have h0:=hget e.kids ih 0;have h1:=hget e.kids ih 1;rw[uj];unfold LO;constructor
 ·split
  ·exact nN
  ·split
   ·exact ZP _ _
   ·split
    ·exact ML _ _
    ·exact adM
 ·intro r;rw[F8];unfold ZC;rw[hlen,afU];split
  ·rw[eY];simp
  ·split
   ·exact Za hn e.a r
   ·split
    ·rw[Cn hn h0.1,h0.2];by_cases hr:r<2^n<;>simp[hr]
    ·unfold DU;split
     ·rw[u6 .and h0.1 h1.1,h0.2,h1.2];by_cases hr:r<2^n<;>simp[hr]
     ·split
      ·rw[u6 .or h0.1 h1.1,h0.2,h1.2];by_cases hr:r<2^n<;>simp[hr]
      ·split
       ·rw[show bits .and .u64 (bits .xor .u64 18446744073709551615 (bits .xor .u64 ((nP (aZ n) n e.kids).getD 0 0) ((nP (aZ n) n e.kids).getD 1 0))) (aZ n)=notM (aZ n) (bits .xor .u64 ((nP (aZ n) n e.kids).getD 0 0) ((nP (aZ n) n e.kids).getD 1 0)) from rfl,Cn hn (i_ _ _ _),u6 .xor h0.1 h1.1,h0.2,h1.2];by_cases hr:r<2^n<;>simp[hr]
       ·rw[u6 .xor h0.1 h1.1,h0.2,h1.2];by_cases hr:r<2^n<;>simp[hr]
def YJ(n:Nat)(conds:List aA)(k:Int)(r:Nat):Bool:=
 if 0<k∧k≤conds.length then (match conds[(k-1).toNat]? with|some e=>NR n r e|none=>false)
 else if k<0∧0-(conds.length:Int)≤k then !(match conds[(0-k-1).toNat]? with|some e=>NR n r e|none=>false)
 else true
theorem Hz{n:Nat}(hn:n≤5)(conds:List aA)(k:Int):vY (ez (aZ n) n conds k)∧∀ r,ib (ez (aZ n) n conds k) r=(decide (r<2^n)&&YJ n conds k r):=by
 unfold ez YJ;by_cases h1:0<k∧k≤conds.length
 ·rw[if_pos h1]
  cases h:conds[(k-1).toNat]? with
  | some e=>exact⟨(Fe hn e).1,fun r=>by rw[if_pos h1];exact(Fe hn e).2 r⟩
  | none=>exact⟨nN,fun r=>by rw[if_pos h1,eY];exact(Bool.and_false _).symm⟩
 ·rw[if_neg h1];by_cases h2:k<0∧0-(conds.length:Int)≤k
  ·rw[if_pos h2];refine⟨ML _ _,fun r=>?_⟩;rw[if_neg h1,if_pos h2]
   cases h:conds[(0-k-1).toNat]? with
   | some e=>
    show ib (notM (aZ n) (cF (aZ n) n e)) r=(decide (r<2^n)&&!NR n r e);rw[Cn hn (Fe hn e).1,(Fe hn e).2];by_cases hr:r<2^n<;>simp[hr]
   | none=>
    show ib (notM (aZ n) 0) r=(decide (r<2^n)&&!false);rw[Cn hn nN,eY]
  ·rw[if_neg h2];refine⟨ML _ _,fun r=>?_⟩;rw[if_neg h1,if_neg h2,Cn hn nN,eY];simp
structure RV (T C:Nat) (r:aj):Prop where
 kind:1≤r.kind∧r.kind≤4
 cls:0≤r.cls∧r.cls<C
 perms:fS r.perms
 pairs:∀ p∈r.pairs,p.1<T∧p.2<T
def rlM(nB:Nat)(conds:List aA)(l:List aj):List (aj×Int):=l.map fun y=>(y,ez (aZ nB) nB conds (DH y))
theorem FD{nB:Nat}(hn:nB≤5){conds:List aA}{l:List aj}(hl:∀ r∈l,fS r.perms):Il (rlM nB conds l):=by
 constructor
 ·intro y hy;obtain⟨r,hr,rfl⟩:=awM.1 hy;exact hl r hr
 ·intro y hy;obtain⟨r,hr,rfl⟩:=awM.1 hy;exact(Hz hn _ _).1
def g_{α:Type}(l:List α)(o:List Nat)(m:Nat):List α:=(List.range l.length).filterMap fun k=>if (o.contains k||decide (k=m))=true then none else l[k]?
def dA(l:List (aj×Int)):Nat→List Nat
 | 0=>[]
 | m+1=>match l[m]? with
  | some x=>if f_ x (g_ l (dA l m) m)=true then dA l m++[m] else dA l m
  | none=>dA l m
theorem og(l:List (aj×Int)):∀ m,∀ k∈dA l m,k<m
 | 0,k,h=>by cases h
 | m+1,k,h=>by
  unfold dA at h;split at h
  ·split at h
   ·rcases awK.1 h with h|h
    ·have:=og l m k h;omega
    ·rw[awH.1 h];omega
   ·have:=og l m k h;omega
  ·have:=og l m k h;omega
theorem lV{α:Type}{l:List α}{o:List Nat}{m:Nat}{y:α}:y∈g_ l o m↔∃ k,k∉o∧k≠m∧l[k]?=some y:=by
 unfold g_;rw[List.mem_filterMap];constructor
 ·rintro⟨k,hk,h⟩;split at h
  ·cases h
  ·rename_i hc;simp only[Bool.or_eq_true,List.contains_eq_mem,decide_eq_true_iff,not_or] at hc;exact⟨k,by simpa using hc.1,hc.2,h⟩
 ·rintro⟨k,h1,h2,h3⟩;refine⟨k,List.mem_range.2 (awO.1 h3).1,?_⟩;rw[if_neg (by simp[h1,h2])];exact h3
def gA{α:Type}(l:List α)(o:List Nat):List α:=(List.range l.length).filterMap fun k=>if o.contains k=true then none else l[k]?
theorem mem_left{α:Type}{l:List α}{o:List Nat}{y:α}:y∈gA l o↔∃ k,k∉o∧l[k]?=some y:=by
 unfold gA;rw[List.mem_filterMap];constructor
 ·rintro⟨k,hk,h⟩;split at h
  ·cases h
  ·rename_i hc;exact⟨k,by simpa using hc,h⟩
 ·rintro⟨k,h1,h3⟩;refine⟨k,List.mem_range.2 (awO.1 h3).1,?_⟩;rw[if_neg (by simpa using h1)];exact h3
theorem JI{α β:Type}(f:α→β)(l:List α)(o:List Nat):gA (l.map f) o=(gA l o).map f:=by
 unfold gA;rw[awN,List.map_filterMap];congr 1
 funext k
 split
 ·rfl
 ·rw[List.getElem?_map]
def jM(a b:List (aj×Int)):Prop:=∀ (kind cls:Int) (s t k r:Nat),s<256→t<256→(Gv a kind cls s t k r↔Gv b kind cls s t k r)
theorem Il.sub{l l':List (aj×Int)}(h:Il l)(hs:∀ y∈l',y∈l):Il l':=⟨fun y hy=>h.perms y (hs y hy),fun y hy=>h.yD y (hs y hy)⟩
theorem uV{α:Type}{l:List α}{o:List Nat}:∀ y∈gA l o,y∈l:=fun y hy=>by
 obtain⟨k,-,h⟩:=mem_left.1 hy;exact awz h
theorem oM{α:Type}{l:List α}{o:List Nat}{m:Nat}:∀ y∈g_ l o m,y∈l:=fun y hy=>by
 obtain⟨k,-,-,h⟩:=lV.1 hy;exact awz h
theorem Kz{l:List (aj×Int)}(hl:Il l){o:List Nat}{m:Nat}{x:aj×Int}(hx:l[m]?=some x)(hm:m∉o):f_ x (g_ l o m)=true↔jM (gA l (o++[m])) (gA l o):=by
 have hxm:=awz hx;rw[vw (hl.perms x hxm) (hl.yD x hxm) (hl.sub oM)]
 have e:∀ y,y∈gA l (o++[m])↔y∈g_ l o m:=fun y=>by
  rw[mem_left,lV];constructor
  ·rintro⟨k,h1,h2⟩;exact⟨k,fun h=>h1 (awK.2 (.inl h)),fun h=>h1 (awK.2 (.inr (awH.2 h))),h2⟩
  ·rintro⟨k,h1,h2,h3⟩;exact⟨k,fun h=>(awK.1 h).elim h1 fun h=>h2 (awH.1 h),h3⟩
 constructor
 ·intro H kind cls s t k r hs ht;constructor
  ·rintro⟨y,hy,h⟩;obtain⟨j,h1,h2⟩:=mem_left.1 hy;exact⟨y,mem_left.2 ⟨j,fun h=>h1 (awK.2 (.inl h)),h2⟩,h⟩
  ·rintro⟨y,hy,h1,h2,h3,h4,h5⟩;obtain⟨j,g1,g2⟩:=mem_left.1 hy;by_cases ej:j=m
   ·subst ej;obtain rfl:x=y:=awG (hx.symm.trans g2);obtain⟨z,hz,h⟩:=H s t k r hs ht h4 h3 h5;exact⟨z,(e z).2 hz,by rw[← h1,← h2];exact h⟩
   ·exact⟨y,(e y).2 (lV.2 ⟨j,g1,ej,g2⟩),h1,h2,h3,h4,h5⟩
 ·intro H s t k r hs ht hg hk hr;obtain⟨z,hz,h⟩:=(H x.1.kind x.1.cls s t k r hs ht).2 ⟨x,mem_left.2 ⟨m,hm,hx⟩,rfl,rfl,hk,hg,hr⟩;exact⟨z,(e z).1 hz,h⟩
theorem jM.refl(a:List (aj×Int)):jM a a:=fun _ _ _ _ _ _ _ _=>Iff.rfl
theorem jM.trans{a b c:List (aj×Int)}(h:jM a b)(h':jM b c):jM a c:=fun _ _ _ _ _ _ hs ht=>(h _ _ _ _ _ _ hs ht).trans (h' _ _ _ _ _ _ hs ht)
theorem jM.symm{a b:List (aj×Int)}(h:jM a b):jM b a:=fun _ _ _ _ _ _ hs ht=>(h _ _ _ _ _ _ hs ht).symm
theorem B6{α:Type}(l:List α):gA l []=l:=by
 have key:∀ (n:Nat),n≤l.length→(List.range n).filterMap (fun k=>if ([]:List Nat).contains k=true then none else l[k]?)=l.take n:=by
  intro n
  induction n with
  | zero=>intro _;rfl
  | succ n ih=>
   intro hn;rw[List.range_succ,awT,ih (by omega),List.take_add_one];rfl
 unfold gA;rw[key l.length (Nat.le_refl _),awJ]
theorem lN{l:List (aj×Int)}(hl:Il l):∀ m,jM (gA l (dA l m)) l
 | 0=>by unfold dA;rw[B6];exact .refl _
 | m+1=>by
  unfold dA;split
  ·rename_i x hx;split
   ·rename_i hc;exact((Kz hl hx (fun h=>Nat.lt_irrefl _ (og l m m h))).1 hc).trans (lN hl m)
   ·exact lN hl m
  ·exact lN hl m
def fZ(w:World)(v:Value)(s:List Bool):Prop:=SliceAt w v 1 s.length (s.map Value.bool)
theorem fZ.keep{w w':World}{v:Value}{s:List Bool}(h:fZ w v s)(hb:aww w.heap.size w w'):fZ w' v s:=SliceAt.keep h hb
theorem aW.elt{α:Type}{f:α→List Value}{B:Nat}{w0 w:World}{bs:List Bx}{rs:List Rw}(M:aW B w0 w bs rs)(i:Nat){g n c:Nat}{e k:Nat}{l:List α}{m:Nat}{y:α}(hr:rs[i]?=some ⟨.slice (some ⟨g,0,none⟩) n c,e,k,n,l.flatMap f⟩)(hf:∀ x,(f x).length=k)(hy:l[m]?=some y):
 ∀ j u,(f y)[j]?=some u→w.cell? ⟨g,0+m*k+j,none⟩=some u:=fun j u hu=>by
 have h:=World.ownsRow.cells (M.r i hr) (g:=g) rfl (m*k+j) u (by
  show(l.flatMap f)[m*k+j]?=some u;rw[cE hf hy j (hf y▸(awO.1 hu).1)];exact hu)
 rw[Addr.add_mid] at h;simpa[Nat.add_assoc] using h
theorem aW.own{B:Nat}{w0 w:World}{bs:List Bx}{rs:List Rw}(M:aW B w0 w bs rs)(i:Nat){v:Value}{e k n:Nat}{xs:List Value}(hr:rs[i]?=some ⟨v,e,k,n,xs⟩)(hn:0<n):∃ g c,v=.slice (some ⟨g,0,none⟩) n c:=by
 obtain⟨g,c,-,h,-⟩:=qz (M.r i hr) hn;exact⟨g,c,h⟩
def oH(x:Int):List Value:=[.int .u32 x]
theorem aW.shape{B:Nat}{w0 w:World}{bs:List Bx}{rs:List Rw}(M:aW B w0 w bs rs)(i:Nat){v:Value}{e k n:Nat}{xs:List Value}(hr:rs[i]?=some ⟨v,e,k,n,xs⟩):∃ a c,v=.slice a n c∧n≤9223372036854775807:=by
 obtain⟨a,c,h,-,h2⟩:=fB (M.r i hr);exact⟨a,c,h,h2⟩
def q6(w:World)(u:Value)(l:List (List Int)):Prop:=∃ vs:List Value,vs.length=l.length∧SliceAt w u 1 l.length vs∧∀ (i:Nat) v row,vs[i]?=some v→l[i]?=some row→SliceAt w v 1 row.length (row.flatMap oH)
theorem q6.keep{w w':World}{u:Value}{l:List (List Int)}(h:q6 w u l)(hb:aww w.heap.size w w'):q6 w' u l:=by
 obtain⟨vs,h1,h2,h3⟩:=h;exact⟨vs,h1,h2.keep hb,fun i v row a b=>(h3 i v row a b).keep hb⟩
structure vM (p:aF):Prop where
 bools:p.bools.length≤10
 conds:p.conds.length≤1000
 types:p.types.length≤256
 classes:p.classes.length≤256
 rules:∀ r∈p.rules,RV p.types.length p.classes.length r∧r.oC
theorem q6.get{w:World}{u:Value}{l:List (List Int)}(h:q6 w u l):∃ a c,u=.slice a l.length c∧l.length≤9223372036854775807∧∀ (i:Nat) row,l[i]?=some row→∃ b off a' c',a=some ⟨b,off,none⟩∧w.cell? ⟨b,off+i*1,none⟩=some (.slice a' row.length c')∧row.length≤9223372036854775807 ∧
 ∀ (j:Nat) x,row[j]?=some x→∃ b' off',a'=some ⟨b',off',none⟩∧w.cell? ⟨b',off'+j*1,none⟩=some (.int .u32 x):=by
 obtain⟨vs,h1,h2,h3⟩:=h;obtain⟨a,c,rfl,-,hm,hc⟩:=h2.form (by decide);refine⟨a,c,rfl,hm,fun i row hi=>?_⟩;have hlt:=(awO.1 hi).1;obtain⟨b,off,rfl,hc'⟩:=hc i hlt;obtain⟨v,hv⟩:∃ v,vs[i]?=some v:=⟨_,awA (h1▸hlt)⟩;have h4:=h3 i v row hv hi;obtain⟨a',c',rfl,-,hm',-⟩:=h4.form (by decide);refine⟨b,off,a',c',rfl,hc' 0 _ (by simpa using hv),hm',fun j x hx=>?_⟩;obtain⟨b',off',e,h5⟩:=h4.elt (f:=oH) (fun _=>rfl) (by decide) hx (awO.1 hx).1;exact⟨b',off',e,h5 0 _ rfl⟩
theorem jd{α:Type}{a b:List α}{m:Nat}{x y:α}(h:a.take m=b.take m)(hx:a[m]?=some x)(hy:b[m]?=some y)(e:x=y):a.take (m+1)=b.take (m+1):=by
 rw[List.take_add_one,List.take_add_one,h,hx,hy,e]
theorem ql{α:Type}{a b:List α}{m:Nat}(h:a.take m=b.take m)(hl:a.length=b.length)(hm:a.length≤m):a=b:=by
 rwa [List.take_of_length_le hm,List.take_of_length_le (hl▸hm)] at h
def jY(e:aA):Bool:=
 if e.op=2∨e.op=3∨e.op=4 then (((((decide ((e.kids.length:Int)=ou e.op)&&decide (e.a=0))&&decide (e.rel=0))&&decide (e.b=0))&&decide ((e.names.length:Int)=0))&&decide (e.set=ay.zero))
 else if e.op=8 then ((decide ((e.kids.length:Int)=0)&&decide ((e.names.length:Int)=0))&&decide (e.set=ay.zero))
 else if e.op=9 then (((decide ((e.kids.length:Int)=0)&&decide (e.rel=0))&&decide (e.b=0))&&decide ((e.names.length:Int)=0))
 else false
theorem NN(w0:World)(cs:List Value)(e:aA)(h:bB w0 cs e):Calls Tryz.prog 245 #[.agg cs.toArray] w0 (fun(r:Ending) (w':World)=>r=.returned (.bool (jY e))∧aww w0.heap.size w0 w'):=by
 obtain⟨nv,kv,rfl,Nv,hk⟩:=h.open;obtain⟨_,_,rfl,-⟩:=aU.get Nv;obtain⟨_,_,rfl,-,xI,-⟩:=aC.form hk (by decide);refine dD [] (fn:=Tryz.f245) Tryz.func245 rfl Tryz.ntmps245 rfl<|fun g1 w1 M1=>lb 0<|an rfl<|an (fun h=>an (fun _=>?_) fun h'=>by rw[h] at h';cases h') fun h1=>an (fun h=>an (fun _=>?_) fun h'=>by rw[h] at h';cases h') fun h2=>an (fun h=>?_) fun h3=>an (fun h4=>lb 0<|an rfl<|lb 0<|an (fun _=>rfl)<|lb 0<|an (fun _=>rfl)<|ei (x:=.agg #[.int .u64 0,.int .u64 0,.int .u64 0,.int .u64 0])<|an (fun _=>bd (by kernel_rfl))<|ei<|an (fun _=>⟨rV,fun w=>nM e.set w⟩)<|fun M=>⟨rb ?_,M.below⟩) fun h4=>an (fun h5=>lb 0<|an rfl<|lb 0<|an (fun _=>rfl)<|lb 0<|an (fun _=>rfl)<|lb 0<|an (fun _=>rfl)<|fun M=>⟨rb ?_,M.below⟩) fun h5 M=>⟨rb ?_,M.below⟩
 rotate_left 3
 ·simp only[decide_eq_true_eq,decide_eq_false_iff_not] at h1 h2 h3 h4;unfold jY;rw[if_neg (by omega),if_pos h4]
 ·simp only[decide_eq_true_eq,decide_eq_false_iff_not] at h1 h2 h3 h4 h5;unfold jY;rw[if_neg (by omega),if_neg h4,if_pos h5]
 ·simp only[decide_eq_false_iff_not] at h1 h2 h3 h4 h5;unfold jY;rw[if_neg (by omega),if_neg h4,if_neg h5]
 all_goals
  refine dr (by kernel_rfl)<|lb 0<|an rfl<|lb 0<|an rfl<|cl<|an (fun w' hb M=>(JR _ _).mono fun _ _ ⟨h1,h2⟩=>⟨h1,h2▸Below.refl _ _⟩)<|lb 0<|an (fun _=>rfl)<|lb 0<|an (fun _=>rfl)<|lb 0<|an (fun _=>rfl)<|lb 0<|an (fun _=>rfl)<|lb 0<|an (fun _=>rfl)<|ei (x:=.agg #[.int .u64 0,.int .u64 0,.int .u64 0,.int .u64 0])<|an (fun _=>bd (by kernel_rfl))<|ei<|an (fun _=>⟨rV,fun w=>nM e.set w⟩)<|fun w2 hb2 M2 M=>⟨rb ?_,M.below⟩
  simp only[decide_eq_true_eq] at h;unfold jY;rw[if_pos (by omega)]
def kU(nU nR nT k:Nat):Int:=if k%5=0 then (nU:Int) else if k%5=1 then (nR:Int) else if k%5=2 then (nT:Int) else -1
theorem MK(w:World)(c0 c1 c2 c3 c4 c5 c6 c7 c8 c9 aR aO aN aQ aM aL aP:Value)(p:aF)(hp:aK w c0 c1 c2 c3 c4 c5 c6 c7 c8 c9 aR aO aN aQ aM aL aP p)(k:Nat)(hk:k<1000):Calls Tryz.prog 247 #[.agg #[c0,c1,c2,c3,c4,c5,c6,c7,c8,c9,aR,aO,aN,aQ,aM,aL,aP],.int .i64 (k:Int)] w fun e w'=>e=.returned (.int .i64 (kU p.users.length p.roles.length p.types.length k))∧aww w.heap.size w w':=by
 obtain⟨a1,k1,rfl,hk1,hm1⟩:=aK.f1 hp;obtain⟨n1,hn1⟩:∃ n,n=p.types.length:=⟨_,rfl⟩;have N1:=awV hn1;rw[← hn1] at hk1 hm1 ⊢;clear hn1;obtain⟨a3,k3,rfl,hk3,hm3⟩:=aK.f3 hp;obtain⟨n3,hn3⟩:∃ n,n=p.roles.length:=⟨_,rfl⟩;have N3:=awV hn3;rw[← hn3] at hk3 hm3 ⊢;clear hn3;obtain⟨a4,k4,rfl,hk4,hm4⟩:=aK.f4 hp;obtain⟨n4,hn4⟩:∃ n,n=p.users.length:=⟨_,rfl⟩;have N4:=awV hn4;rw[← hn4] at hk4 hm4 ⊢;clear hn4;clear hp;unfold kU;obtain⟨wo,bP⟩:∃ wo,wo=(w).alloc (.cells #[c0,.slice a1 n1 k1,c2,.slice a3 n3 k3,.slice a4 n4 k4,c5,c6,c7,c8,c9,aR,aO,aN,aQ,aM,aL,aP] 39):=⟨_,rfl⟩;have W0:=awV (show Whole wo w.heap.size 39 #[c0,.slice a1 n1 k1,c2,.slice a3 n3 k3,.slice a4 n4 k4,c5,c6,c7,c8,c9,aR,aO,aN,aQ,aM,aL,aP] by rw[bP];exact(Whole.new w 39 _));have fG:=awV (show aww w.heap.size w wo by rw[bP];exact((Below.refl _ w).alloc (Nat.le_refl _) _));have kp1:wo.cell? ⟨w.heap.size,1,none⟩=some (.slice a1 n1 k1):=W0.out.cell 1;have kp3:wo.cell? ⟨w.heap.size,3,none⟩=some (.slice a3 n3 k3):=W0.out.cell 3;have kp4:wo.cell? ⟨w.heap.size,4,none⟩=some (.slice a4 n4 k4):=W0.out.cell 4;by_cases h0:k%5=0
 ·rw[if_pos h0]
  go_enter Tryz.func247,Tryz.ntmps247
  go_upto_region 1 with(fail)
  rw[← bP];clear bP
  go_wp2_with fail
  go_ret
  exact⟨rfl,fG.out⟩
 ·rw[if_neg h0];by_cases h1:k%5=1
  ·rw[if_pos h1]
   go_enter Tryz.func247,Tryz.ntmps247
   go_upto_region 1 with(fail)
   rw[← bP];clear bP
   go_wp2_with fail
   go_ret
   exact⟨rfl,fG.out⟩
  ·rw[if_neg h1];by_cases h2:k%5=2
   ·rw[if_pos h2]
    go_enter Tryz.func247,Tryz.ntmps247
    go_upto_region 1 with(fail)
    rw[← bP];clear bP
    go_wp2_with fail
    go_ret
    exact⟨rfl,fG.out⟩
   ·rw[if_neg h2];have g0:¬ ((k%5:Nat):Int)=0:=by omega
    have g1:¬ ((k%5:Nat):Int)=1:=by omega
    have g2:¬ ((k%5:Nat):Int)=2:=by omega
    go_enter Tryz.func247,Tryz.ntmps247
    go_upto_region 1 with(fail)
    rw[← bP];clear bP
    go_wp2_with fail
    go_ret
    exact⟨rfl,fG.out⟩
def CZ(er:Int)(ka kb:Nat):Int:=if 3≤ka%5∧3≤kb%5 then 0 else if ¬ ka%5=kb%5 then 13 else if (1:Int)<er then 13 else 0
def vC(n:Nat)(e:aA):Int:=if bA e.a (n:Int)=false then 3 else if bA e.b (n:Int)=false then 3 else if bA e.rel 5=false then 3 else CZ e.rel e.a.toNat e.b.toNat
theorem FI(w:World)(cs:List Value)(e:aA)(h:bB w cs e)(n:Nat):Calls Tryz.prog 246 #[.agg cs.toArray,.int .i64 (n:Int)] w fun r w'=>r=.returned (.int .i64 (vC n e))∧aww w.heap.size w w':=by
 obtain⟨nv,kv,rfl,-,-⟩:=h.open;obtain⟨z,hz⟩:∃ z,z=vC n e:=⟨_,rfl⟩;rw[← hz];unfold vC at hz;obtain⟨o,ea,er,eb,nm,s,kd⟩:=e
 change z=if bA ea (n:Int)=false then 3 else if bA eb (n:Int)=false then 3 else if bA er 5=false then 3 else CZ er ea.toNat eb.toNat at hz
 show Calls Tryz.prog 246 #[.agg #[.int .i64 o,.int .i64 ea,.int .i64 er,.int .i64 eb,nv,.int .u64 s.a,.int .u64 s.b,.int .u64 s.c,.int .u64 s.d,kv],.int .i64 (n:Int)] w _;clear h;obtain⟨wo,bP⟩:∃ wo,wo=(w).alloc (.cells #[.int .i64 o,.int .i64 ea,.int .i64 er,.int .i64 eb,nv,.int .u64 s.a,.int .u64 s.b,.int .u64 s.c,.int .u64 s.d,kv] 89):=⟨_,rfl⟩;have W0:=awV (show Whole wo w.heap.size 89 #[.int .i64 o,.int .i64 ea,.int .i64 er,.int .i64 eb,nv,.int .u64 s.a,.int .u64 s.b,.int .u64 s.c,.int .u64 s.d,kv] by rw[bP];exact(Whole.new w 89 _));have fG:=awV (show aww w.heap.size w wo by rw[bP];exact((Below.refl _ w).alloc (Nat.le_refl _) _));have kx1:wo.cell? ⟨w.heap.size,1,none⟩=some (.int .i64 ea):=W0.out.cell 1;have kx2:wo.cell? ⟨w.heap.size,2,none⟩=some (.int .i64 er):=W0.out.cell 2;have kx3:wo.cell? ⟨w.heap.size,3,none⟩=some (.int .i64 eb):=W0.out.cell 3
 cases ha:bA ea (n:Int) with
 | false=>
  have HV:=awV (show z=3 by rw[hz,ha];rfl);have HA:=awV ha;clear hz ha
  go_enter Tryz.func246,Tryz.ntmps246
  go_upto_region 1 with(fail)
  rw[← bP];clear bP
  go_wp2_with (have hZ:=HA;clear hZ;go_at_call 113;go_must (refine(show Calls Tryz.prog 113 _ _ (fun e w'=>e=.returned (.bool false)∧wo=w') from by have h:=cC wo ea (n:Int);rw[HA.out] at h;exact h).mono ?_;rintro e w' ⟨rfl,rfl⟩;clear HA))
  go_ret
  exact⟨dG HV.out.symm,fG.out⟩
 | true=>
  rw[ha,if_neg (by decide)] at hz;have hra:0≤ea∧ea<(n:Int):=by unfold bA at ha;simpa using ha
  have HA:=awV ha;clear ha
  cases hb:bA eb (n:Int) with
  | false=>
   have HV:=awV (show z=3 by rw[hz,hb];rfl);have Li:=awV hb;clear hz hb
   go_enter Tryz.func246,Tryz.ntmps246
   go_upto_region 1 with(fail)
   rw[← bP];clear bP
   go_wp2_with (first|(have hZ:=HA;clear hZ;go_at_call 113;go_must (refine(show Calls Tryz.prog 113 _ _ (fun e w'=>e=.returned (.bool true)∧wo=w') from by have h:=cC wo ea (n:Int);rw[HA.out] at h;exact h).mono ?_;rintro e w' ⟨rfl,rfl⟩;clear HA))|(have hZ:=Li;clear hZ;go_at_call 113;go_must (refine(show Calls Tryz.prog 113 _ _ (fun e w'=>e=.returned (.bool false)∧wo=w') from by have h:=cC wo eb (n:Int);rw[Li.out] at h;exact h).mono ?_;rintro e w' ⟨rfl,rfl⟩;clear Li)))
   go_ret
   exact⟨dG HV.out.symm,fG.out⟩
  | true=>
   rw[hb,if_neg (by decide)] at hz;have hrb:0≤eb∧eb<(n:Int):=by unfold bA at hb;simpa using hb
   have Li:=awV hb;clear hb
   cases hr:bA er 5 with
   | false=>
    have HV:=awV (show z=3 by rw[hz,hr];rfl);have HR:=awV hr;clear hz hr
    go_enter Tryz.func246,Tryz.ntmps246
    go_upto_region 1 with(fail)
    rw[← bP];clear bP
    go_wp2_with (first|(have hZ:=HA;clear hZ;go_at_call 113;go_must (refine(show Calls Tryz.prog 113 _ _ (fun e w'=>e=.returned (.bool true)∧wo=w') from by have h:=cC wo ea (n:Int);rw[HA.out] at h;exact h).mono ?_;rintro e w' ⟨rfl,rfl⟩;clear HA))|(have hZ:=Li;clear hZ;go_at_call 113;go_must (refine(show Calls Tryz.prog 113 _ _ (fun e w'=>e=.returned (.bool true)∧wo=w') from by have h:=cC wo eb (n:Int);rw[Li.out] at h;exact h).mono ?_;rintro e w' ⟨rfl,rfl⟩;clear Li))|(have hZ:=HR;clear hZ;go_at_call 113;go_must (refine(show Calls Tryz.prog 113 _ _ (fun e w'=>e=.returned (.bool false)∧wo=w') from by have h:=cC wo er 5;rw[HR.out] at h;exact h).mono ?_;rintro e w' ⟨rfl,rfl⟩;clear HR)))
    go_ret
    exact⟨dG HV.out.symm,fG.out⟩
   | true=>
    rw[hr,if_neg (by decide)] at hz;have HR:=awV hr;clear hr;obtain⟨ka,rfl⟩:∃ k:Nat,ea=k:=⟨ea.toNat,by omega⟩;obtain⟨kb,rfl⟩:∃ k:Nat,eb=k:=⟨eb.toNat,by omega⟩;rw[Int.toNat_natCast,Int.toNat_natCast] at hz;unfold CZ at hz;have HZ:=awV hz;clear hz
    go_enter Tryz.func246,Tryz.ntmps246
    go_upto_region 1 with(fail)
    rw[← bP];clear bP
    go_upto_region 3 with(first|(have hZ:=HA;clear hZ;go_at_call 113;go_must (refine(show Calls Tryz.prog 113 _ _ (fun e w'=>e=.returned (.bool true)∧wo=w') from by have h:=cC wo (ka:Int) (n:Int);rw[HA.out] at h;exact h).mono ?_;rintro e w' ⟨rfl,rfl⟩;clear HA))|(have hZ:=Li;clear hZ;go_at_call 113;go_must (refine(show Calls Tryz.prog 113 _ _ (fun e w'=>e=.returned (.bool true)∧wo=w') from by have h:=cC wo (kb:Int) (n:Int);rw[Li.out] at h;exact h).mono ?_;rintro e w' ⟨rfl,rfl⟩;clear Li))|(have hZ:=HR;clear hZ;go_at_call 113;go_must (refine(show Calls Tryz.prog 113 _ _ (fun e w'=>e=.returned (.bool true)∧wo=w') from by have h:=cC wo er 5;rw[HR.out] at h;exact h).mono ?_;rintro e w' ⟨rfl,rfl⟩;clear HR)))
    clear kx1 kx2 kx3;refine zJ [some 25,some 26,some 27,some 28,some 29,some 30,some 5] [Y2 (.pointer (some ⟨w.heap.size,1,none⟩)),Y2 (.int .i64 (ka:Int)),Y2 (.int .i64 ((ka%5:Nat):Int)),Y2 (.pointer (some ⟨w.heap.size,3,none⟩)),Y2 (.int .i64 (kb:Int)),Y2 (.int .i64 ((kb%5:Nat):Int)),Y2 (.int .i64 ((ka%5:Nat):Int))] (fun _ w'=>aww wo.heap.size wo w') [] (by kernel_rfl) (by kernel_rfl) (by kernel_rfl) rfl (by decide) rfl rfl ((Below.refl _ _).drew) ⟨jH _,jH _,jH _,jH _,jH _,jH _,jH _,trivial⟩ ⟨?_,?_,?_,?_,?_,?_,?_,?_⟩
    ·intro L a wy Q' hL hi H F hK
     try dsimp only at hi
     have h2:a.tmps[2]?=some (.pointer (some ⟨w.heap.size,0,none⟩)):=F 2 rfl;have HI:=awV hi;clear H F hi hL
     go_wp2_with fail
     exact hK _ _ (Below.refl _ _) HI.out rfl
    ·intro L a wy Q' hL hi H F hK
     try dsimp only at hi
     obtain⟨_,h25,rfl⟩:=H 0 ⟨.data,by simp,rfl⟩ _ rfl;replace h25:=h25 _ rfl;have HI:=awV hi;clear H F hi hL;have RS:wy.cell? ⟨w.heap.size,1,none⟩=some (.int .i64 (ka:Int)):=(Whole.under HI.out W0.out (Whole.lt W0.out)).cell 1
     go_wp2_with fail
     exact hK _ _ (Below.refl _ _) HI.out rfl
    ·intro L a wy Q' hL hi H F hK
     try dsimp only at hi
     obtain⟨_,h26,rfl⟩:=H 1 ⟨.data,by simp,rfl⟩ _ rfl;replace h26:=h26 _ rfl;have HI:=awV hi;clear H F hi hL
     go_wp2_with fail
     exact hK _ _ (Below.refl _ _) HI.out rfl
    ·intro L a wy Q' hL hi H F hK
     try dsimp only at hi
     have h2:a.tmps[2]?=some (.pointer (some ⟨w.heap.size,0,none⟩)):=F 2 rfl;have HI:=awV hi;clear H F hi hL
     go_wp2_with fail
     exact hK _ _ (Below.refl _ _) HI.out rfl
    ·intro L a wy Q' hL hi H F hK
     try dsimp only at hi
     obtain⟨_,h28,rfl⟩:=H 3 ⟨.data,by simp,rfl⟩ _ rfl;replace h28:=h28 _ rfl;have HI:=awV hi;clear H F hi hL;have RS:wy.cell? ⟨w.heap.size,3,none⟩=some (.int .i64 (kb:Int)):=(Whole.under HI.out W0.out (Whole.lt W0.out)).cell 3
     go_wp2_with fail
     exact hK _ _ (Below.refl _ _) HI.out rfl
    ·intro L a wy Q' hL hi H F hK
     try dsimp only at hi
     obtain⟨_,h29,rfl⟩:=H 4 ⟨.data,by simp,rfl⟩ _ rfl;replace h29:=h29 _ rfl;have HI:=awV hi;clear H F hi hL
     go_wp2_with fail
     exact hK _ _ (Below.refl _ _) HI.out rfl
    ·intro L a wy Q' hL hi H F hK
     try dsimp only at hi
     obtain⟨_,h27,rfl⟩:=H 2 ⟨.data,by simp,rfl⟩ _ rfl;replace h27:=h27 _ rfl;have HI:=awV hi;clear H F hi hL
     go_wp2_with fail
     exact hK _ _ (Below.refl _ _) HI.out rfl
    ·intro a wy L hl hi hL Q' hK
     try dsimp only at hi
     have HB:=awV hi;clear hi hL;obtain⟨_,rfl,_,rfl,_,rfl,_,rfl,_,rfl,_,rfl,_,rfl,rfl⟩:=hl;simp only[List.setIfInBounds_toArray,List.set_cons_zero,List.set_cons_succ];have W1:=awV (Whole.under HB.out W0.out W0.out.lt);have m2:wy.cell? ⟨w.heap.size,2,none⟩=some (.int .i64 er):=W1.out.cell 2;by_cases g1:3≤ka%5
     ·have d1:decide ((3:Int)≤((ka%5:Nat):Int))=true:=by simp;omega
      have d1n:decide (3≤ka%5)=true:=by simp;omega
      by_cases g2:3≤kb%5
      ·have HV:=awV (show z=0 by rw[HZ.out,if_pos ⟨g1,g2⟩])
       go_wp2_with fail
       go_ret
       exact⟨dG HV.out.symm,fG.out.trans (HB.out.mono fG.out.size)⟩
      ·have hz2:=HZ.out.trans (if_neg fun h=>g2 h.2);have g3:¬ ka%5=kb%5:=by omega
       have HV:=awV (hz2.trans (if_pos g3));have d3:(((ka%5:Nat):Int) != ((kb%5:Nat):Int))=true:=by simp;omega
       clear hz2 HZ
       go_wp2_with fail
       go_ret
       exact⟨dG HV.out.symm,fG.out.trans (HB.out.mono fG.out.size)⟩
     ·have d1:decide ((3:Int)≤((ka%5:Nat):Int))=false:=by simp;omega
      have d1n:decide (3≤ka%5)=false:=by simp;omega
      have hz2:=HZ.out.trans (if_neg fun h=>g1 h.1);by_cases g3:ka%5=kb%5
      ·have HV2:=awV (hz2.trans (if_neg fun h=>h g3));have d3:(((ka%5:Nat):Int) != ((kb%5:Nat):Int))=false:=by simp[g3]
       by_cases g4:(1:Int)<er
       ·have HV:=awV (HV2.out.trans (if_pos g4));clear hz2 HV2 HZ
        go_wp2_with fail
        go_ret
        exact⟨dG HV.out.symm,fG.out.trans (HB.out.mono fG.out.size)⟩
       ·have HV:=awV (HV2.out.trans (if_neg g4));clear hz2 HV2 HZ
        go_wp2_with fail
        go_ret
        exact⟨dG HV.out.symm,fG.out.trans (HB.out.mono fG.out.size)⟩
      ·have HV:=awV (hz2.trans (if_pos g3));have d3:(((ka%5:Nat):Int) != ((kb%5:Nat):Int))=true:=by simp;omega
       clear hz2 HZ
       go_wp2_with fail
       go_ret
       exact⟨dG HV.out.symm,fG.out.trans (HB.out.mono fG.out.size)⟩
theorem aA.Ok.set'{e:aA}(h:e.Ok):e.set.Ok:=by cases h;assumption
theorem aA.Ok.afr{e:aA}(h:e.Ok):∀ k∈e.kids,k.Ok:=by cases h;assumption
def jl(nU nR nT N:Nat)(e:aA):Option Int:=
 if jY e=false then some 2
 else if e.op=8 then some (vC N e)
 else if e.op=9 then
  (if bA e.a (N:Int)=false then some 3
   else if kU nU nR nT e.a.toNat<0 then some 13
   else if e.set.within (ay.all (kU nU nR nT e.a.toNat).toNat)=false then some 3
   else if eV e.set=false then some 2 else none)
 else none
mutual
def kL(nU nR nT N:Nat):aA→Int
 | .node op a rel b names set kids=>match jl nU nR nT N (.node op a rel b names set kids) with
  | some r=>r
  | none=>qL nU nR nT N kids
def qL(nU nR nT N:Nat):List aA→Int
 | []=>0
 | k::l=>if kL nU nR nT N k=0 then qL nU nR nT N l else kL nU nR nT N k
end
theorem tQ{nU nR nT N:Nat}{e:aA}{r:Int}(h:jl nU nR nT N e=some r):kL nU nR nT N e=r:=by
 cases e;rw[kL,h]
theorem CK{nU nR nT N:Nat}{e:aA}(h:jl nU nR nT N e=none):kL nU nR nT N e=qL nU nR nT N e.kids:=by
 cases e;rw[kL,h];rfl
theorem CN{nU nR nT N:Nat}{l:List aA}{k:Nat}{y:aA}(h:l[k]?=some y):qL nU nR nT N (l.drop k)=if kL nU nR nT N y=0 then qL nU nR nT N (l.drop (k+1)) else kL nU nR nT N y:=by
 obtain⟨hk,rfl⟩:=awO.1 h;rw[List.drop_eq_getElem_cons hk,qL]
theorem Rs{nU nR nT:Nat}(k:Nat){B:Nat}(h1:nU≤B)(h2:nR≤B)(h3:nT≤B):kU nU nR nT k≤(B:Int):=by
 unfold kU;split
 ·omega
 ·split
  ·omega
  ·split<;>omega
theorem qK(N:Nat)(hN:N≤100):∀ e:aA,e.Ok→∀ (w0:World) (cs:List Value) (c0 c1 c2 c3 c4 c5 c6 c7 c8 c9 aR aO aN aQ aM aL aP:Value) (p:aF),aK w0 c0 c1 c2 c3 c4 c5 c6 c7 c8 c9 aR aO aN aQ aM aL aP p→p.Ok→bB w0 cs e→Calls Tryz.prog 197 #[.agg #[c0,c1,c2,c3,c4,c5,c6,c7,c8,c9,aR,aO,aN,aQ,aM,aL,aP],.agg cs.toArray,.int .i64 (N:Int)] w0 (RI w0 (kL p.users.length p.roles.length p.types.length N e)):=by
 refine aA.ind fun e ih=>?_
 intro he w0 cs c0 c1 c2 c3 c4 c5 c6 c7 c8 c9 aR aO aN aQ aM aL aP p hp hok h;have hU:=hok.abK;have hR:=hok.UU;have hT:=hok.wJ;obtain⟨_,_,_,_,_,_,_,_,_,_,_,_,_,_,_,_,_,_,_,_,_,_,_,_,_,_,_,_,_,_,_,_,_,_,rfl,rfl,rfl,rfl,rfl,rfl,rfl,rfl,rfl,rfl,rfl,rfl,rfl,rfl,rfl,rfl,rfl⟩:=hp.open;obtain⟨nv,kv,rfl,Nv,hk⟩:=h.open;obtain⟨_,_,rfl,-⟩:=aU.get Nv;obtain⟨_,_,rfl,-,xI,-⟩:=aC.form hk (by decide);have out:∀ r:Int,jl p.users.length p.roles.length p.types.length N e=some r→kL p.users.length p.roles.length p.types.length N e=r:=fun r h=>tQ h
 have hs:jl p.users.length p.roles.length p.types.length N e=none→kL p.users.length p.roles.length p.types.length N e=qL p.users.length p.roles.length p.types.length N e.kids:=CK;unfold jl at out hs;refine dD [] (fn:=Tryz.f197) Tryz.func197 rfl Tryz.ntmps197 rfl<|fun g1 w1 M1=>fun g2 w2 M2=>lb 0<|an rfl<|cl<|an (NN _ _ e (h.keep M2.below)) fun w3 M3=>an (fun h1 M=>⟨ri (out _ (if_pos (by simpa using h1))),M.below⟩) fun h1=>?_
 rw[if_neg (by simpa using h1)] at out hs;refine lb 0<|an rfl<|an (fun h2=>lb 0<|an rfl<|cl<|an (FI _ _ e (h.keep M3.below) N) fun w4 M4 M=>⟨ri (out _ (if_pos (by simpa using h2))),M.below⟩) fun h2=>?_
 rw[if_neg (by simpa using h2)] at out hs;refine lb 0<|an rfl<|an (fun h3=>?_) fun h3=>?_
 focus
  rw[if_pos (by simpa using h3)] at out hs;refine lb 0<|an rfl<|cl<|an ((cC _ _ _).mono fun _ _ ⟨h1,h2⟩=>⟨h1,h2▸Below.refl _ _⟩) fun w5 M5=>an (fun h4 M=>⟨ri (out _ (if_pos (by simpa using h4))),M.below⟩) fun h4=>?_
  rw[if_neg (by simpa using h4)] at out hs;have hb:0≤e.a∧e.a<(N:Int):=by simpa[bA] using h4
  have hea:((e.a.toNat:Nat):Int)=e.a:=by omega
  have hle:=Rs (nU:=p.users.length) (nR:=p.roles.length) (nT:=p.types.length) e.a.toNat (B:=140737488355328) hU hR hT;refine lb 1<|an rfl<|lb 0<|an rfl<|cl<|an (hea▸MK _ _ _ _ _ _ _ _ _ _ _ _ _ _ _ _ _ _ p (hp.keep M5.below) e.a.toNat (by omega) :) fun w6 M6=>an (fun h5 M=>⟨ri (out _ (if_pos (by simpa using h5))),M.below⟩) fun h5=>?_
  rw[if_neg (by simpa using h5)] at out hs;have hnn:((kU p.users.length p.roles.length p.types.length e.a.toNat).toNat:Int)=kU p.users.length p.roles.length p.types.length e.a.toNat:=by simp at h5;omega
  refine lb 0<|an rfl<|cl<|an (hnn▸gj _ e.set he.set' (kU p.users.length p.roles.length p.types.length e.a.toNat).toNat (by omega) :) fun w7 M7=>an (fun h6 M=>⟨ri (out _ (if_pos (by simpa using h6))),M.below⟩) fun h6=>?_
  rw[if_neg (by simpa using h6)] at out hs;refine an (fun h7 M=>⟨ri (out _ (if_pos (by simpa using h7))),M.below⟩) fun h7=>?_
  rw[if_neg (by simpa using h7)] at out hs;replace hs:=hs rfl
 rotate_left 1
 focus
  replace hs:=hs (if_neg (by simpa using h3))
 all_goals
  refine lr (ι:=Nat) (fun m=>[(10,.int .i64 (m:Int))]) (fun m _=>m≤e.kids.length∧qL p.users.length p.roles.length p.types.length N e.kids=qL p.users.length p.roles.length p.types.length N (e.kids.drop m)) (fun m=>e.kids.length-m) 0 (an ⟨⟨rfl,trivial⟩,fun M=>⟨M,awx _,rfl⟩⟩ ?_);rintro m w M ⟨hm,hinv⟩;refine lb 0<|an rfl<|an (fun h9=>?_) fun h9 M=>⟨ri (by rw[hs,hinv,show m=e.kids.length by simp at h9;omega,List.drop_length];rfl),M.below⟩
  have hlt:m<e.kids.length:=by simp at h9;omega
  obtain⟨y,hy⟩:∃ y,e.kids[m]?=some y:=⟨_,awA hlt⟩;obtain⟨b,o,_,e1,hE,hc⟩:=aC.elt hk (by decide) hy;obtain⟨nv',kv',rfl,hn',hk'⟩:=hE.open;obtain⟨_,_,rfl,-⟩:=aU.get hn';obtain⟨_,_,rfl,-⟩:=aC.form hk' (by decide);exact dr (by kernel_rfl)<|lb 1<|an rfl<|lb 0<|an rfl<|ia<|an ⟨e1,rfl,hlt⟩<|lc<|an (dH M.below hc)<|cl<|an (fun w' hb M'=>ih y (awz hy) (he.afr y (awz hy)) w' _ _ _ _ _ _ _ _ _ _ _ _ _ _ _ _ _ _ p (hp.keep M'.below) hok (hE.keep M'.below)) fun w5 V8 M5=>an (fun h4 M=>⟨ri (by rw[hs,hinv,CN hy,if_neg (by simpa using h4)]),M.below⟩) fun h4=>an (by omega)<|bk (m+1) ⟨rfl,trivial⟩ (fun M=>⟨M,by omega,by rw[hinv,CN hy,if_pos (by simpa using h4)]⟩) (by dsimp only;omega)
def gF(nU nR nT:Nat)(v:Bool)(e:aA):Int:=if (12:Int)<bF 13 e then 4 else if v=true then kL nU nR nT 15 e else kL nU nR nT 10 e
theorem Dk(e:aA)(he:e.Ok)(w0:World)(cs:List Value)(c0 c1 c2 c3 c4 c5 c6 c7 c8 c9 aR aO aN aQ aM aL aP:Value)(p:aF)(hp:aK w0 c0 c1 c2 c3 c4 c5 c6 c7 c8 c9 aR aO aN aQ aM aL aP p)(hok:p.Ok)(h:bB w0 cs e)(v:Bool):Calls Tryz.prog 115 #[.agg #[c0,c1,c2,c3,c4,c5,c6,c7,c8,c9,aR,aO,aN,aQ,aM,aL,aP],.agg cs.toArray,.bool v] w0 (RI w0 (gF p.users.length p.roles.length p.types.length v e)):=by
 obtain⟨nv,kv,rfl,-,-⟩:=h.open;have bJ:=hr1 Tryz.prog Tryz.f115 (RI w0 (gF p.users.length p.roles.length p.types.length v e)) 17 6 rfl;refine en Tryz.func115 rfl Tryz.ntmps115 rfl (vs:=[.agg #[c0,c1,c2,c3,c4,c5,c6,c7,c8,c9,aR,aO,aN,aQ,aM,aL,aP],.agg #[.int .i64 e.op,.int .i64 e.a,.int .i64 e.rel,.int .i64 e.b,nv,.int .u64 e.set.a,.int .u64 e.set.b,.int .u64 e.set.c,.int .u64 e.set.d,kv],.bool v]) rfl fun _ F=>?_
 have M:=Mm.start w0;refine awB fun K1 gU=>ah<|Ig (on rfl) rfl (F.u rf) rfl F rfl M fun g1 _ _ F M=>Ig (on rfl) rfl (F.u rf) rfl F rfl M fun g2 _ _ F M=>xA (v:=.int .i64 0) F rf rf rf fun _ F=>awC<|gU _ _ ?_
 refine awB fun K2 iy=>awB fun K3 nE=>ah<|xW F (M.b 0 rfl) rf rf rf OU rf rN rf fun _ F=>xC F M rf rf q39 (args1 (F.u rf)) (pz _ _ e (bB.keep M.below h)) fun _ _ F M=>kz F rf (Kr rfl (F.u rf) rfl) fun _ F=>awC<|nE _ _ ?_
 refine awE (F.e 9 rfl) (fun hc3=>?_) (fun hc3=>?_)
 ·have V6:=of_decide_eq_true hc3;refine awB fun K4 ox=>ah<|xA (v:=.int .i64 4) F rf rf rf fun _ F=>awC<|ox _ _ ?_
  refine wp_ret<|bJ _ _ _ _ F rfl ?_;exact⟨dG (by unfold gF;refine Eq.symm ?_;repeat (first|with_reducible rfl|assumption|(with_reducible refine Eq.trans (if_pos ?_) ?_;focus (first|assumption|(refine sj ?_;assumption)|(refine r_ ?_;assumption)|omega|(simp[V6];done)))|(with_reducible refine Eq.trans (if_neg ?_) ?_;focus (first|assumption|(refine sj ?_;assumption)|(refine r_ ?_;assumption)|omega|(simp[V6];done)))|omega)),M.below⟩
 ·have TL:=of_decide_eq_false hc3;refine wp_skip<|iy _ _ ?_;refine awB fun K5 ow=>awB fun K6 pT=>ah<|xM F rf rf rf fun _ F=>awC<|pT _ _ ?_
  refine awE (F.e 10 rfl) (fun rQ=>?_) (fun rQ=>?_)
  ·refine awB fun K7 rS=>ah<|xW F (M.b 1 rfl) rf rf rf OW rf Bh rf fun _ F=>xW F (M.b 0 rfl) rf rf rf OU rf rN rf fun _ F=>
    xC F M rf rf ae1 (abn (F.u rf) (F.u rf) rfl) (qK 15 (by decide) e he _ _ _ _ _ _ _ _ _ _ _ _ _ _ _ _ _ _ _ p (hp.keep M.below) hok (bB.keep M.below h)) fun _ _ F M=>
    xA F rf rf rf fun _ F=>
    awC<|
    rS _ _ ?_
   refine wp_ret<|bJ _ _ _ _ F rfl ?_;exact⟨dG (by unfold gF;refine Eq.symm ?_;repeat (first|with_reducible rfl|assumption|(with_reducible refine Eq.trans (if_pos ?_) ?_;focus (first|assumption|(refine sj ?_;assumption)|(refine r_ ?_;assumption)|omega|(simp[TL];done)))|(with_reducible refine Eq.trans (if_neg ?_) ?_;focus (first|assumption|(refine sj ?_;assumption)|(refine r_ ?_;assumption)|omega|(simp[TL,rQ];done)))|omega)),M.below⟩
  ·refine wp_skip<|ow _ _ ?_
   refine awB fun K8 xK=>ah<|xW F (M.b 1 rfl) rf rf rf OW rf Bh rf fun _ F=>xW F (M.b 0 rfl) rf rf rf OU rf rN rf fun _ F=>
    xC F M rf rf ae1 (abn (F.u rf) (F.u rf) rfl) (qK 10 (by decide) e he _ _ _ _ _ _ _ _ _ _ _ _ _ _ _ _ _ _ _ p (hp.keep M.below) hok (bB.keep M.below h)) fun _ _ F M=>
    xA F rf rf rf fun _ F=>
    awC<|
    xK _ _ ?_
   refine wp_ret<|bJ _ _ _ _ F rfl ?_;exact⟨dG (by unfold gF;refine Eq.symm ?_;repeat (first|with_reducible rfl|assumption|(with_reducible refine Eq.trans (if_pos ?_) ?_;focus (first|assumption|(refine sj ?_;assumption)|(refine r_ ?_;assumption)|omega|(simp[TL,rQ];done)))|(with_reducible refine Eq.trans (if_neg ?_) ?_;focus (first|assumption|(refine sj ?_;assumption)|(refine r_ ?_;assumption)|omega|(simp[TL,rQ];done)))|omega)),M.below⟩
def Ad(ok ig vc cd:Bool):Bool:=!ok||!ig||!vc||!cd
def Fz(sa sb:Bool)(r:aj):Bool:=!sa||(!sb&&!r.self)||decide (r.perms=0)||(decide (r.kind=4)&&!(decide (r.cond=0)))
def Ef(nT nC:Nat)(cl:List mI)(r:aj):Int:=
 if r.kind<1 then 13 else if 4<r.kind then 13
 else if Ad (r.src.within (ay.all nT)) (r.tgt.within (ay.all nT)) (kO cl r.cls r.perms) (vA nC r.cond)=true then 3
 else if Fz (eV r.src) (eV r.tgt) r=true then 2 else 0
def mY(p:aF)(i:Nat):Int:=match p.conds[i]? with
 | some e=>eU p.bools.length e
 | none=>0
def yP(p:aF)(i:Nat):Int:=match p.rules[i]? with
 | some r=>Ef p.types.length p.conds.length p.classes r
 | none=>0
def jh(p:aF):Int:=if 64<p.conds.length then 4 else if aJ (mY p) p.conds.length 0=0 then (if 4096<p.rules.length then 4 else aJ (yP p) p.rules.length 0) else aJ (mY p) p.conds.length 0
theorem Jj{p:aF}(h1:¬ 64<p.conds.length)(h2:¬ aJ (mY p) p.conds.length 0=0):jh p=aJ (mY p) p.conds.length 0:=by
 unfold jh;rw[if_neg h1,if_neg h2]
theorem Ji{p:aF}(h1:¬ 64<p.conds.length)(h2:aJ (mY p) p.conds.length 0=0)(h3:4096<p.rules.length):jh p=4:=by
 unfold jh;rw[if_neg h1,if_pos h2,if_pos h3]
theorem Jh{p:aF}(h1:¬ 64<p.conds.length)(h2:aJ (mY p) p.conds.length 0=0)(h3:¬ 4096<p.rules.length):jh p=aJ (yP p) p.rules.length 0:=by
 unfold jh;rw[if_neg h1,if_pos h2,if_neg h3]
theorem Q6(w:World)(c0 c1 c2 c3 c4 c5 c6 c7 c8 c9 aR aO aN aQ aM aL aP:Value)(p:aF)(hp:aK w c0 c1 c2 c3 c4 c5 c6 c7 c8 c9 aR aO aN aQ aM aL aP p)(hok:p.Ok):Calls Tryz.prog 46 #[.agg #[c0,c1,c2,c3,c4,c5,c6,c7,c8,c9,aR,aO,aN,aQ,aM,aL,aP]] w fun e w'=>e=.returned (.int .i64 (jh p))∧aww w.heap.size w w':=by
 obtain⟨_,_,_,_,_,_,_,_,_,_,_,_,_,_,_,_,_,_,_,_,_,_,_,_,_,_,_,_,_,_,_,_,_,_,rfl,rfl,rfl,rfl,rfl,rfl,rfl,rfl,rfl,rfl,rfl,rfl,rfl,rfl,rfl,rfl,rfl⟩:=hp.open;have Dr:=hok.wJ;refine dD [] (fn:=Tryz.f46) Tryz.func46 rfl Tryz.ntmps46 rfl<|fun g1 w1 M1=>lb 0<|an rfl<|an (fun h M=>⟨ri (if_pos (by simp at h;omega)),M.below⟩) fun h=>?_
 have h1:¬ 64<p.conds.length:=by simp at h;omega
 refine lr (ι:=Nat) (fun m=>[(3,.int .i64 (m:Int))]) (fun m _=>m≤p.conds.length∧aJ (mY p) p.conds.length 0=aJ (mY p) (p.conds.length-m) m) (fun m=>p.conds.length-m) 0 (an ⟨⟨rfl,trivial⟩,fun M=>⟨M,awx _,by rw[Nat.sub_zero]⟩⟩ ?_);rintro m w2 M ⟨hm,hinv⟩;refine lb 0<|an rfl<|an (fun h2=>?_) fun h2=>?_
 ·have hlt:m<p.conds.length:=by simp at h2;omega
  obtain⟨y,hy⟩:∃ y,p.conds[m]?=some y:=⟨_,awA hlt⟩;obtain⟨b,o,_,e,hE,hc⟩:=aC.elt hp.conds (by decide) hy;obtain⟨nv,kv,rfl,hn,hk⟩:=hE.open;obtain⟨_,_,rfl,-⟩:=aU.get hn;obtain⟨_,_,rfl,-⟩:=aC.form hk (by decide);have hcf:mY p m=eU p.bools.length y:=by unfold mY;rw[hy]
  exact dr (by kernel_rfl)<|lb 0<|an rfl<|lb 0<|an rfl<|ia<|an ⟨e,rfl,hlt⟩<|lc<|an (dH M.below hc)<|cl<|an (fun w' hb' M'=>DY y _ _ _ _ _ _ _ _ _ _ _ _ _ _ _ _ _ _ _ p (hp.keep M'.below) (hE.keep M'.below)) fun w2 hb2 M2=>an (fun h3 M=>⟨ri (by
   have h3:mY p m≠0:=by rw[hcf];simpa using h3
   rw[Jj h1 (by rw[hinv,cL hlt h3];exact h3),hinv,cL hlt h3,hcf]),M.below⟩) fun h3=>an (by omega)<|bk (m+1) ⟨rfl,trivial⟩ (fun M=>⟨M,by omega,hinv.trans (bS hlt (by rw[hcf];simpa using h3))⟩) (by dsimp only;omega)
 have hz:aJ (mY p) p.conds.length 0=0:=by rw[hinv,show m=p.conds.length by simp at h2;omega,cI]
 clear hinv h2 hm h;refine lb 0<|an rfl<|an (fun h M=>⟨ri (Ji h1 hz (by simp at h;omega)),M.below⟩) fun h=>?_
 rw[Jh h1 hz (by simp at h;omega)];have hr:¬ 4096<p.rules.length:=by simp at h;omega
 clear h M;refine lr (ι:=Nat) (fun m=>[(5,.int .i64 (m:Int))]) (fun i _=>i≤p.rules.length∧aJ (yP p) p.rules.length 0=aJ (yP p) (p.rules.length-i) i) (fun i=>p.rules.length-i) 0 (an ⟨⟨rfl,trivial⟩,fun M=>⟨M,awx _,by rw[Nat.sub_zero]⟩⟩ ?_);rintro i w M ⟨hi,hinv⟩;refine lb 0<|an rfl<|an (fun h2=>?_) fun h2 M=>⟨ri (by rw[hinv,show i=p.rules.length by simp at h2;omega,cI]),M.below⟩
 have hlt:i<p.rules.length:=by simp at h2;omega
 obtain⟨r,hy⟩:∃ y,p.rules[i]?=some y:=⟨_,awA hlt⟩;have okr:=hok.rules r (awz hy);obtain⟨b,o,e,hc⟩:=SliceAt.elt hp.rules (fun _=>rfl) (by decide) hy hlt;have hcf:yP p i=Ef p.types.length p.conds.length p.classes r:=by unfold yP;rw[hy]
 have out:∀ v:Int,Ef p.types.length p.conds.length p.classes r=v→v≠0→aJ (yP p) p.rules.length 0=v:=fun v h1 h2=>by rw[hinv,cL hlt (by rw[hcf,h1];exact h2),hcf,h1]
 unfold Ef at hcf out;refine lb 0<|an rfl<|ia<|an ⟨e,rfl,hlt⟩<|lc<|an (dH M.below hc)<|ei<|an mJ fun g2 w3 M3=>lb 0<|an ⟨rfl,rfl⟩ fun w4 M4=>lb 0<|an rfl<|lb 0<|an (fun _=>rfl)<|an (fun h M=>⟨ri (out 13 ?_ (by decide)),M.below⟩) fun h=>?_
 ·by_cases h5:r.kind<1
  ·rw[if_pos h5]
  ·rw[if_neg h5,if_pos (by simp at h;omega)]
 rw[if_neg (by simp at h;omega),if_neg (by simp at h;omega)] at hcf out;refine lb 0<|an rfl<|lb 1<|an rfl<|cl<|an (gj _ r.src okr.src _ Dr) fun w5 M5=>lb 0<|an rfl<|lb 1<|an rfl<|cl<|an (gj _ r.tgt okr.tgt _ Dr) fun w6 M6=>lb 1<|an (fun _=>rfl)<|lb 0<|an (fun _=>rfl)<|lb 0<|an (fun _=>rfl)<|cl<|an (fun _=>A8 _ _ _ _ _ _ _ _ _ _ _ _ _ _ _ _ _ _ p (hp.keep M6.below) r.cls r.perms okr.perms) fun w7 M7=>lb 1<|an (fun _=>rfl)<|lb 0<|an (fun _=>rfl)<|cl<|an (fun _=>KA _ _ _ _ _ _ _ _ _ _ _ _ _ _ _ _ _ _ p (hp.keep M7.below) _) fun w8 M8=>an (fun h3 M=>⟨ri (out 3 ?_ (by decide)),M.below⟩) fun h3=>?_
 ·clear out hcf;cases h6:r.src.within (ay.all p.types.length)<;>cases h7:r.tgt.within (ay.all p.types.length)<;>cases h8:kO p.classes r.cls r.perms<;>cases h9:vA p.conds.length r.cond<;>simp_all [Ad]
 rw[if_neg (by clear out hcf;cases h6:r.src.within (ay.all p.types.length)<;>cases h7:r.tgt.within (ay.all p.types.length)<;>cases h8:kO p.classes r.cls r.perms<;>cases h9:vA p.conds.length r.cond<;>simp_all [Ad])] at hcf out;exact lb 0<|an (fun _=>rfl)<|lb 0<|an (fun _=>rfl)<|lb 0<|an (fun _=>rfl)<|lb 0<|an (fun _=>rfl)<|an (fun h4 M=>⟨ri (out 2 (if_pos h4) (by decide)),M.below⟩) fun h4=>an (by omega)<|bk (i+1) ⟨rfl,trivial⟩ (fun M=>⟨M.only (.cons _ (.refl _)) (.refl _),by omega,hinv.trans (bS hlt (by rw[hcf,if_neg (fun e=>by rw[show Fz (eV r.src) (eV r.tgt) r=false from h4] at e;cases e)]))⟩) (by dsimp only;omega)
def atI(l:List Int)(i:Nat):Int:=match l[i]? with
 | some x=>x
 | none=>0
def oW(l:List Int):Int:=aJ (atI l) l.length 0
theorem qI{l:List Int}:oW l=0↔∀ x∈l,x=0:=by
 unfold oW;rw[iW];constructor
 ·intro h x hx;obtain⟨i,hi⟩:=List.getElem?_of_mem hx;have:=h i (awx _) (by have:=(awO.1 hi).1;omega);unfold atI at this;rw[hi] at this;exact this
 ·intro h i _ hi;unfold atI;rw[awA (by omega:i<l.length)];exact h _ (List.getElem_mem _)
theorem Sl(w:World)(v:Value)(l:List Int)(h:SliceAt w v 1 l.length (l.map iH)):Calls Tryz.prog 40 #[v] w fun e w'=>e=.returned (.int .i64 (oW l))∧w=w':=by
 obtain⟨a,c,rfl,hac,xI,HA⟩:=h.form (by decide);have H1:=awV HA;clear HA h;unfold oW;obtain⟨n,hn⟩:∃ n,n=l.length:=⟨_,rfl⟩;have HN:=awV hn;rw[← hn] at H1 hac xI ⊢;clear hn
 go_enter Tryz.func40,Tryz.ntmps40
 go_wp2_with fail
 go_loopw [3] (fun i wr=>wr=w∧∃ k:Nat,k≤n∧i=.int .i64 k∧Hid (aJ (atI l) n 0=aJ (atI l) (n-k) k)) (fun i _=>n-(intOf i).toNat)
 case atStart=>exact⟨rfl,0,awx _,rfl,awV (by rw[Nat.sub_zero])⟩
 case round=>
  obtain⟨rfl,k,hk,rfl,hinv⟩:=hrel;by_cases hlt:k<n
  ·obtain⟨x,hx⟩:∃ x,l[k]?=some x:=⟨_,awA (by rw[← HN.out];exact hlt)⟩;obtain⟨b,off,rfl,hc⟩:=H1.out k hlt
   have k0:wr.cell? ⟨b,off+k,none⟩=some (.int .i64 x):=by
    have h:=hc 0 (.int .i64 x) (by simp[hx,iH])
    rwa [Nat.mul_one] at h
   have HF:=awV (show atI l k=x by unfold atI;rw[hx]);clear hx hc;by_cases hx0:x=0
   ·subst hx0
    go_wp2_with fail
    go_roundw
    case rel=>exact⟨by first|trivial|rfl,k+1,by omega,by go_num,awV (hinv.out.trans (bS hlt HF.out))⟩
    case measure=>simp[intOf];omega
   ·have d0:(x != 0)=true:=by simp[hx0]
    have HX0:=awV hx0;clear hx0
    go_wp2_with fail
    go_ret
    exact⟨dG (by rw[hinv.out,cL hlt (by rw[HF.out];exact HX0.out),HF.out]),rfl⟩
  ·obtain rfl:n=k:=by omega
   go_wp2_with fail
   go_ret
   exact⟨dG (by rw[hinv.out,cI]),rfl⟩
def akZ(w:World)(base:Nat)(v:Value)(l:List ByteArray):Prop:=w.ownsRow base 9 1 v l.length (l.flatMap aX)
theorem I9(l:List ByteArray):∀ u∈l.flatMap aX,u.oneCell'=true:=by
 intro u hu;obtain⟨s,-,hs⟩:=List.mem_flatMap.1 hu;rw[awH.1 hs];rfl
theorem SliceAt.BL{w:World}{g:Nat}{t:TypeId}{cs:Array Value}{k n:Nat}(h:Whole w g t cs)(hl:cs.toList.length=n*k)(h1:cs.toList.all (·.oneCell')=true)(hn:n≤maxLen):
 SliceAt w (.slice (some ⟨g,0,none⟩) n n) k n cs.toList:=
 ⟨hl,hn,fun u hu=>awP.1 h1 u hu,.inr ⟨_,n,rfl,Nat.le_refl _,fun j u hu=>by rw[Addr.add_lit,Nat.zero_add,h.cell];simpa using hu⟩⟩
def AB(nT:Nat)(before:List ByteArray)(y:lE):Int:=
 if bU [y.name] before=0 then
  (if y.kind<1 then 13 else if 3<y.kind then 13
   else if (!(y.src.within (ay.all nT))||!(y.tgt.within (ay.all nT)))=true then 3
   else if (!(eV y.src)||!(eV y.tgt))=true then 2 else 0)
 else bU [y.name] before
def o_(p:aF)(i:Nat):Int:=match p.asserts[i]? with
 | some y=>AB p.types.length ((p.asserts.take i).map (·.name)) y
 | none=>0
def qY(p:aF):Int:=if 64<p.asserts.length then 4 else aJ (o_ p) p.asserts.length 0
theorem KR(w:World)(c0 c1 c2 c3 c4 c5 c6 c7 c8 c9 aR aO aN aQ aM aL aP:Value)(p:aF)(hp:aK w c0 c1 c2 c3 c4 c5 c6 c7 c8 c9 aR aO aN aQ aM aL aP p)(hok:p.Ok):Calls Tryz.prog 51 #[.agg #[c0,c1,c2,c3,c4,c5,c6,c7,c8,c9,aR,aO,aN,aQ,aM,aL,aP]] w fun e w'=>e=.returned (.int .i64 (qY p))∧aww w.heap.size w w':=by
 obtain⟨_,_,_,_,_,_,_,_,_,_,_,_,_,_,_,_,_,_,_,_,_,_,_,_,_,_,_,_,_,_,_,_,_,_,rfl,rfl,rfl,rfl,rfl,rfl,rfl,rfl,rfl,rfl,rfl,rfl,rfl,rfl,rfl,rfl,rfl⟩:=hp.open;have Dr:=hok.wJ;refine dD [] (fn:=Tryz.f51) Tryz.func51 rfl Tryz.ntmps51 rfl<|fun g1 w1 M1=>lb 0<|an rfl<|an (fun h M=>⟨ri (if_pos (by simp at h;omega)),M.below⟩) fun h=>?_
 have hr:¬ 64<p.asserts.length:=by simp at h;omega
 rw[show qY p=aJ (o_ p) p.asserts.length 0 from if_neg hr];refine lq (ι:=Nat×Value) (fun(m,u)=>[(3,u),(4,.int .i64 (m:Int))]) (fun(m,u)=>[⟨u,9,1,m,((p.asserts.take m).map (·.name)).flatMap aX⟩]) (fun(m,u) _=>m≤p.asserts.length∧aJ (o_ p) p.asserts.length 0=aJ (o_ p) (p.asserts.length-m) m) (fun(m,u)=>p.asserts.length-m) (0,.slice none 0 0) (an ⟨⟨rfl,rfl,trivial⟩,fun M=>⟨M.bM 9 1,awx _,by rw[Nat.sub_zero]⟩⟩ ?_);rintro⟨m,u⟩ w M ⟨hm,hinv⟩;refine lb 0<|an rfl<|an (fun h2=>?_) fun h2 M=>⟨ri (by rw[hinv,show m=p.asserts.length by simp at h2;omega,cI]),M.below⟩
 have hlt:m<p.asserts.length:=by simp at h2;omega
 obtain⟨y,hy⟩:∃ y,p.asserts[m]?=some y:=⟨_,awA hlt⟩;have qB:=hok.asserts y (awz hy);obtain⟨b,o,e,hc⟩:=SliceAt.elt hp.asserts (fun _=>rfl) (by decide) hy hlt;have hcf:o_ p m=AB p.types.length ((p.asserts.take m).map (·.name)) y:=by unfold o_;rw[hy]
 have out:∀ v:Int,AB p.types.length ((p.asserts.take m).map (·.name)) y=v→v≠0→aJ (o_ p) p.asserts.length 0=v:=fun v h1 h2=>by rw[hinv,cL hlt (by rw[hcf,h1];exact h2),hcf,h1]
 unfold AB at hcf out;refine lb 0<|an rfl<|ia<|an ⟨e,rfl,hlt⟩<|lc<|an (dH M.below hc)<|ei<|an aeE fun g2 w2 M2=>lb 0<|an ⟨rfl,rfl⟩ fun w3 M3=>lb 0<|an rfl<|fun g3 w4 M4=>cl<|an (fE _ _ _ [y.name] ((p.asserts.take m).map (·.name)) (M4.slice 0 rfl rfl rfl (by simp[maxLen])) (je (M4.r 0 rfl) (by simp;omega) rfl) (by simpa using qB.name)) fun w5 M5=>an (fun h3 M=>⟨ri (out _ (if_neg (by simpa using h3)) (by simpa using h3)),M.below⟩) fun h3=>?_
 replace h3:bU [y.name] ((p.asserts.take m).map (·.name))=0:=by simpa using h3
 rw[if_pos h3] at hcf out;refine lb 1<|an rfl<|fun g4 w6 M6=>ap 0 id rfl (M6.slice 0 rfl rfl rfl (by simp[maxLen])) ⟨by unfold maxLen;omega,by omega⟩ fun v5 w7 M7=>lb 2<|an rfl<|lb 2<|an (fun _=>rfl)<|an (fun h M=>⟨ri (out 13 ?_ (by decide)),M.below⟩) fun h=>?_
 ·by_cases h5:y.kind<1
  ·rw[if_pos h5]
  ·rw[if_neg h5,if_pos (by simp at h;omega)]
 rw[if_neg (by simp at h;omega),if_neg (by simp at h;omega)] at hcf out;refine lb 2<|an rfl<|lb 3<|an rfl<|cl<|an (gj _ y.src qB.src _ Dr) fun w8 M8=>lb 2<|an rfl<|lb 3<|an rfl<|cl<|an (gj _ y.tgt qB.tgt _ Dr) fun w9 M9=>an (fun h4 M=>⟨ri (out 3 (if_pos h4) (by decide)),M.below⟩) fun h4=>?_
 rw[if_neg (fun e=>by rw[h4] at e;cases e)] at hcf out;exact an (fun h5 M=>⟨ri (out 2 (if_pos h5) (by decide)),M.below⟩) fun h5=>an (by omega)<|bk (m+1,v5) ⟨rfl,rfl,trivial⟩ (fun M=>⟨(M.only (.cons _ (.cons _ (.cons _ (.refl _)))) (.refl _)).cast rfl (by dsimp only;rw[rF hy]),by omega,hinv.trans (bS hlt (by rw[hcf,if_neg (fun e=>by rw[h5] at e;cases e)]))⟩) (by dsimp only;omega)
deriving instance DecidableEq for aj
def OT(x:Int):List Value:=[.int .u64 x]
theorem oJ(x y:ByteArray):(x.toList == y.toList)=decide (x=y):=by
 rw[awW,decide_eq_true_eq,beq_iff_eq];exact⟨fun h=>by rw[ByteArray.toList_eq,ByteArray.toList_eq] at h;exact ByteArray.ext (Array.toList_inj.1 h),fun h=>by rw[h]⟩
section
variable {α:Type} [DecidableEq α] {l1 l2:List α} {m:Nat} {x y:α}
theorem gN(h:¬ l1.length=l2.length):false=decide (l1=l2):=(decide_eq_false fun e=>h (by rw[e])).symm
theorem jG(hx:l1[m]?=some x)(hy:l2[m]?=some y)(h:decide (x=y)=false):false=decide (l1=l2):=by
 refine(decide_eq_false fun e=>?_).symm;rw[e,hy] at hx;exact of_decide_eq_false h (awG hx).symm
theorem jF(hx:l1[m]?=some x)(hy:l2[m]?=some y)(h:l1.take m=l2.take m)(hq:decide (x=y)=true):l1.take (m+1)=l2.take (m+1):=by
 rw[bn hx,bn hy,h,of_decide_eq_true hq]
theorem gP(hm:m=l1.length)(hl:l1.length=l2.length)(h:l1.take m=l2.take m):true=decide (l1=l2):=by
 subst hm;rw[awJ,hl,awJ] at h;exact(decide_eq_true h).symm
end
theorem WK(x y:bV)(w:World):(Op.equalIn 10000 84 (.agg #[.int .i64 x.kind,.int .u64 x.src.a,.int .u64 x.src.b,.int .u64 x.src.c,.int .u64 x.src.d,.int .u64 x.tgt.a,.int .u64 x.tgt.b,.int .u64 x.tgt.c,.int .u64 x.tgt.d,.int .i64 x.cls,.string x.name,.int .i64 x.res,.int .i64 x.cond]) (.agg #[.int .i64 y.kind,.int .u64 y.src.a,.int .u64 y.src.b,.int .u64 y.src.c,.int .u64 y.src.d,.int .u64 y.tgt.a,.int .u64 y.tgt.b,.int .u64 y.tgt.c,.int .u64 y.tgt.d,.int .i64 y.cls,.string y.name,.int .i64 y.res,.int .i64 y.cond])).run Tryz.prog w=.ok (decide (x=y)) w:=by
 rw[show(10000:Nat)=9997+3 from rfl,agC];congr 1;rw[awW];obtain⟨LI,⟨LH,LG,LD,Lz⟩,⟨Lx,Lw,Lv,Lu⟩,Uc,wu,aeI,abE⟩:=x;obtain⟨Ls,⟨Lr,Lq,Lp,Ln⟩,⟨Lm,Ll,Lk,Lj⟩,T3,wg,aeH,abB⟩:=y;simp only[decide_eq_true_eq,ay.mk.injEq,bV.mk.injEq,Int.natCast_inj,and_assoc]
theorem zj(w0:World)(v1 v2:Value)(l1 l2:List bV)(h1:SliceAt w0 v1 13 l1.length (l1.flatMap bV.cells))(h2:SliceAt w0 v2 13 l2.length (l2.flatMap bV.cells)):Calls Tryz.prog 74 #[v1,v2] w0 (fun(r:Ending) (w':World)=>r=.returned (.bool (decide (l1=l2)))∧aww w0.heap.size w0 w'):=by
 obtain⟨_,_,rfl,-,hm1,-⟩:=h1.form (by decide);obtain⟨_,_,rfl,-⟩:=h2.form (by decide);refine dD [] (fn:=Tryz.f74) Tryz.func74 rfl Tryz.ntmps74 rfl<|an (fun h M=>⟨aH (gN (by simp at h;omega)),M.below⟩) fun h=>lr (ι:=Nat) (fun m=>[(13,.int .i64 (m:Int))]) (fun m _=>m≤l1.length∧l1.take m=l2.take m) (fun m=>l1.length-m) 0 (an ⟨⟨rfl,trivial⟩,fun M=>⟨M,awx _,rfl⟩⟩ ?_)
 have hl:l1.length=l2.length:=by simp at h;omega
 rintro m w M ⟨hm,ht⟩;refine an (fun h3=>?_) fun h3 M=>⟨aH (gP (by simp at h3;omega) hl ht),M.below⟩
 have hlt:m<l1.length:=by simp at h3;omega
 obtain⟨x,y,_,_,_,_,hx,hy,e1,e2⟩:=dS (f:=bV.cells) (k:=13) (fun _=>rfl) (by decide) h1 h2 rfl rfl hlt hl M.below;exact dr (by kernel_rfl)<|ia<|an ⟨e1.1,rfl,hlt⟩<|lc<|an e1.2<|ia<|an ⟨e2.1,rfl,hl▸hlt⟩<|lc<|an e2.2<|ei<|an ⟨adA,WK x y⟩<|fun w hb M=>an (fun h M=>⟨aH (jG hx hy (by simpa using h)),M.below⟩) fun h=>an (by omega)<|bk (m+1) ⟨rfl,trivial⟩ (fun M=>⟨M,by omega,jF hx hy ht (by simpa using h)⟩) (by dsimp only;omega)
theorem qN(w0:World)(v1 v2:Value)(l1 l2:List Int)(h1:SliceAt w0 v1 1 l1.length (l1.flatMap OT))(h2:SliceAt w0 v2 1 l2.length (l2.flatMap OT)):Calls Tryz.prog 77 #[v1,v2] w0 (fun(r:Ending) (w':World)=>r=.returned (.bool (decide (l1=l2)))∧aww w0.heap.size w0 w'):=by
 obtain⟨_,_,rfl,-,hm1,-⟩:=h1.form (by decide);obtain⟨_,_,rfl,-⟩:=h2.form (by decide);refine dD [] (fn:=Tryz.f77) Tryz.func77 rfl Tryz.ntmps77 rfl<|an (fun h M=>⟨aH (gN (by simp at h;omega)),M.below⟩) fun h=>lr (ι:=Nat) (fun m=>[(13,.int .i64 (m:Int))]) (fun m _=>m≤l1.length∧l1.take m=l2.take m) (fun m=>l1.length-m) 0 (an ⟨⟨rfl,trivial⟩,fun M=>⟨M,awx _,rfl⟩⟩ ?_)
 have hl:l1.length=l2.length:=by simp at h;omega
 rintro m w M ⟨hm,ht⟩;refine an (fun h3=>?_) fun h3 M=>⟨aH (gP (by simp at h3;omega) hl ht),M.below⟩
 have hlt:m<l1.length:=by simp at h3;omega
 obtain⟨x,y,_,_,_,_,hx,hy,e1,e2⟩:=dS (f:=OT) (k:=1) (fun _=>rfl) (by decide) h1 h2 rfl rfl hlt hl M.below;exact dr (by kernel_rfl)<|ia<|an ⟨e1.1,rfl,hlt⟩<|lc (x:=.int .u64 x)<|an (e1.2 0 _ rfl)<|ia<|an ⟨e2.1,rfl,hl▸hlt⟩<|lc (x:=.int .u64 y)<|an (e2.2 0 _ rfl)<|fun w hb M=>an (fun h M=>⟨aH (jG hx hy (by simpa using h)),M.below⟩) fun h=>an (by omega)<|bk (m+1) ⟨rfl,trivial⟩ (fun M=>⟨M,by omega,jF hx hy ht (by simpa using h)⟩) (by dsimp only;omega)
theorem WL(x y:aj)(w:World):(Op.equalIn 10000 56 (.agg #[.int .i64 x.kind,.int .u64 x.src.a,.int .u64 x.src.b,.int .u64 x.src.c,.int .u64 x.src.d,.int .u64 x.tgt.a,.int .u64 x.tgt.b,.int .u64 x.tgt.c,.int .u64 x.tgt.d,.bool x.self,.int .i64 x.cls,.int .u32 x.perms,.int .i64 x.cond]) (.agg #[.int .i64 y.kind,.int .u64 y.src.a,.int .u64 y.src.b,.int .u64 y.src.c,.int .u64 y.src.d,.int .u64 y.tgt.a,.int .u64 y.tgt.b,.int .u64 y.tgt.c,.int .u64 y.tgt.d,.bool y.self,.int .i64 y.cls,.int .u32 y.perms,.int .i64 y.cond])).run Tryz.prog w=.ok (decide (x=y)) w:=by
 rw[show(10000:Nat)=9997+3 from rfl,agD];congr 1;rw[awW];obtain⟨LI,⟨LH,LG,LD,Lz⟩,⟨Lx,Lw,Lv,Lu⟩,ah8,Uc,ahj,abE⟩:=x;obtain⟨Ls,⟨Lr,Lq,Lp,Ln⟩,⟨Lm,Ll,Lk,Lj⟩,ah7,T3,ahc,abB⟩:=y;simp only[decide_eq_true_eq,aj.mk.injEq,ay.mk.injEq,Int.natCast_inj,and_assoc]
theorem Gm(w0:World)(v1 v2:Value)(l1 l2:List aj)(h1:SliceAt w0 v1 13 l1.length (l1.flatMap aj.cells))(h2:SliceAt w0 v2 13 l2.length (l2.flatMap aj.cells)):Calls Tryz.prog 141 #[v1,v2] w0 (fun(r:Ending) (w':World)=>r=.returned (.bool (decide (l1=l2)))∧aww w0.heap.size w0 w'):=by
 obtain⟨_,_,rfl,-,hm1,-⟩:=h1.form (by decide);obtain⟨_,_,rfl,-⟩:=h2.form (by decide);refine dD [] (fn:=Tryz.f141) Tryz.func141 rfl Tryz.ntmps141 rfl<|an (fun h M=>⟨aH (gN (by simp at h;omega)),M.below⟩) fun h=>lr (ι:=Nat) (fun m=>[(13,.int .i64 (m:Int))]) (fun m _=>m≤l1.length∧l1.take m=l2.take m) (fun m=>l1.length-m) 0 (an ⟨⟨rfl,trivial⟩,fun M=>⟨M,awx _,rfl⟩⟩ ?_)
 have hl:l1.length=l2.length:=by simp at h;omega
 rintro m w M ⟨hm,ht⟩;refine an (fun h3=>?_) fun h3 M=>⟨aH (gP (by simp at h3;omega) hl ht),M.below⟩
 have hlt:m<l1.length:=by simp at h3;omega
 obtain⟨x,y,_,_,_,_,hx,hy,e1,e2⟩:=dS (f:=aj.cells) (k:=13) (fun _=>rfl) (by decide) h1 h2 rfl rfl hlt hl M.below;exact dr (by kernel_rfl)<|ia<|an ⟨e1.1,rfl,hlt⟩<|lc<|an e1.2<|ia<|an ⟨e2.1,rfl,hl▸hlt⟩<|lc<|an e2.2<|ei<|an ⟨adB,WL x y⟩<|fun w hb M=>an (fun h M=>⟨aH (jG hx hy (by simpa using h)),M.below⟩) fun h=>an (by omega)<|bk (m+1) ⟨rfl,trivial⟩ (fun M=>⟨M,by omega,jF hx hy ht (by simpa using h)⟩) (by dsimp only;omega)
theorem WO(x y:k_)(w:World):(Op.equalIn 10000 203 (.agg #[.int .u64 x.roles.a,.int .u64 x.roles.b,.int .u64 x.roles.c,.int .u64 x.roles.d,.int .u64 x.types.a,.int .u64 x.types.b,.int .u64 x.types.c,.int .u64 x.types.d,.int .i64 x.cls,.int .i64 x.res]) (.agg #[.int .u64 y.roles.a,.int .u64 y.roles.b,.int .u64 y.roles.c,.int .u64 y.roles.d,.int .u64 y.types.a,.int .u64 y.types.b,.int .u64 y.types.c,.int .u64 y.types.d,.int .i64 y.cls,.int .i64 y.res])).run Tryz.prog w=.ok (decide (x=y)) w:=by
 rw[show(10000:Nat)=9997+3 from rfl,adr];congr 1;rw[awW];obtain⟨⟨Ua,T6,T5,T4⟩,⟨Iy,Ix,Iw,Iu⟩,Uc,aeI⟩:=x;obtain⟨⟨TY,TX,TW,TV⟩,⟨Ir,Iq,Ip,Io⟩,T3,aeH⟩:=y;simp only[decide_eq_true_eq,k_.mk.injEq,ay.mk.injEq,Int.natCast_inj,and_assoc]
theorem Gl(w0:World)(v1 v2:Value)(l1 l2:List k_)(h1:SliceAt w0 v1 10 l1.length (l1.flatMap k_.cells))(h2:SliceAt w0 v2 10 l2.length (l2.flatMap k_.cells)):Calls Tryz.prog 142 #[v1,v2] w0 (fun(r:Ending) (w':World)=>r=.returned (.bool (decide (l1=l2)))∧aww w0.heap.size w0 w'):=by
 obtain⟨_,_,rfl,-,hm1,-⟩:=h1.form (by decide);obtain⟨_,_,rfl,-⟩:=h2.form (by decide);refine dD [] (fn:=Tryz.f142) Tryz.func142 rfl Tryz.ntmps142 rfl<|an (fun h M=>⟨aH (gN (by simp at h;omega)),M.below⟩) fun h=>lr (ι:=Nat) (fun m=>[(13,.int .i64 (m:Int))]) (fun m _=>m≤l1.length∧l1.take m=l2.take m) (fun m=>l1.length-m) 0 (an ⟨⟨rfl,trivial⟩,fun M=>⟨M,awx _,rfl⟩⟩ ?_)
 have hl:l1.length=l2.length:=by simp at h;omega
 rintro m w M ⟨hm,ht⟩;refine an (fun h3=>?_) fun h3 M=>⟨aH (gP (by simp at h3;omega) hl ht),M.below⟩
 have hlt:m<l1.length:=by simp at h3;omega
 obtain⟨x,y,_,_,_,_,hx,hy,e1,e2⟩:=dS (f:=k_.cells) (k:=10) (fun _=>rfl) (by decide) h1 h2 rfl rfl hlt hl M.below;exact dr (by kernel_rfl)<|ia<|an ⟨e1.1,rfl,hlt⟩<|lc<|an e1.2<|ia<|an ⟨e2.1,rfl,hl▸hlt⟩<|lc<|an e2.2<|ei<|an ⟨aa7,WO x y⟩<|fun w hb M=>an (fun h M=>⟨aH (jG hx hy (by simpa using h)),M.below⟩) fun h=>an (by omega)<|bk (m+1) ⟨rfl,trivial⟩ (fun M=>⟨M,by omega,jF hx hy ht (by simpa using h)⟩) (by dsimp only;omega)
theorem WM(x y:lu)(w:World):(Op.equalIn 10000 205 (.agg #[.int .u64 x.src.a,.int .u64 x.src.b,.int .u64 x.src.c,.int .u64 x.src.d,.int .u64 x.tgt.a,.int .u64 x.tgt.b,.int .u64 x.tgt.c,.int .u64 x.tgt.d,.int .i64 x.cls,.int .i64 x.rng.low.bf,.int .u64 x.rng.low.cats,.int .i64 x.rng.high.bf,.int .u64 x.rng.high.cats]) (.agg #[.int .u64 y.src.a,.int .u64 y.src.b,.int .u64 y.src.c,.int .u64 y.src.d,.int .u64 y.tgt.a,.int .u64 y.tgt.b,.int .u64 y.tgt.c,.int .u64 y.tgt.d,.int .i64 y.cls,.int .i64 y.rng.low.bf,.int .u64 y.rng.low.cats,.int .i64 y.rng.high.bf,.int .u64 y.rng.high.cats])).run Tryz.prog w=.ok (decide (x=y)) w:=by
 rw[show(10000:Nat)=9996+4 from rfl,adq];congr 1;rw[awW];obtain⟨⟨LH,LG,LD,Lz⟩,⟨Lx,Lw,Lv,Lu⟩,Uc,⟨⟨E3,E4⟩,⟨Dx,Dy⟩⟩⟩:=x;obtain⟨⟨Lr,Lq,Lp,Ln⟩,⟨Lm,Ll,Lk,Lj⟩,T3,⟨⟨E1,E2⟩,⟨Dt,Du⟩⟩⟩:=y;simp only[decide_eq_true_eq,rY.mk.injEq,lu.mk.injEq,vU.mk.injEq,ay.mk.injEq,Int.natCast_inj,and_assoc]
theorem Gj(w0:World)(v1 v2:Value)(l1 l2:List lu)(h1:SliceAt w0 v1 13 l1.length (l1.flatMap lu.cells))(h2:SliceAt w0 v2 13 l2.length (l2.flatMap lu.cells)):Calls Tryz.prog 143 #[v1,v2] w0 (fun(r:Ending) (w':World)=>r=.returned (.bool (decide (l1=l2)))∧aww w0.heap.size w0 w'):=by
 obtain⟨_,_,rfl,-,hm1,-⟩:=h1.form (by decide);obtain⟨_,_,rfl,-⟩:=h2.form (by decide);refine dD [] (fn:=Tryz.f143) Tryz.func143 rfl Tryz.ntmps143 rfl<|an (fun h M=>⟨aH (gN (by simp at h;omega)),M.below⟩) fun h=>lr (ι:=Nat) (fun m=>[(13,.int .i64 (m:Int))]) (fun m _=>m≤l1.length∧l1.take m=l2.take m) (fun m=>l1.length-m) 0 (an ⟨⟨rfl,trivial⟩,fun M=>⟨M,awx _,rfl⟩⟩ ?_)
 have hl:l1.length=l2.length:=by simp at h;omega
 rintro m w M ⟨hm,ht⟩;refine an (fun h3=>?_) fun h3 M=>⟨aH (gP (by simp at h3;omega) hl ht),M.below⟩
 have hlt:m<l1.length:=by simp at h3;omega
 obtain⟨x,y,_,_,_,_,hx,hy,e1,e2⟩:=dS (f:=lu.cells) (k:=13) (fun _=>rfl) (by decide) h1 h2 rfl rfl hlt hl M.below;exact dr (by kernel_rfl)<|ia<|an ⟨e1.1,rfl,hlt⟩<|lc<|an e1.2<|ia<|an ⟨e2.1,rfl,hl▸hlt⟩<|lc<|an e2.2<|ei<|an ⟨aa6,WM x y⟩<|fun w hb M=>an (fun h M=>⟨aH (jG hx hy (by simpa using h)),M.below⟩) fun h=>an (by omega)<|bk (m+1) ⟨rfl,trivial⟩ (fun M=>⟨M,by omega,jF hx hy ht (by simpa using h)⟩) (by dsimp only;omega)
theorem WW(x y:kZ)(w:World):(Op.equalIn 10000 125 (.agg #[.string x.name,.int .i64 x.ctx.user,.int .i64 x.ctx.role,.int .i64 x.ctx.typ,.int .i64 x.ctx.rng.low.bf,.int .u64 x.ctx.rng.low.cats,.int .i64 x.ctx.rng.high.bf,.int .u64 x.ctx.rng.high.cats]) (.agg #[.string y.name,.int .i64 y.ctx.user,.int .i64 y.ctx.role,.int .i64 y.ctx.typ,.int .i64 y.ctx.rng.low.bf,.int .u64 y.ctx.rng.low.cats,.int .i64 y.ctx.rng.high.bf,.int .u64 y.ctx.rng.high.cats])).run Tryz.prog w=.ok (decide (x=y)) w:=by
 rw[show(10000:Nat)=9995+5 from rfl,adx];congr 1;rw[awW];obtain⟨wu,⟨Qu,Qv,Ub,⟨⟨zG,zH⟩,⟨wv,wD⟩⟩⟩⟩:=x;obtain⟨wg,⟨Qr,Qs,T2,⟨⟨zD,zF⟩,⟨wj,wk⟩⟩⟩⟩:=y;simp only[decide_eq_true_eq,yA.mk.injEq,rY.mk.injEq,vU.mk.injEq,kZ.mk.injEq,Int.natCast_inj,and_assoc]
theorem Gi(w0:World)(v1 v2:Value)(l1 l2:List kZ)(h1:SliceAt w0 v1 8 l1.length (l1.flatMap kZ.cells))(h2:SliceAt w0 v2 8 l2.length (l2.flatMap kZ.cells)):Calls Tryz.prog 145 #[v1,v2] w0 (fun(r:Ending) (w':World)=>r=.returned (.bool (decide (l1=l2)))∧aww w0.heap.size w0 w'):=by
 obtain⟨_,_,rfl,-,hm1,-⟩:=h1.form (by decide);obtain⟨_,_,rfl,-⟩:=h2.form (by decide);refine dD [] (fn:=Tryz.f145) Tryz.func145 rfl Tryz.ntmps145 rfl<|an (fun h M=>⟨aH (gN (by simp at h;omega)),M.below⟩) fun h=>lr (ι:=Nat) (fun m=>[(13,.int .i64 (m:Int))]) (fun m _=>m≤l1.length∧l1.take m=l2.take m) (fun m=>l1.length-m) 0 (an ⟨⟨rfl,trivial⟩,fun M=>⟨M,awx _,rfl⟩⟩ ?_)
 have hl:l1.length=l2.length:=by simp at h;omega
 rintro m w M ⟨hm,ht⟩;refine an (fun h3=>?_) fun h3 M=>⟨aH (gP (by simp at h3;omega) hl ht),M.below⟩
 have hlt:m<l1.length:=by simp at h3;omega
 obtain⟨x,y,_,_,_,_,hx,hy,e1,e2⟩:=dS (f:=kZ.cells) (k:=8) (fun _=>rfl) (by decide) h1 h2 rfl rfl hlt hl M.below;exact dr (by kernel_rfl)<|ia<|an ⟨e1.1,rfl,hlt⟩<|lc<|an e1.2<|ia<|an ⟨e2.1,rfl,hl▸hlt⟩<|lc<|an e2.2<|ei<|an ⟨abe,WW x y⟩<|fun w hb M=>an (fun h M=>⟨aH (jG hx hy (by simpa using h)),M.below⟩) fun h=>an (by omega)<|bk (m+1) ⟨rfl,trivial⟩ (fun M=>⟨M,by omega,jF hx hy ht (by simpa using h)⟩) (by dsimp only;omega)
theorem WV(x y:lC)(w:World):(Op.equalIn 10000 127 (.agg #[.string x.pat,.int .i64 x.kind,.int .i64 x.ctx.user,.int .i64 x.ctx.role,.int .i64 x.ctx.typ,.int .i64 x.ctx.rng.low.bf,.int .u64 x.ctx.rng.low.cats,.int .i64 x.ctx.rng.high.bf,.int .u64 x.ctx.rng.high.cats]) (.agg #[.string y.pat,.int .i64 y.kind,.int .i64 y.ctx.user,.int .i64 y.ctx.role,.int .i64 y.ctx.typ,.int .i64 y.ctx.rng.low.bf,.int .u64 y.ctx.rng.low.cats,.int .i64 y.ctx.rng.high.bf,.int .u64 y.ctx.rng.high.cats])).run Tryz.prog w=.ok (decide (x=y)) w:=by
 rw[show(10000:Nat)=9995+5 from rfl,adw];congr 1;rw[awW];obtain⟨alq,LI,⟨Qu,Qv,Ub,⟨⟨zG,zH⟩,⟨wv,wD⟩⟩⟩⟩:=x;obtain⟨alo,Ls,⟨Qr,Qs,T2,⟨⟨zD,zF⟩,⟨wj,wk⟩⟩⟩⟩:=y;simp only[decide_eq_true_eq,yA.mk.injEq,lC.mk.injEq,rY.mk.injEq,vU.mk.injEq,Int.natCast_inj,and_assoc]
theorem Gh(w0:World)(v1 v2:Value)(l1 l2:List lC)(h1:SliceAt w0 v1 9 l1.length (l1.flatMap lC.cells))(h2:SliceAt w0 v2 9 l2.length (l2.flatMap lC.cells)):Calls Tryz.prog 146 #[v1,v2] w0 (fun(r:Ending) (w':World)=>r=.returned (.bool (decide (l1=l2)))∧aww w0.heap.size w0 w'):=by
 obtain⟨_,_,rfl,-,hm1,-⟩:=h1.form (by decide);obtain⟨_,_,rfl,-⟩:=h2.form (by decide);refine dD [] (fn:=Tryz.f146) Tryz.func146 rfl Tryz.ntmps146 rfl<|an (fun h M=>⟨aH (gN (by simp at h;omega)),M.below⟩) fun h=>lr (ι:=Nat) (fun m=>[(13,.int .i64 (m:Int))]) (fun m _=>m≤l1.length∧l1.take m=l2.take m) (fun m=>l1.length-m) 0 (an ⟨⟨rfl,trivial⟩,fun M=>⟨M,awx _,rfl⟩⟩ ?_)
 have hl:l1.length=l2.length:=by simp at h;omega
 rintro m w M ⟨hm,ht⟩;refine an (fun h3=>?_) fun h3 M=>⟨aH (gP (by simp at h3;omega) hl ht),M.below⟩
 have hlt:m<l1.length:=by simp at h3;omega
 obtain⟨x,y,_,_,_,_,hx,hy,e1,e2⟩:=dS (f:=lC.cells) (k:=9) (fun _=>rfl) (by decide) h1 h2 rfl rfl hlt hl M.below;exact dr (by kernel_rfl)<|ia<|an ⟨e1.1,rfl,hlt⟩<|lc<|an e1.2<|ia<|an ⟨e2.1,rfl,hl▸hlt⟩<|lc<|an e2.2<|ei<|an ⟨abd,WV x y⟩<|fun w hb M=>an (fun h M=>⟨aH (jG hx hy (by simpa using h)),M.below⟩) fun h=>an (by omega)<|bk (m+1) ⟨rfl,trivial⟩ (fun M=>⟨M,by omega,jF hx hy ht (by simpa using h)⟩) (by dsimp only;omega)
theorem WU(x y:lE)(w:World):(Op.equalIn 10000 129 (.agg #[.string x.name,.int .i64 x.kind,.int .u64 x.src.a,.int .u64 x.src.b,.int .u64 x.src.c,.int .u64 x.src.d,.int .u64 x.tgt.a,.int .u64 x.tgt.b,.int .u64 x.tgt.c,.int .u64 x.tgt.d]) (.agg #[.string y.name,.int .i64 y.kind,.int .u64 y.src.a,.int .u64 y.src.b,.int .u64 y.src.c,.int .u64 y.src.d,.int .u64 y.tgt.a,.int .u64 y.tgt.b,.int .u64 y.tgt.c,.int .u64 y.tgt.d])).run Tryz.prog w=.ok (decide (x=y)) w:=by
 rw[show(10000:Nat)=9997+3 from rfl,adv];congr 1;rw[awW];obtain⟨wu,LI,⟨LH,LG,LD,Lz⟩,⟨Lx,Lw,Lv,Lu⟩⟩:=x;obtain⟨wg,Ls,⟨Lr,Lq,Lp,Ln⟩,⟨Lm,Ll,Lk,Lj⟩⟩:=y;simp only[decide_eq_true_eq,lE.mk.injEq,ay.mk.injEq,Int.natCast_inj,and_assoc]
theorem Gg(w0:World)(v1 v2:Value)(l1 l2:List lE)(h1:SliceAt w0 v1 10 l1.length (l1.flatMap lE.cells))(h2:SliceAt w0 v2 10 l2.length (l2.flatMap lE.cells)):Calls Tryz.prog 147 #[v1,v2] w0 (fun(r:Ending) (w':World)=>r=.returned (.bool (decide (l1=l2)))∧aww w0.heap.size w0 w'):=by
 obtain⟨_,_,rfl,-,hm1,-⟩:=h1.form (by decide);obtain⟨_,_,rfl,-⟩:=h2.form (by decide);refine dD [] (fn:=Tryz.f147) Tryz.func147 rfl Tryz.ntmps147 rfl<|an (fun h M=>⟨aH (gN (by simp at h;omega)),M.below⟩) fun h=>lr (ι:=Nat) (fun m=>[(13,.int .i64 (m:Int))]) (fun m _=>m≤l1.length∧l1.take m=l2.take m) (fun m=>l1.length-m) 0 (an ⟨⟨rfl,trivial⟩,fun M=>⟨M,awx _,rfl⟩⟩ ?_)
 have hl:l1.length=l2.length:=by simp at h;omega
 rintro m w M ⟨hm,ht⟩;refine an (fun h3=>?_) fun h3 M=>⟨aH (gP (by simp at h3;omega) hl ht),M.below⟩
 have hlt:m<l1.length:=by simp at h3;omega
 obtain⟨x,y,_,_,_,_,hx,hy,e1,e2⟩:=dS (f:=lE.cells) (k:=10) (fun _=>rfl) (by decide) h1 h2 rfl rfl hlt hl M.below;exact dr (by kernel_rfl)<|ia<|an ⟨e1.1,rfl,hlt⟩<|lc<|an e1.2<|ia<|an ⟨e2.1,rfl,hl▸hlt⟩<|lc<|an e2.2<|ei<|an ⟨abb,WU x y⟩<|fun w hb M=>an (fun h M=>⟨aH (jG hx hy (by simpa using h)),M.below⟩) fun h=>an (by omega)<|bk (m+1) ⟨rfl,trivial⟩ (fun M=>⟨M,by omega,jF hx hy ht (by simpa using h)⟩) (by dsimp only;omega)
theorem jm(w0:World)(v1 v2:Value)(l1 l2:List ByteArray)(h1:SliceAt w0 v1 1 l1.length (l1.flatMap aX))(h2:SliceAt w0 v2 1 l2.length (l2.flatMap aX)):Calls Tryz.prog 213 #[v1,v2] w0 (fun(r:Ending) (w':World)=>r=.returned (.bool (decide (l1=l2)))∧aww w0.heap.size w0 w'):=by
 obtain⟨_,_,rfl,-,hm1,-⟩:=h1.form (by decide);obtain⟨_,_,rfl,-⟩:=h2.form (by decide);refine dD [] (fn:=Tryz.f213) Tryz.func213 rfl Tryz.ntmps213 rfl<|an (fun h M=>⟨aH (gN (by simp at h;omega)),M.below⟩) fun h=>lr (ι:=Nat) (fun m=>[(13,.int .i64 (m:Int))]) (fun m _=>m≤l1.length∧l1.take m=l2.take m) (fun m=>l1.length-m) 0 (an ⟨⟨rfl,trivial⟩,fun M=>⟨M,awx _,rfl⟩⟩ ?_)
 have hl:l1.length=l2.length:=by simp at h;omega
 rintro m w M ⟨hm,ht⟩;refine an (fun h3=>?_) fun h3 M=>⟨aH (gP (by simp at h3;omega) hl ht),M.below⟩
 have hlt:m<l1.length:=by simp at h3;omega
 obtain⟨x,y,_,_,_,_,hx,hy,e1,e2⟩:=dS (f:=aX) (k:=1) (fun _=>rfl) (by decide) h1 h2 rfl rfl hlt hl M.below;exact dr (by kernel_rfl)<|ia<|an ⟨e1.1,rfl,hlt⟩<|lc (x:=.string x)<|an (e1.2 0 _ rfl)<|ia<|an ⟨e2.1,rfl,hl▸hlt⟩<|lc (x:=.string y)<|an (e2.2 0 _ rfl)<|fun w hb M=>an (fun h M=>⟨aH (jG hx hy (by rw[← oJ];simpa using h)),M.below⟩) fun h=>an (by omega)<|bk (m+1) ⟨rfl,trivial⟩ (fun M=>⟨M,by omega,jF hx hy ht (by rw[← oJ];simpa using h)⟩) (by dsimp only;omega)
theorem WT(x y:lD)(w:World):(Op.equalIn 10000 184 (.agg #[.string x.name,.int .u64 x.types.a,.int .u64 x.types.b,.int .u64 x.types.c,.int .u64 x.types.d]) (.agg #[.string y.name,.int .u64 y.types.a,.int .u64 y.types.b,.int .u64 y.types.c,.int .u64 y.types.d])).run Tryz.prog w=.ok (decide (x=y)) w:=by
 rw[show(10000:Nat)=9997+3 from rfl,adu];congr 1;rw[awW];obtain⟨wu,⟨Iy,Ix,Iw,Iu⟩⟩:=x;obtain⟨wg,⟨Ir,Iq,Ip,Io⟩⟩:=y;simp only[decide_eq_true_eq,lD.mk.injEq,ay.mk.injEq,Int.natCast_inj]
theorem Gf(w0:World)(v1 v2:Value)(l1 l2:List lD)(h1:SliceAt w0 v1 5 l1.length (l1.flatMap lD.cells))(h2:SliceAt w0 v2 5 l2.length (l2.flatMap lD.cells)):Calls Tryz.prog 218 #[v1,v2] w0 (fun(r:Ending) (w':World)=>r=.returned (.bool (decide (l1=l2)))∧aww w0.heap.size w0 w'):=by
 obtain⟨_,_,rfl,-,hm1,-⟩:=h1.form (by decide);obtain⟨_,_,rfl,-⟩:=h2.form (by decide);refine dD [] (fn:=Tryz.f218) Tryz.func218 rfl Tryz.ntmps218 rfl<|an (fun h M=>⟨aH (gN (by simp at h;omega)),M.below⟩) fun h=>lr (ι:=Nat) (fun m=>[(13,.int .i64 (m:Int))]) (fun m _=>m≤l1.length∧l1.take m=l2.take m) (fun m=>l1.length-m) 0 (an ⟨⟨rfl,trivial⟩,fun M=>⟨M,awx _,rfl⟩⟩ ?_)
 have hl:l1.length=l2.length:=by simp at h;omega
 rintro m w M ⟨hm,ht⟩;refine an (fun h3=>?_) fun h3 M=>⟨aH (gP (by simp at h3;omega) hl ht),M.below⟩
 have hlt:m<l1.length:=by simp at h3;omega
 obtain⟨x,y,_,_,_,_,hx,hy,e1,e2⟩:=dS (f:=lD.cells) (k:=5) (fun _=>rfl) (by decide) h1 h2 rfl rfl hlt hl M.below;exact dr (by kernel_rfl)<|ia<|an ⟨e1.1,rfl,hlt⟩<|lc<|an e1.2<|ia<|an ⟨e2.1,rfl,hl▸hlt⟩<|lc<|an e2.2<|ei<|an ⟨aa_,WT x y⟩<|fun w hb M=>an (fun h M=>⟨aH (jG hx hy (by simpa using h)),M.below⟩) fun h=>an (by omega)<|bk (m+1) ⟨rfl,trivial⟩ (fun M=>⟨M,by omega,jF hx hy ht (by simpa using h)⟩) (by dsimp only;omega)
theorem WS(x y:iI)(w:World):(Op.equalIn 10000 188 (.agg #[.string x.name,.int .u64 x.types.a,.int .u64 x.types.b,.int .u64 x.types.c,.int .u64 x.types.d,.int .u64 x.next.a,.int .u64 x.next.b,.int .u64 x.next.c,.int .u64 x.next.d]) (.agg #[.string y.name,.int .u64 y.types.a,.int .u64 y.types.b,.int .u64 y.types.c,.int .u64 y.types.d,.int .u64 y.next.a,.int .u64 y.next.b,.int .u64 y.next.c,.int .u64 y.next.d])).run Tryz.prog w=.ok (decide (x=y)) w:=by
 rw[show(10000:Nat)=9997+3 from rfl,WJ];congr 1;rw[awW];obtain⟨wu,⟨Iy,Ix,Iw,Iu⟩,⟨ahn,ahm,ahl,ahk⟩⟩:=x;obtain⟨wg,⟨Ir,Iq,Ip,Io⟩,⟨ahg,ahf,ahe,ahd⟩⟩:=y;simp only[decide_eq_true_eq,iI.mk.injEq,ay.mk.injEq,Int.natCast_inj,and_assoc]
theorem Ge(w0:World)(v1 v2:Value)(l1 l2:List iI)(h1:SliceAt w0 v1 9 l1.length (l1.flatMap iI.cells))(h2:SliceAt w0 v2 9 l2.length (l2.flatMap iI.cells)):Calls Tryz.prog 219 #[v1,v2] w0 (fun(r:Ending) (w':World)=>r=.returned (.bool (decide (l1=l2)))∧aww w0.heap.size w0 w'):=by
 obtain⟨_,_,rfl,-,hm1,-⟩:=h1.form (by decide);obtain⟨_,_,rfl,-⟩:=h2.form (by decide);refine dD [] (fn:=Tryz.f219) Tryz.func219 rfl Tryz.ntmps219 rfl<|an (fun h M=>⟨aH (gN (by simp at h;omega)),M.below⟩) fun h=>lr (ι:=Nat) (fun m=>[(13,.int .i64 (m:Int))]) (fun m _=>m≤l1.length∧l1.take m=l2.take m) (fun m=>l1.length-m) 0 (an ⟨⟨rfl,trivial⟩,fun M=>⟨M,awx _,rfl⟩⟩ ?_)
 have hl:l1.length=l2.length:=by simp at h;omega
 rintro m w M ⟨hm,ht⟩;refine an (fun h3=>?_) fun h3 M=>⟨aH (gP (by simp at h3;omega) hl ht),M.below⟩
 have hlt:m<l1.length:=by simp at h3;omega
 obtain⟨x,y,_,_,_,_,hx,hy,e1,e2⟩:=dS (f:=iI.cells) (k:=9) (fun _=>rfl) (by decide) h1 h2 rfl rfl hlt hl M.below;exact dr (by kernel_rfl)<|ia<|an ⟨e1.1,rfl,hlt⟩<|lc<|an e1.2<|ia<|an ⟨e2.1,rfl,hl▸hlt⟩<|lc<|an e2.2<|ei<|an ⟨WZ,WS x y⟩<|fun w hb M=>an (fun h M=>⟨aH (jG hx hy (by simpa using h)),M.below⟩) fun h=>an (by omega)<|bk (m+1) ⟨rfl,trivial⟩ (fun M=>⟨M,by omega,jF hx hy ht (by simpa using h)⟩) (by dsimp only;omega)
theorem WR(x y:kJ)(w:World):(Op.equalIn 10000 192 (.agg #[.string x.name,.int .u64 x.roles.a,.int .u64 x.roles.b,.int .u64 x.roles.c,.int .u64 x.roles.d,.int .i64 x.dflt.bf,.int .u64 x.dflt.cats,.int .i64 x.rng.low.bf,.int .u64 x.rng.low.cats,.int .i64 x.rng.high.bf,.int .u64 x.rng.high.cats]) (.agg #[.string y.name,.int .u64 y.roles.a,.int .u64 y.roles.b,.int .u64 y.roles.c,.int .u64 y.roles.d,.int .i64 y.dflt.bf,.int .u64 y.dflt.cats,.int .i64 y.rng.low.bf,.int .u64 y.rng.low.cats,.int .i64 y.rng.high.bf,.int .u64 y.rng.high.cats])).run Tryz.prog w=.ok (decide (x=y)) w:=by
 rw[show(10000:Nat)=9996+4 from rfl,adt];congr 1;rw[awW];obtain⟨wu,⟨Ua,T6,T5,T4⟩,⟨abC,abD⟩,⟨⟨E3,E4⟩,⟨Dx,Dy⟩⟩⟩:=x;obtain⟨wg,⟨TY,TX,TW,TV⟩,⟨abz,abA⟩,⟨⟨E1,E2⟩,⟨Dt,Du⟩⟩⟩:=y;simp only[decide_eq_true_eq,rY.mk.injEq,vU.mk.injEq,ay.mk.injEq,kJ.mk.injEq,Int.natCast_inj,and_assoc]
theorem Gc(w0:World)(v1 v2:Value)(l1 l2:List kJ)(h1:SliceAt w0 v1 11 l1.length (l1.flatMap kJ.cells))(h2:SliceAt w0 v2 11 l2.length (l2.flatMap kJ.cells)):Calls Tryz.prog 220 #[v1,v2] w0 (fun(r:Ending) (w':World)=>r=.returned (.bool (decide (l1=l2)))∧aww w0.heap.size w0 w'):=by
 obtain⟨_,_,rfl,-,hm1,-⟩:=h1.form (by decide);obtain⟨_,_,rfl,-⟩:=h2.form (by decide);refine dD [] (fn:=Tryz.f220) Tryz.func220 rfl Tryz.ntmps220 rfl<|an (fun h M=>⟨aH (gN (by simp at h;omega)),M.below⟩) fun h=>lr (ι:=Nat) (fun m=>[(13,.int .i64 (m:Int))]) (fun m _=>m≤l1.length∧l1.take m=l2.take m) (fun m=>l1.length-m) 0 (an ⟨⟨rfl,trivial⟩,fun M=>⟨M,awx _,rfl⟩⟩ ?_)
 have hl:l1.length=l2.length:=by simp at h;omega
 rintro m w M ⟨hm,ht⟩;refine an (fun h3=>?_) fun h3 M=>⟨aH (gP (by simp at h3;omega) hl ht),M.below⟩
 have hlt:m<l1.length:=by simp at h3;omega
 obtain⟨x,y,_,_,_,_,hx,hy,e1,e2⟩:=dS (f:=kJ.cells) (k:=11) (fun _=>rfl) (by decide) h1 h2 rfl rfl hlt hl M.below;exact dr (by kernel_rfl)<|ia<|an ⟨e1.1,rfl,hlt⟩<|lc<|an e1.2<|ia<|an ⟨e2.1,rfl,hl▸hlt⟩<|lc<|an e2.2<|ei<|an ⟨aa9,WR x y⟩<|fun w hb M=>an (fun h M=>⟨aH (jG hx hy (by simpa using h)),M.below⟩) fun h=>an (by omega)<|bk (m+1) ⟨rfl,trivial⟩ (fun M=>⟨M,by omega,jF hx hy ht (by simpa using h)⟩) (by dsimp only;omega)
theorem WQ(x y:iP)(w:World):(Op.equalIn 10000 197 (.agg #[.string x.name,.bool x.val]) (.agg #[.string y.name,.bool y.val])).run Tryz.prog w=.ok (decide (x=y)) w:=by
 rw[show(10000:Nat)=9998+2 from rfl,ads];congr 1;rw[awW];obtain⟨wu,alp⟩:=x;obtain⟨wg,aln⟩:=y;simp only[decide_eq_true_eq,iP.mk.injEq]
theorem Gb(w0:World)(v1 v2:Value)(l1 l2:List iP)(h1:SliceAt w0 v1 2 l1.length (l1.flatMap iP.cells))(h2:SliceAt w0 v2 2 l2.length (l2.flatMap iP.cells)):Calls Tryz.prog 221 #[v1,v2] w0 (fun(r:Ending) (w':World)=>r=.returned (.bool (decide (l1=l2)))∧aww w0.heap.size w0 w'):=by
 obtain⟨_,_,rfl,-,hm1,-⟩:=h1.form (by decide);obtain⟨_,_,rfl,-⟩:=h2.form (by decide);refine dD [] (fn:=Tryz.f221) Tryz.func221 rfl Tryz.ntmps221 rfl<|an (fun h M=>⟨aH (gN (by simp at h;omega)),M.below⟩) fun h=>lr (ι:=Nat) (fun m=>[(13,.int .i64 (m:Int))]) (fun m _=>m≤l1.length∧l1.take m=l2.take m) (fun m=>l1.length-m) 0 (an ⟨⟨rfl,trivial⟩,fun M=>⟨M,awx _,rfl⟩⟩ ?_)
 have hl:l1.length=l2.length:=by simp at h;omega
 rintro m w M ⟨hm,ht⟩;refine an (fun h3=>?_) fun h3 M=>⟨aH (gP (by simp at h3;omega) hl ht),M.below⟩
 have hlt:m<l1.length:=by simp at h3;omega
 obtain⟨x,y,_,_,_,_,hx,hy,e1,e2⟩:=dS (f:=iP.cells) (k:=2) (fun _=>rfl) (by decide) h1 h2 rfl rfl hlt hl M.below;exact dr (by kernel_rfl)<|ia<|an ⟨e1.1,rfl,hlt⟩<|lc<|an e1.2<|ia<|an ⟨e2.1,rfl,hl▸hlt⟩<|lc<|an e2.2<|ei<|an ⟨aa8,WQ x y⟩<|fun w hb M=>an (fun h M=>⟨aH (jG hx hy (by simpa using h)),M.below⟩) fun h=>an (by omega)<|bk (m+1) ⟨rfl,trivial⟩ (fun M=>⟨M,by omega,jF hx hy ht (by simpa using h)⟩) (by dsimp only;omega)
def QH(z:bV×List Bool):List Value:=z.1.cells
structure ng (w:World) (u1 u2:Value) (L:List (bV×List Bool)):Prop where
 tr:SliceAt w u1 13 L.length (L.flatMap QH)
 wh:∃ vs:List Value,vs.length=L.length∧SliceAt w u2 1 L.length vs∧∀ (i:Nat) v z,vs[i]?=some v→L[i]?=some z→fZ w v z.2
theorem ng.keep{w w':World}{u1 u2:Value}{L:List (bV×List Bool)}(h:ng w u1 u2 L)(hb:aww w.heap.size w w'):ng w' u1 u2 L:=by
 obtain⟨vs,h1,h2,h3⟩:=h.wh;exact⟨h.tr.keep hb,vs,h1,h2.keep hb,fun i v row a b=>(h3 i v row a b).keep hb⟩
theorem ng.get{w:World}{u1 u2:Value}{L:List (bV×List Bool)}(h:ng w u1 u2 L):∃ a c a' c',u1=.slice a L.length c∧u2=.slice a' L.length c'∧L.length≤9223372036854775807∧∀ (i:Nat) z,L[i]?=some z→∃ b off b' off' v,a=some ⟨b,off,none⟩∧(∀ j u,z.1.cells[j]?=some u→w.cell? ⟨b,off+i*13+j,none⟩=some u) ∧
 a'=some ⟨b',off',none⟩∧w.cell? ⟨b',off'+i*1,none⟩=some v∧fZ w v z.2:=by
 obtain⟨vs,h1,h2,h3⟩:=h.wh;obtain⟨a,c,rfl,-,hm,-⟩:=h.tr.form (by decide);obtain⟨a',c',rfl,-,-,hc⟩:=h2.form (by decide);refine⟨a,c,a',c',rfl,rfl,hm,fun i z hz=>?_⟩;have hlt:=(awO.1 hz).1;obtain⟨b,off,rfl,hcz⟩:=h.tr.elt (f:=QH) (fun _=>rfl) (by decide) hz hlt;obtain⟨b',off',rfl,hc'⟩:=hc i hlt;obtain⟨v,hv⟩:∃ v,vs[i]?=some v:=⟨_,awA (h1▸hlt)⟩;exact⟨b,off,b',off',v,rfl,hcz,rfl,hc' 0 _ (by simpa using hv),h3 i v z hv hz⟩
def au{α:Type}(p:α→α→Bool):List α→List α→Bool
 | [],[]=>true
 | x::l,y::r=>p x y&&au p l r
 | _,_=>false
section
variable {α:Type} {p:α→α→Bool} {l1 l2:List α} {m:Nat} {x y:α}
theorem tY(h:¬ l1.length=l2.length):false=au p l1 l2:=by
 induction l1 generalizing l2 with
 | nil=>cases l2 with
  | nil=>exact absurd rfl h
  | cons y r=>rfl
 | cons x l ih=>cases l2 with
  | nil=>rfl
  | cons y r=>rw[au,← ih (fun e=>h (by rw[List.length_cons,List.length_cons,e])),Bool.and_false]
theorem P_(hx:l1[m]?=some x)(hy:l2[m]?=some y):au p (l1.drop m) (l2.drop m)=(p x y&&au p (l1.drop (m+1)) (l2.drop (m+1))):=by
 rw[List.drop_eq_getElem_cons (awO.1 hx).1,(awO.1 hx).2,List.drop_eq_getElem_cons (awO.1 hy).1,(awO.1 hy).2,au]
theorem KT(hx:l1[m]?=some x)(hy:l2[m]?=some y)(h:au p l1 l2=au p (l1.drop m) (l2.drop m))(hq:p x y=false):false=au p l1 l2:=by
 rw[h,P_ hx hy,hq];rfl
theorem KS(hx:l1[m]?=some x)(hy:l2[m]?=some y)(h:au p l1 l2=au p (l1.drop m) (l2.drop m))(hq:p x y=true):au p l1 l2=au p (l1.drop (m+1)) (l2.drop (m+1)):=by
 rw[h,P_ hx hy,hq];rfl
theorem C8(hm:m=l1.length)(hl:l1.length=l2.length)(h:au p l1 l2=au p (l1.drop m) (l2.drop m)):true=au p l1 l2:=by
 subst hm;rw[h,List.drop_length,hl,List.drop_length];rfl
end
mutual
def eW:aA→aA→Bool
 | .node op a rel b names set kids,y=>(((((decide (op=y.op)&&decide (a=y.a))&&decide (rel=y.rel))&&decide (b=y.b))&&decide (set=y.set))&&decide (names=y.names))&&nu kids y.kids
def nu:List aA→List aA→Bool
 | [],[]=>true
 | x::l,y::r=>eW x y&&nu l r
 | [],_::_=>false
 | _::_,[]=>false
end
theorem Ed:∀ l r:List aA,nu l r=au eW l r
 | [],[]=>by rw[nu];rfl
 | x::l,y::r=>by rw[nu,Ed l r];rfl
 | [],_::_=>by rw[nu];rfl
 | _::_,[]=>by rw[nu];rfl
theorem Bp(x y:aA):eW x y=((((((decide (x.op=y.op)&&decide (x.a=y.a))&&decide (x.rel=y.rel))&&decide (x.b=y.b))&&decide (x.set=y.set))&&decide (x.names=y.names))&&au eW x.kids y.kids):=by
 cases x;rw[eW,Ed];rfl
theorem sH(w0:World)(v1 v2:Value)(l1 l2:List aA)(h1:mG w0 v1 l1)(h2:mG w0 v2 l2)(hF:∀ x∈l1,∀ (y:aA) (w:World) (cx cy:List Value),bB w cx x→bB w cy y→Calls Tryz.prog 138 #[.agg cx.toArray,.agg cy.toArray] w fun r w'=>r=.returned (.bool (eW x y))∧aww w.heap.size w w'):Calls Tryz.prog 140 #[v1,v2,.func (.func 138) #[] #[]] w0 (fun(r:Ending) (w':World)=>r=.returned (.bool (au eW l1 l2))∧aww w0.heap.size w0 w'):=by
 obtain⟨_,_,rfl,-,hm1,-⟩:=aC.form h1 (by decide);obtain⟨_,_,rfl,-⟩:=aC.form h2 (by decide);refine dD [] (fn:=Tryz.f140) Tryz.func140 rfl Tryz.ntmps140 rfl<|an (fun h M=>⟨rb (tY (by simp at h;omega)).symm,M.below⟩) fun h=>?_
 have hl:l1.length=l2.length:=by simp at h;omega
 refine lr (ι:=Nat) (fun m=>[(17,.int .i64 (m:Int))]) (fun m _=>m≤l1.length∧au eW l1 l2=au eW (l1.drop m) (l2.drop m)) (fun m=>l1.length-m) 0 (an ⟨⟨rfl,trivial⟩,fun M=>⟨M,awx _,rfl⟩⟩ ?_);intro m w M ⟨hm,hI⟩;refine an (fun h3=>?_) fun h3 M=>⟨rb (C8 (by simp at h3;omega) hl hI).symm,M.below⟩
 have hlt:m<l1.length:=by simp at h3;omega
 have hlt2:m<l2.length:=by omega
 obtain⟨x,hx⟩:∃ x,l1[m]?=some x:=⟨_,awA hlt⟩;obtain⟨y,hy⟩:∃ y,l2[m]?=some y:=⟨_,awA hlt2⟩;obtain⟨b1,o1,_,e1,Ct,hc1⟩:=aC.elt h1 (by decide) hx;obtain⟨b2,o2,_,e2,he2,hc2⟩:=aC.elt h2 (by decide) hy;obtain⟨_,_,rfl,hn1,hk1⟩:=Ct.open;obtain⟨_,_,rfl,-⟩:=aU.get hn1;obtain⟨_,_,rfl,-⟩:=aC.form hk1 (by decide);obtain⟨_,_,rfl,hn2,hk2⟩:=he2.open;obtain⟨_,_,rfl,-⟩:=aU.get hn2;obtain⟨_,_,rfl,-⟩:=aC.form hk2 (by decide);exact ia<|an ⟨e1,rfl,hlt⟩<|lc<|an (dH M.below hc1)<|ei<|an AP fun g1 w1 M1=>lb 0<|an ⟨rfl,rfl⟩ fun w2 M2=>ia<|an ⟨e2,rfl,hlt2⟩<|lc<|an (dH M2.below hc2)<|ei<|an AP fun g2 w3 M3=>lb 0<|an ⟨rfl,rfl⟩ fun w4 M4=>lb 1<|an rfl<|lb 0<|an rfl<|cl<|an (hF x (awz hx) y _ _ _ (Ct.keep M4.below) (he2.keep M4.below)) fun w5 M5=>an (fun hq M=>⟨rb (KT hx hy hI (by simpa using hq)).symm,M.below⟩) fun hq=>an (by omega)<|bk (m+1) ⟨rfl,trivial⟩ (fun M=>⟨M.only (.cons _ (.cons _ (.refl _))) (.refl _),by omega,KS hx hy hI (by simpa using hq)⟩) (by dsimp only;omega)
theorem uF:∀ (x y:aA) (w0:World) (cx cy:List Value),bB w0 cx x→bB w0 cy y→Calls Tryz.prog 138 #[.agg cx.toArray,.agg cy.toArray] w0 (fun(r:Ending) (w':World)=>r=.returned (.bool (eW x y))∧aww w0.heap.size w0 w'):=by
 refine aA.ind fun x ih=>?_
 intro y w0 cx cy hx hy;obtain⟨_,_,rfl,hn1,hk1⟩:=hx.open;obtain⟨_,_,rfl,hn2,hk2⟩:=hy.open;obtain⟨_,_,rfl,-⟩:=aU.get hn1;obtain⟨_,_,rfl,-⟩:=aU.get hn2;obtain⟨_,_,rfl,-⟩:=aC.form hk1 (by decide);obtain⟨_,_,rfl,-⟩:=aC.form hk2 (by decide);exact dD [] (fn:=Tryz.f138) Tryz.func138 rfl Tryz.ntmps138 rfl<|fun g1 w1 M1=>fun g2 w2 M2=>lb 1<|an rfl<|lb 0<|an rfl<|lb 1<|an (fun _=>rfl)<|lb 0<|an (fun _=>rfl)<|lb 1<|an (fun _=>rfl)<|lb 0<|an (fun _=>rfl)<|lb 1<|an (fun _=>rfl)<|lb 0<|an (fun _=>rfl)<|lb 1<|an (fun _=>rfl)<|lb 0<|an (fun _=>rfl)<|ei (x:=decide (x.set=y.set))<|an (fun _=>⟨rV,fun w=>pK x.set y.set w⟩)<|lb 1<|an (fun _=>rfl)<|lb 0<|an (fun _=>rfl)<|cl<|an (fun _=>jm _ _ _ x.names y.names (hn1.keep M2.below) (hn2.keep M2.below)) fun w3 M3=>lb 1<|an (fun _=>rfl)<|lb 0<|an (fun _=>rfl)<|cl<|an (fun _=>sH _ _ _ x.kids y.kids (mG.keep hk1 M3.below) (mG.keep hk2 M3.below) fun k hk y w cx cy h1 h2=>ih k hk y w cx cy h1 h2) fun w4 M4=>fun M=>⟨rb (Bp x y),M.below⟩
def mP(x y:mI):Bool:=(x.name.toList == y.name.toList)&&decide (x.perms=y.perms)
def nZ(x y:mM):Bool:=((x.name.toList == y.name.toList)&&(x.perm == y.perm))&&decide (x.pq=y.pq)
def sC(x y:pF):Bool:=((decide (x.cls=y.cls)&&decide (x.perms=y.perms))&&(x.val == y.val))&&eW x.expr y.expr
theorem Q5(w0:World)(x y:mI)(JA Va:Value)(hn1:aU w0 JA x.perms)(hn2:aU w0 Va y.perms):Calls Tryz.prog 214 #[.agg #[.string x.name,JA],.agg #[.string y.name,Va]] w0 (fun(r:Ending) (w':World)=>r=.returned (.bool (mP x y))∧aww w0.heap.size w0 w'):=by
 obtain⟨_,_,rfl,-⟩:=aU.get hn1;obtain⟨_,_,rfl,-⟩:=aU.get hn2;exact dD [] (fn:=Tryz.f214) Tryz.func214 rfl Tryz.ntmps214 rfl<|fun g1 w1 M1=>fun g2 w2 M2=>lb 1<|an rfl<|lb 0<|an rfl<|lb 1<|an (fun _=>rfl)<|lb 0<|an (fun _=>rfl)<|cl<|an (fun _=>jm _ _ _ x.perms y.perms (hn1.keep M2.below) (hn2.keep M2.below)) fun w3 M3=>fun M=>⟨rfl,M.below⟩
theorem DL(w0:World)(v1 v2:Value)(l1 l2:List mI)(h1:aC 2 (q_ w0) w0 v1 l1)(h2:aC 2 (q_ w0) w0 v2 l2):Calls Tryz.prog 216 #[v1,v2,.func (.func 214) #[] #[]] w0 (fun(r:Ending) (w':World)=>r=.returned (.bool (au mP l1 l2))∧aww w0.heap.size w0 w'):=by
 obtain⟨_,_,rfl,-,hm1,-⟩:=aC.form h1 (by decide);obtain⟨_,_,rfl,-⟩:=aC.form h2 (by decide);refine dD [] (fn:=Tryz.f216) Tryz.func216 rfl Tryz.ntmps216 rfl<|an (fun h M=>⟨rb (tY (by simp at h;omega)).symm,M.below⟩) fun h=>?_
 have hl:l1.length=l2.length:=by simp at h;omega
 refine lr (ι:=Nat) (fun m=>[(17,.int .i64 (m:Int))]) (fun m _=>m≤l1.length∧au mP l1 l2=au mP (l1.drop m) (l2.drop m)) (fun m=>l1.length-m) 0 (an ⟨⟨rfl,trivial⟩,fun M=>⟨M,awx _,rfl⟩⟩ ?_);intro m w M ⟨hm,hI⟩;refine an (fun h3=>?_) fun h3 M=>⟨rb (C8 (by simp at h3;omega) hl hI).symm,M.below⟩
 have hlt:m<l1.length:=by simp at h3;omega
 have hlt2:m<l2.length:=by omega
 obtain⟨x,hx⟩:∃ x,l1[m]?=some x:=⟨_,awA hlt⟩;obtain⟨y,hy⟩:∃ y,l2[m]?=some y:=⟨_,awA hlt2⟩;obtain⟨b1,o1,_,e1,Ct,hc1⟩:=aC.elt h1 (by decide) hx;obtain⟨b2,o2,_,e2,he2,hc2⟩:=aC.elt h2 (by decide) hy;obtain⟨_,rfl,hn1⟩:=Ct;obtain⟨_,_,rfl,-⟩:=aU.get hn1;obtain⟨_,rfl,hn2⟩:=he2;obtain⟨_,_,rfl,-⟩:=aU.get hn2;exact ia<|an ⟨e1,rfl,hlt⟩<|lc<|an (dH M.below hc1)<|ei<|an OG fun g1 w1 M1=>lb 0<|an ⟨rfl,rfl⟩ fun w2 M2=>ia<|an ⟨e2,rfl,hlt2⟩<|lc<|an (dH M2.below hc2)<|ei<|an OG fun g2 w3 M3=>lb 0<|an ⟨rfl,rfl⟩ fun w4 M4=>lb 1<|an rfl<|lb 0<|an rfl<|cl<|an (Q5 _ x y _ _ (hn1.keep M4.below) (hn2.keep M4.below)) fun w5 M5=>an (fun hq M=>⟨rb (KT hx hy hI (by simpa using hq)).symm,M.below⟩) fun hq=>an (by omega)<|bk (m+1) ⟨rfl,trivial⟩ (fun M=>⟨M.only (.cons _ (.cons _ (.refl _))) (.refl _),by omega,KS hx hy hI (by simpa using hq)⟩) (by dsimp only;omega)
theorem QY(w0:World)(x y:mM)(JA Va:Value)(hn1:aU w0 JA x.pq)(hn2:aU w0 Va y.pq):Calls Tryz.prog 215 #[.agg #[.string x.name,JA,.bool x.perm],.agg #[.string y.name,Va,.bool y.perm]] w0 (fun(r:Ending) (w':World)=>r=.returned (.bool (nZ x y))∧aww w0.heap.size w0 w'):=by
 obtain⟨_,_,rfl,-⟩:=aU.get hn1;obtain⟨_,_,rfl,-⟩:=aU.get hn2;exact dD [] (fn:=Tryz.f215) Tryz.func215 rfl Tryz.ntmps215 rfl<|fun g1 w1 M1=>fun g2 w2 M2=>lb 1<|an rfl<|lb 0<|an rfl<|lb 1<|an (fun _=>rfl)<|lb 0<|an (fun _=>rfl)<|lb 1<|an (fun _=>rfl)<|lb 0<|an (fun _=>rfl)<|cl<|an (fun _=>jm _ _ _ x.pq y.pq (hn1.keep M2.below) (hn2.keep M2.below)) fun w3 M3=>fun M=>⟨rfl,M.below⟩
theorem DK(w0:World)(v1 v2:Value)(l1 l2:List mM)(h1:aC 3 (qZ w0) w0 v1 l1)(h2:aC 3 (qZ w0) w0 v2 l2):Calls Tryz.prog 217 #[v1,v2,.func (.func 215) #[] #[]] w0 (fun(r:Ending) (w':World)=>r=.returned (.bool (au nZ l1 l2))∧aww w0.heap.size w0 w'):=by
 obtain⟨_,_,rfl,-,hm1,-⟩:=aC.form h1 (by decide);obtain⟨_,_,rfl,-⟩:=aC.form h2 (by decide);refine dD [] (fn:=Tryz.f217) Tryz.func217 rfl Tryz.ntmps217 rfl<|an (fun h M=>⟨rb (tY (by simp at h;omega)).symm,M.below⟩) fun h=>?_
 have hl:l1.length=l2.length:=by simp at h;omega
 refine lr (ι:=Nat) (fun m=>[(17,.int .i64 (m:Int))]) (fun m _=>m≤l1.length∧au nZ l1 l2=au nZ (l1.drop m) (l2.drop m)) (fun m=>l1.length-m) 0 (an ⟨⟨rfl,trivial⟩,fun M=>⟨M,awx _,rfl⟩⟩ ?_);intro m w M ⟨hm,hI⟩;refine an (fun h3=>?_) fun h3 M=>⟨rb (C8 (by simp at h3;omega) hl hI).symm,M.below⟩
 have hlt:m<l1.length:=by simp at h3;omega
 have hlt2:m<l2.length:=by omega
 obtain⟨x,hx⟩:∃ x,l1[m]?=some x:=⟨_,awA hlt⟩;obtain⟨y,hy⟩:∃ y,l2[m]?=some y:=⟨_,awA hlt2⟩;obtain⟨b1,o1,_,e1,Ct,hc1⟩:=aC.elt h1 (by decide) hx;obtain⟨b2,o2,_,e2,he2,hc2⟩:=aC.elt h2 (by decide) hy;obtain⟨_,rfl,hn1⟩:=Ct;obtain⟨_,_,rfl,-⟩:=aU.get hn1;obtain⟨_,rfl,hn2⟩:=he2;obtain⟨_,_,rfl,-⟩:=aU.get hn2;exact ia<|an ⟨e1,rfl,hlt⟩<|lc<|an (dH M.below hc1)<|ei<|an abx fun g1 w1 M1=>lb 0<|an ⟨rfl,rfl⟩ fun w2 M2=>ia<|an ⟨e2,rfl,hlt2⟩<|lc<|an (dH M2.below hc2)<|ei<|an abx fun g2 w3 M3=>lb 0<|an ⟨rfl,rfl⟩ fun w4 M4=>lb 1<|an rfl<|lb 0<|an rfl<|cl<|an (QY _ x y _ _ (hn1.keep M4.below) (hn2.keep M4.below)) fun w5 M5=>an (fun hq M=>⟨rb (KT hx hy hI (by simpa using hq)).symm,M.below⟩) fun hq=>an (by omega)<|bk (m+1) ⟨rfl,trivial⟩ (fun M=>⟨M.only (.cons _ (.cons _ (.refl _))) (.refl _),by omega,KS hx hy hI (by simpa using hq)⟩) (by dsimp only;omega)
theorem Q0(w0:World)(x y:pF)(JA Va VA kv2:Value)(Ct:bB w0 [.int .i64 x.expr.op,.int .i64 x.expr.a,.int .i64 x.expr.rel,.int .i64 x.expr.b,JA,.int .u64 x.expr.set.a,.int .u64 x.expr.set.b,.int .u64 x.expr.set.c,.int .u64 x.expr.set.d,VA] x.expr)(he2:bB w0 [.int .i64 y.expr.op,.int .i64 y.expr.a,.int .i64 y.expr.rel,.int .i64 y.expr.b,Va,.int .u64 y.expr.set.a,.int .u64 y.expr.set.b,.int .u64 y.expr.set.c,.int .u64 y.expr.set.d,kv2] y.expr):Calls Tryz.prog 137 #[.agg #[.int .i64 x.cls,.int .u32 x.perms,.bool x.val,.int .i64 x.expr.op,.int .i64 x.expr.a,.int .i64 x.expr.rel,.int .i64 x.expr.b,JA,.int .u64 x.expr.set.a,.int .u64 x.expr.set.b,.int .u64 x.expr.set.c,.int .u64 x.expr.set.d,VA],.agg #[.int .i64 y.cls,.int .u32 y.perms,.bool y.val,.int .i64 y.expr.op,.int .i64 y.expr.a,.int .i64 y.expr.rel,.int .i64 y.expr.b,Va,.int .u64 y.expr.set.a,.int .u64 y.expr.set.b,.int .u64 y.expr.set.c,.int .u64 y.expr.set.d,kv2]] w0 (fun(r:Ending) (w':World)=>r=.returned (.bool (sC x y))∧aww w0.heap.size w0 w'):=by
 obtain⟨_,_,e1,hn1,hk1⟩:=Ct.open;obtain⟨_,_,e2,hn2,hk2⟩:=he2.open;cases e1;cases e2;obtain⟨_,_,rfl,-⟩:=aU.get hn1;obtain⟨_,_,rfl,-⟩:=aU.get hn2;obtain⟨_,_,rfl,-⟩:=aC.form hk1 (by decide);obtain⟨_,_,rfl,-⟩:=aC.form hk2 (by decide);exact dD [] (fn:=Tryz.f137) Tryz.func137 rfl Tryz.ntmps137 rfl<|fun g1 w1 M1=>fun g2 w2 M2=>lb 1<|an rfl<|lb 0<|an rfl<|lb 1<|an (fun _=>rfl)<|lb 0<|an (fun _=>rfl)<|lb 1<|an (fun _=>rfl)<|lb 0<|an (fun _=>rfl)<|lb 1<|an (fun _=>rfl)<|lb 0<|an (fun _=>rfl)<|cl<|an (fun _=>uF x.expr y.expr _ _ _ (Ct.keep M2.below) (he2.keep M2.below)) fun w3 M3=>fun M=>⟨rfl,M.below⟩
theorem DM(w0:World)(v1 v2:Value)(l1 l2:List pF)(h1:aC 13 (q8 w0) w0 v1 l1)(h2:aC 13 (q8 w0) w0 v2 l2):Calls Tryz.prog 144 #[v1,v2,.func (.func 137) #[] #[]] w0 (fun(r:Ending) (w':World)=>r=.returned (.bool (au sC l1 l2))∧aww w0.heap.size w0 w'):=by
 obtain⟨_,_,rfl,-,hm1,-⟩:=aC.form h1 (by decide);obtain⟨_,_,rfl,-⟩:=aC.form h2 (by decide);refine dD [] (fn:=Tryz.f144) Tryz.func144 rfl Tryz.ntmps144 rfl<|an (fun h M=>⟨rb (tY (by simp at h;omega)).symm,M.below⟩) fun h=>?_
 have hl:l1.length=l2.length:=by simp at h;omega
 refine lr (ι:=Nat) (fun m=>[(17,.int .i64 (m:Int))]) (fun m _=>m≤l1.length∧au sC l1 l2=au sC (l1.drop m) (l2.drop m)) (fun m=>l1.length-m) 0 (an ⟨⟨rfl,trivial⟩,fun M=>⟨M,awx _,rfl⟩⟩ ?_);intro m w M ⟨hm,hI⟩;refine an (fun h3=>?_) fun h3 M=>⟨rb (C8 (by simp at h3;omega) hl hI).symm,M.below⟩
 have hlt:m<l1.length:=by simp at h3;omega
 have hlt2:m<l2.length:=by omega
 obtain⟨x,hx⟩:∃ x,l1[m]?=some x:=⟨_,awA hlt⟩;obtain⟨y,hy⟩:∃ y,l2[m]?=some y:=⟨_,awA hlt2⟩;obtain⟨b1,o1,_,e1,Ct,hc1⟩:=aC.elt h1 (by decide) hx;obtain⟨b2,o2,_,e2,he2,hc2⟩:=aC.elt h2 (by decide) hy;obtain⟨_,rfl,Ct⟩:=Ct;obtain⟨_,_,rfl,hn1,hk1⟩:=Ct.open;obtain⟨_,_,rfl,-⟩:=aU.get hn1;obtain⟨_,_,rfl,-⟩:=aC.form hk1 (by decide);obtain⟨_,rfl,he2⟩:=he2;obtain⟨_,_,rfl,hn2,hk2⟩:=he2.open;obtain⟨_,_,rfl,-⟩:=aU.get hn2;obtain⟨_,_,rfl,-⟩:=aC.form hk2 (by decide);exact ia<|an ⟨e1,rfl,hlt⟩<|lc<|an (dH M.below hc1)<|ei<|an Qp fun g1 w1 M1=>lb 0<|an ⟨rfl,rfl⟩ fun w2 M2=>ia<|an ⟨e2,rfl,hlt2⟩<|lc<|an (dH M2.below hc2)<|ei<|an Qp fun g2 w3 M3=>lb 0<|an ⟨rfl,rfl⟩ fun w4 M4=>lb 1<|an rfl<|lb 0<|an rfl<|cl<|an (Q0 _ x y _ _ _ _ (Ct.keep M4.below) (he2.keep M4.below)) fun w5 M5=>an (fun hq M=>⟨rb (KT hx hy hI (by simpa using hq)).symm,M.below⟩) fun hq=>an (by omega)<|bk (m+1) ⟨rfl,trivial⟩ (fun M=>⟨M.only (.cons _ (.cons _ (.refl _))) (.refl _),by omega,KS hx hy hI (by simpa using hq)⟩) (by dsimp only;omega)
def kE(p q:aF):Bool:=(((((((au mP p.classes q.classes&&au nZ p.types q.types)&&decide (p.attrs=q.attrs))&&decide (p.roles=q.roles))&&decide (p.users=q.users))&&decide (p.bools=q.bools))&&decide (p.bf=q.bf))&&decide (p.cats=q.cats))
def gJ(p q:aF):Bool:=(((((((((kE p q&&au eW p.conds q.conds)&&decide (p.rules=q.rules))&&decide (p.trans=q.trans))&&decide (p.aT=q.aT))&&decide (p.ranges=q.ranges))&&au sC p.cons q.cons)&&decide (p.bL=q.bL))&&decide (p.files=q.files))&&decide (p.asserts=q.asserts))
theorem zO(w0:World)(c0 c1 c2 c3 c4 c5 c6 c7 c8 c9 aR aO aN aQ aM aL aP d0 d1 d2 d3 d4 d5 d6 d7 d8 d9 sQ sP sO sM sK sJ sI:Value)(p q:aF)(hp:aK w0 c0 c1 c2 c3 c4 c5 c6 c7 c8 c9 aR aO aN aQ aM aL aP p)(hq:aK w0 d0 d1 d2 d3 d4 d5 d6 d7 d8 d9 sQ sP sO sM sK sJ sI q):Calls Tryz.prog 139 #[.agg #[c0,c1,c2,c3,c4,c5,c6,c7,c8,c9,aR,aO,aN,aQ,aM,aL,aP],.agg #[d0,d1,d2,d3,d4,d5,d6,d7,d8,d9,sQ,sP,sO,sM,sK,sJ,sI]] w0 (fun(r:Ending) (w':World)=>r=.returned (.bool (kE p q))∧aww w0.heap.size w0 w'):=by
 obtain⟨_,_,_,_,_,_,_,_,_,_,_,_,_,_,_,_,_,_,_,_,_,_,_,_,_,_,_,_,_,_,_,_,_,_,rfl,rfl,rfl,rfl,rfl,rfl,rfl,rfl,rfl,rfl,rfl,rfl,rfl,rfl,rfl,rfl,rfl⟩:=hp.open;obtain⟨_,_,_,_,_,_,_,_,_,_,_,_,_,_,_,_,_,_,_,_,_,_,_,_,_,_,_,_,_,_,_,_,_,_,rfl,rfl,rfl,rfl,rfl,rfl,rfl,rfl,rfl,rfl,rfl,rfl,rfl,rfl,rfl,rfl,rfl⟩:=hq.open;exact dD [] (fn:=Tryz.f139) Tryz.func139 rfl Tryz.ntmps139 rfl<|fun g1 w1 M1=>fun g2 w2 M2=>lb 1<|an rfl<|lb 0<|an rfl<|cl<|an (DL _ _ _ p.classes q.classes (hp.keep M2.below).classes (hq.keep M2.below).classes) fun w3 M3=>lb 1<|an (fun _=>rfl)<|lb 0<|an (fun _=>rfl)<|cl<|an (fun _=>DK _ _ _ p.types q.types (hp.keep M3.below).types (hq.keep M3.below).types) fun w4 M4=>lb 1<|an (fun _=>rfl)<|lb 0<|an (fun _=>rfl)<|cl<|an (fun _=>Gf _ _ _ p.attrs q.attrs (hp.keep M4.below).attrs (hq.keep M4.below).attrs) fun w5 M5=>lb 1<|an (fun _=>rfl)<|lb 0<|an (fun _=>rfl)<|cl<|an (fun _=>Ge _ _ _ p.roles q.roles (hp.keep M5.below).roles (hq.keep M5.below).roles) fun w6 M6=>lb 1<|an (fun _=>rfl)<|lb 0<|an (fun _=>rfl)<|cl<|an (fun _=>Gc _ _ _ p.users q.users (hp.keep M6.below).users (hq.keep M6.below).users) fun w7 M7=>lb 1<|an (fun _=>rfl)<|lb 0<|an (fun _=>rfl)<|cl<|an (fun _=>Gb _ _ _ p.bools q.bools (hp.keep M7.below).bools (hq.keep M7.below).bools) fun w8 M8=>lb 1<|an (fun _=>rfl)<|lb 0<|an (fun _=>rfl)<|cl<|an (fun _=>jm _ _ _ p.bf q.bf (hp.keep M8.below).bf (hq.keep M8.below).bf) fun w9 M9=>lb 1<|an (fun _=>rfl)<|lb 0<|an (fun _=>rfl)<|cl<|an (fun _=>jm _ _ _ p.cats q.cats (hp.keep M9.below).cats (hq.keep M9.below).cats) fun rz nI=>fun M=>⟨rfl,M.below⟩
theorem F9(w0:World)(c0 c1 c2 c3 c4 c5 c6 c7 c8 c9 aR aO aN aQ aM aL aP d0 d1 d2 d3 d4 d5 d6 d7 d8 d9 sQ sP sO sM sK sJ sI:Value)(p q:aF)(hp:aK w0 c0 c1 c2 c3 c4 c5 c6 c7 c8 c9 aR aO aN aQ aM aL aP p)(hq:aK w0 d0 d1 d2 d3 d4 d5 d6 d7 d8 d9 sQ sP sO sM sK sJ sI q):Calls Tryz.prog 72 #[.agg #[c0,c1,c2,c3,c4,c5,c6,c7,c8,c9,aR,aO,aN,aQ,aM,aL,aP],.agg #[d0,d1,d2,d3,d4,d5,d6,d7,d8,d9,sQ,sP,sO,sM,sK,sJ,sI]] w0 (fun(r:Ending) (w':World)=>r=.returned (.bool (gJ p q))∧aww w0.heap.size w0 w'):=by
 obtain⟨_,_,_,_,_,_,_,_,_,_,_,_,_,_,_,_,_,_,_,_,_,_,_,_,_,_,_,_,_,_,_,_,_,_,rfl,rfl,rfl,rfl,rfl,rfl,rfl,rfl,rfl,rfl,rfl,rfl,rfl,rfl,rfl,rfl,rfl⟩:=hp.open;obtain⟨_,_,_,_,_,_,_,_,_,_,_,_,_,_,_,_,_,_,_,_,_,_,_,_,_,_,_,_,_,_,_,_,_,_,rfl,rfl,rfl,rfl,rfl,rfl,rfl,rfl,rfl,rfl,rfl,rfl,rfl,rfl,rfl,rfl,rfl⟩:=hq.open;exact dD [] (fn:=Tryz.f72) Tryz.func72 rfl Tryz.ntmps72 rfl<|fun g1 w1 M1=>fun g2 w2 M2=>lb 1<|an rfl<|lb 0<|an rfl<|cl<|an (zO _ _ _ _ _ _ _ _ _ _ _ _ _ _ _ _ _ _ _ _ _ _ _ _ _ _ _ _ _ _ _ _ _ _ _ p q (hp.keep M2.below) (hq.keep M2.below)) fun w3 M3=>lb 1<|an (fun _=>rfl)<|lb 0<|an (fun _=>rfl)<|cl<|an (fun _=>sH _ _ _ p.conds q.conds (hp.keep M3.below).conds (hq.keep M3.below).conds fun x _ y w cx cy h1 h2=>uF x y w cx cy h1 h2) fun w4 M4=>lb 1<|an (fun _=>rfl)<|lb 0<|an (fun _=>rfl)<|cl<|an (fun _=>Gm _ _ _ p.rules q.rules (hp.keep M4.below).rules (hq.keep M4.below).rules) fun w5 M5=>lb 1<|an (fun _=>rfl)<|lb 0<|an (fun _=>rfl)<|cl<|an (fun _=>zj _ _ _ p.trans q.trans (hp.keep M5.below).trans (hq.keep M5.below).trans) fun w6 M6=>lb 1<|an (fun _=>rfl)<|lb 0<|an (fun _=>rfl)<|cl<|an (fun _=>Gl _ _ _ p.aT q.aT (hp.keep M6.below).aT (hq.keep M6.below).aT) fun w7 M7=>lb 1<|an (fun _=>rfl)<|lb 0<|an (fun _=>rfl)<|cl<|an (fun _=>Gj _ _ _ p.ranges q.ranges (hp.keep M7.below).ranges (hq.keep M7.below).ranges) fun w8 M8=>lb 1<|an (fun _=>rfl)<|lb 0<|an (fun _=>rfl)<|cl<|an (fun _=>DM _ _ _ p.cons q.cons (hp.keep M8.below).cons (hq.keep M8.below).cons) fun w9 M9=>lb 1<|an (fun _=>rfl)<|lb 0<|an (fun _=>rfl)<|cl<|an (fun _=>Gi _ _ _ p.bL q.bL (hp.keep M9.below).bL (hq.keep M9.below).bL) fun rz nI=>lb 1<|an (fun _=>rfl)<|lb 0<|an (fun _=>rfl)<|cl<|an (fun _=>Gh _ _ _ p.files q.files (hp.keep nI.below).files (hq.keep nI.below).files) fun Dp M11=>lb 1<|an (fun _=>rfl)<|lb 0<|an (fun _=>rfl)<|cl<|an (fun _=>Gg _ _ _ p.asserts q.asserts (hp.keep M11.below).asserts (hq.keep M11.below).asserts) fun Ie EW=>fun M=>⟨rfl,M.below⟩
end Go.Proofs.YtdcofoaihmongaaGreat

import Derived.JoinedOf
import Derived.ProofKit
import Derived.Shelf.SlSortCmp.NoneTotal
import Derived.Test.YtdcofoaihmongaaGreatChecked
import Derived.Test.YtdcofoaihmongaaGreatRows
import Derived.Test.YtdcofoaihmongaaGreatS4
open Bool renaming and_eq_true→axC
open Go renaming wp_seq_k→axr,wpList_nil→axt,wp_cond_split→axu
open Go.RowKit renaming Below→axq
open Int renaming toNat_of_nonneg→axE
open List renaming getElem?_eq_some_iff→axo,getElem?_eq_getElem→axp,mem_of_getElem?→axx,mem_cons→axy,mem_singleton→axz,length_append→axA,mem_cons_self→axB,getElem?_map→axD,mem_cons_of_mem→axF,mem_append→axG,length_map→axH,map_append→axI,mem_map→axJ,take_length→axK,flatMap_append→axL,all_eq_true→axM
open Nat renaming le_trans→axv,zero_le→axw
open Option.some renaming inj→axN
set_option maxRecDepth 100000
set_option maxHeartbeats 8000000
namespace Go.Proofs.YtdcofoaihmongaaGreat
open Go Go.RowKit
def Nn(l:List ByteArray)(s:ByteArray):Nat:=l.findIdx (fun y=>decide (s=y))
theorem Y7{l:List ByteArray}{x:ByteArray}{m:Nat}{y:ByteArray}(hy:l[m]?=some y)(h:∀ j z,j<m→l[j]?=some z→x≠z)(e:x=y):(m:Int)=(Nn l x:Int):=by
 unfold Nn;obtain⟨hm,hy'⟩:=axo.1 hy;rw[(List.findIdx_eq hm).2 ⟨by rw[hy'];simpa using e,fun j hj=>by simpa using h j (l[j]) hj (axp (by omega))⟩]
theorem VQ{l:List ByteArray}{x:ByteArray}{m:Nat}(hm:m=l.length)(h:∀ j z,j<m→l[j]?=some z→x≠z)(hx:x∈l):False:=by
 obtain⟨j,hj,e⟩:=List.getElem_of_mem hx;exact h j x (by omega) (by rw[axp hj,e]) rfl
theorem Y6{l:List ByteArray}{x:ByteArray}(hx:x∈l):Nn l x<l.length:=List.findIdx_lt_length.2 ⟨x,hx,by simp⟩
theorem RZ{l:List ByteArray}{x y:ByteArray}{m:Nat}(hy:l[m]?=some y)(h:∀ j z,j<m→l[j]?=some z→x≠z)(hne:x≠y):∀ j z,j<m+1→l[j]?=some z→x≠z:=fun j z hj hz=>by
 by_cases e:j=m
 ·subst e;rw[hy] at hz;cases hz;exact hne
 ·exact h j z (by omega) hz
def Rn(op:Int):Nat:=if op=3 then 297 else if op=4 then 298 else if op=6 then 299 else 300
def Ro(op x y:Int):Int:=if op=3 then bits .and .u64 x y else if op=4 then bits .or .u64 x y else if op=6 then bits .xor .u64 18446744073709551615 (bits .xor .u64 x y) else bits .xor .u64 x y
def Uz(ns:List ByteArray)(op:Int)(names:List ByteArray)(l:List Int):Int:=
 if op=1 then fM (Nn ns (names.getD 0 ⟨#[]⟩):Int) 64 else if op=2 then bits .xor .u64 18446744073709551615 (l.getD 0 0) else Ro op (l.getD 0 0) (l.getD 1 0)
mutual
def iY(ns:List ByteArray):aA→Int
 | .node op _ _ _ names _ kids=>Uz ns op names (QJ ns kids)
def QJ(ns:List ByteArray):List aA→List Int
 | []=>[]
 | k::l=>iY ns k::QJ ns l
end
theorem Fk(ns:List ByteArray)(e:aA):iY ns e=Uz ns e.op e.names (QJ ns e.kids):=by cases e;rw[iY];rfl
theorem ux(ns:List ByteArray):∀ (l:List aA) (i:Nat) {y:aA},l[i]?=some y→(QJ ns l).getD i 0=iY ns y
 | [],_,_,h=>by simp at h
 | k::l,0,y,h=>by
  rw[QJ];obtain rfl:k=y:=by simpa using h
  rfl
 | k::l,i+1,y,h=>by
  rw[QJ];simpa using ux ns l i (by simpa using h)
theorem ZF{x y:ByteArray}(h:(x.toList == y.toList)=true):x=y:=of_decide_eq_true ((oJ x y).symm.trans h)
theorem ady{x y:ByteArray}(h:(x.toList == y.toList)=false):x≠y:=of_decide_eq_false ((oJ x y).symm.trans h)
theorem SN(w0:World)(nB:Nat)(hn:nB≤5):Calls Tryz.prog 230 #[.int .i64 (nB:Int)] w0 (fun(r:Ending) (w':World)=>r=.returned (.int .u64 (aZ nB))∧axq w0.heap.size w0 w'):=by
 have hn6:=nt6 hn;have bJ:=hr1 Tryz.prog Tryz.f230 (fun(r:Ending) (w':World)=>r=.returned (.int .u64 (aZ nB))∧axq w0.heap.size w0 w') 10 2 rfl;refine en Tryz.func230 rfl Tryz.ntmps230 rfl (vs:=[.int .i64 (nB:Int)]) rfl fun _ F=>?_
 have M:=Mm.start w0;refine axr fun K1 gU=>ah<|xA (v:=.int .u64 0) F rf rf rf fun _ F=>axt<|gU _ _ ?_
 refine axr fun K2 iy=>axr fun K3 nE=>ah<|xM F rf rf rf fun _ F=>
  ke (on rfl) (mX rfl rfl (F.u rf) (by omega) (show _≤((64:Nat):Int) by omega)) rfl F rfl (congrArg (Value.int .i64) (nt1 hn)) fun _ F=>
  kz F rf (Ks rfl (F.u rf) rfl) fun _ F=>
  axt<|
  nE _ _ ?_
 refine axu (F.e 5 rfl) (fun hc1=>?_) (fun hc1=>?_)
 ·have hd2:=of_decide_eq_true hc1;refine axr fun K4 ox=>ah<|xA (v:=.int .u64 18446744073709551615) F rf rf rf fun _ F=>axt<|ox _ _ ?_
  refine wp_ret<|bJ _ _ _ _ F rfl ?_;exfalso;omega
 ·have hd3:=of_decide_eq_false hc1;refine wp_skip<|iy _ _ ?_
  refine axr fun K5 ow=>ah<|xM F rf rf rf fun _ F=>
   ke (on rfl) (mX rfl rfl (F.u rf) (by omega) (show _≤((64:Nat):Int) by omega)) rfl F rfl (congrArg (Value.int .u64) (nt3 hn)) fun _ F=>
   ke (on rfl) (mX rfl rfl (F.u rf) (Int.natCast_nonneg _) (Int.ofNat_le.2 (axv hn6 (by decide)))) rfl F rfl (congrArg (Value.int .u64) (nt4 hn)) fun _ F=>
   ke (on rfl) (Kp rfl (F.u rf) rfl) rfl F rfl (congrArg (Value.int .u64) (nt5 hn)) fun _ F=>
   xA F rf rf rf fun _ F=>
   axt<|
   ow _ _ ?_
  refine wp_ret<|bJ _ _ _ _ F rfl ?_;exact⟨rfl,M.below⟩
theorem U3(w0:World)(x y:Int):Calls Tryz.prog 297 #[.agg #[.int .u64 x,.int .u64 y]] w0 (fun(r:Ending) (w':World)=>r=.returned (.int .u64 (bits .and .u64 x y))∧axq w0.heap.size w0 w'):=by
 have bJ:=hr1 Tryz.prog Tryz.f297 (fun(r:Ending) (w':World)=>r=.returned (.int .u64 (bits .and .u64 x y))∧axq w0.heap.size w0 w') 8 2 rfl;refine en Tryz.func297 rfl Tryz.ntmps297 rfl (vs:=[.agg #[.int .u64 x,.int .u64 y]]) rfl fun _ F=>?_
 have M:=Mm.start w0;refine axr fun K1 gU=>ah<|Ig (on rfl) rfl (F.u rf) rfl F rfl M fun g1 _ _ F M=>xA (v:=.int .u64 0) F rf rf rf fun _ F=>axt<|gU _ _ ?_
 refine axr fun K2 iy=>ah<|xF 0 F rf rf rf IY rf kC rf fun _ F=>xL F (M.b 0 rfl) rf rf rf OV rf rf fun _ F=>xF 1 F rf rf rf IY rf kC rf fun _ F=>xL F (M.b 0 rfl) rf rf rf OV rf rf fun _ F=>kz F rf (Kt rfl (F.u rf) (F.u rf)) fun _ F=>xA F rf rf rf fun _ F=>axt<|iy _ _ ?_
 refine wp_ret<|bJ _ _ _ _ F rfl ?_;exact⟨rfl,M.below⟩
theorem YC(w0:World)(x y:Int):Calls Tryz.prog 298 #[.agg #[.int .u64 x,.int .u64 y]] w0 (fun(r:Ending) (w':World)=>r=.returned (.int .u64 (bits .or .u64 x y))∧axq w0.heap.size w0 w'):=by
 have bJ:=hr1 Tryz.prog Tryz.f298 (fun(r:Ending) (w':World)=>r=.returned (.int .u64 (bits .or .u64 x y))∧axq w0.heap.size w0 w') 8 2 rfl;refine en Tryz.func298 rfl Tryz.ntmps298 rfl (vs:=[.agg #[.int .u64 x,.int .u64 y]]) rfl fun _ F=>?_
 have M:=Mm.start w0;refine axr fun K1 gU=>ah<|Ig (on rfl) rfl (F.u rf) rfl F rfl M fun g1 _ _ F M=>xA (v:=.int .u64 0) F rf rf rf fun _ F=>axt<|gU _ _ ?_
 refine axr fun K2 iy=>ah<|xF 0 F rf rf rf IY rf kC rf fun _ F=>xL F (M.b 0 rfl) rf rf rf OV rf rf fun _ F=>xF 1 F rf rf rf IY rf kC rf fun _ F=>xL F (M.b 0 rfl) rf rf rf OV rf rf fun _ F=>kz F rf (W9 rfl (F.u rf) (F.u rf)) fun _ F=>xA F rf rf rf fun _ F=>axt<|iy _ _ ?_
 refine wp_ret<|bJ _ _ _ _ F rfl ?_;exact⟨rfl,M.below⟩
theorem Rh(w0:World)(x y:Int):Calls Tryz.prog 299 #[.agg #[.int .u64 x,.int .u64 y]] w0 (fun(r:Ending) (w':World)=>r=.returned (.int .u64 (bits .xor .u64 18446744073709551615 (bits .xor .u64 x y)))∧axq w0.heap.size w0 w'):=by
 have bJ:=hr1 Tryz.prog Tryz.f299 (fun(r:Ending) (w':World)=>r=.returned (.int .u64 (bits .xor .u64 18446744073709551615 (bits .xor .u64 x y)))∧axq w0.heap.size w0 w') 9 2 rfl;refine en Tryz.func299 rfl Tryz.ntmps299 rfl (vs:=[.agg #[.int .u64 x,.int .u64 y]]) rfl fun _ F=>?_
 have M:=Mm.start w0;refine axr fun K1 gU=>ah<|Ig (on rfl) rfl (F.u rf) rfl F rfl M fun g1 _ _ F M=>xA (v:=.int .u64 0) F rf rf rf fun _ F=>axt<|gU _ _ ?_
 refine axr fun K2 iy=>ah<|xF 0 F rf rf rf IY rf kC rf fun _ F=>xL F (M.b 0 rfl) rf rf rf OV rf rf fun _ F=>xF 1 F rf rf rf IY rf kC rf fun _ F=>xL F (M.b 0 rfl) rf rf rf OV rf rf fun _ F=>kz F rf (W7 rfl (F.u rf) (F.u rf)) fun _ F=>kz F rf (PZ rfl (F.u rf)) fun _ F=>xA F rf rf rf fun _ F=>axt<|iy _ _ ?_
 refine wp_ret<|bJ _ _ _ _ F rfl ?_;exact⟨rfl,M.below⟩
theorem Ju(w0:World)(x y:Int):Calls Tryz.prog 300 #[.agg #[.int .u64 x,.int .u64 y]] w0 (fun(r:Ending) (w':World)=>r=.returned (.int .u64 (bits .xor .u64 x y))∧axq w0.heap.size w0 w'):=by
 have bJ:=hr1 Tryz.prog Tryz.f300 (fun(r:Ending) (w':World)=>r=.returned (.int .u64 (bits .xor .u64 x y))∧axq w0.heap.size w0 w') 8 2 rfl;refine en Tryz.func300 rfl Tryz.ntmps300 rfl (vs:=[.agg #[.int .u64 x,.int .u64 y]]) rfl fun _ F=>?_
 have M:=Mm.start w0;refine axr fun K1 gU=>ah<|Ig (on rfl) rfl (F.u rf) rfl F rfl M fun g1 _ _ F M=>xA (v:=.int .u64 0) F rf rf rf fun _ F=>axt<|gU _ _ ?_
 refine axr fun K2 iy=>ah<|xF 0 F rf rf rf IY rf kC rf fun _ F=>xL F (M.b 0 rfl) rf rf rf OV rf rf fun _ F=>xF 1 F rf rf rf IY rf kC rf fun _ F=>xL F (M.b 0 rfl) rf rf rf OV rf rf fun _ F=>kz F rf (W7 rfl (F.u rf) (F.u rf)) fun _ F=>xA F rf rf rf fun _ F=>axt<|iy _ _ ?_
 refine wp_ret<|bJ _ _ _ _ F rfl ?_;exact⟨rfl,M.below⟩
theorem FK(w0:World)(op:Int):Calls Tryz.prog 273 #[.int .i64 op] w0 (fun(r:Ending) (w':World)=>r=.returned (.func (.func (Rn op)) #[] #[])∧axq w0.heap.size w0 w'):=by
 exact dD [] (fn:=Tryz.f273) Tryz.func273 rfl Tryz.ntmps273 rfl<|an (fun a=>fun M=>⟨congrArg (fun n:Nat=>Ending.returned (.func (.func n) #[] #[])) (by unfold Rn;simp_all),M.below⟩) fun a=>an (fun b=>fun M=>⟨congrArg (fun n:Nat=>Ending.returned (.func (.func n) #[] #[])) (by unfold Rn;simp_all),M.below⟩) fun b=>an (fun c=>fun M=>⟨congrArg (fun n:Nat=>Ending.returned (.func (.func n) #[] #[])) (by unfold Rn;simp_all),M.below⟩) fun c=>fun M=>⟨congrArg (fun n:Nat=>Ending.returned (.func (.func n) #[] #[])) (by unfold Rn;simp_all),M.below⟩
theorem Nk(w0:World)(v:Value)(l:List ByteArray)(h:SliceAt w0 v 1 l.length (l.flatMap aX))(x:ByteArray)(hx:x∈l):Calls Tryz.prog 272 #[v,.string x] w0 (fun(r:Ending) (w':World)=>r=.returned (.int .i64 ((Nn l x:Int)))∧axq w0.heap.size w0 w'):=by
 obtain⟨_,_,rfl,-,hm5,-⟩:=SliceAt.form h (by decide);refine dD [] (fn:=Tryz.f272) Tryz.func272 rfl Tryz.ntmps272 rfl<|lr (ι:=Nat) (fun m=>[(8,.int .i64 (m:Int))]) (fun m _=>m≤l.length∧∀ j z,j<m→l[j]?=some z→x≠z) (fun m=>l.length-m) 0 (an ⟨⟨rfl,trivial⟩,fun M=>⟨M,axw _,fun j z h=>absurd h (Nat.not_lt_zero j)⟩⟩ ?_);intro m w M ⟨hm,hno⟩;refine an (fun h1=>?_) fun h1 M=>?_
 ·have hlt:m<l.length:=by simp at h1;omega
  obtain⟨y,hy⟩:∃ y,l[m]?=some y:=⟨_,axp hlt⟩;obtain⟨b,o,e,hc⟩:=SliceAt.elt h (fun _=>rfl) (by decide) hy hlt;refine ia<|an ⟨e,rfl,hlt⟩<|lc (x:=.string y)<|an (dH M.below hc 0 _ rfl)<|?_;refine an (fun h2 M=>⟨ri (Y7 hy hno (ZF h2)).symm,M.below⟩) fun h2=>?_
  exact an (by omega)<|bk (m+1) ⟨rfl,trivial⟩ (fun M=>⟨M,by omega,RZ hy hno (ady h2)⟩) (by dsimp only;omega)
 ·exact(VQ (by simp at h1;omega) hno hx).elim
theorem NW(w0:World)(bi:Int)(hb0:0≤bi)(hb1:bi≤60)(nB:Nat)(hn:nB≤5):Calls Tryz.prog 271 #[.int .i64 bi,.int .i64 (nB:Int)] w0 (fun(r:Ending) (w':World)=>∃ v,r=.returned v∧((bT w' w0.heap.size v (fM bi 64))∧axq w0.heap.size w0 w')):=by
 have bJ:=hr1 Tryz.prog Tryz.f271 (fun(r:Ending) (w':World)=>∃ v,r=.returned v∧((bT w' w0.heap.size v (fM bi 64))∧axq w0.heap.size w0 w')) 40 4 rfl;refine en Tryz.func271 rfl Tryz.ntmps271 rfl (vs:=[.int .i64 bi,.int .i64 (nB:Int)]) rfl fun _ F=>?_
 have M:=Mm.start w0;refine axr fun K1 gU=>ah<|xA (v:=.slice none 0 0) F rf rf rf fun _ F=>axt<|gU _ _ ?_
 refine axr fun K2 iy=>ah<|xM F rf rf rf fun _ F=>
  ke (on rfl) (mX rfl rfl (F.u rf) (by omega) (show _≤((64:Nat):Int) by omega)) rfl F rfl (congrArg (Value.int .i64) (nt1 hn)) fun _ F=>
  ke (on rfl) (PW rfl (F.u rf) rfl (by decide)) rfl F rfl (congrArg (Value.int .i64) (nt2 hn)) fun _ F=>
  ke (on rfl) (CQ rfl rfl (F.u rf)) rfl F rfl rfl fun _ F=>
  kn (f:=fun n=>.slice (some ⟨n,0,none⟩) 1 1) (on rfl) (Aw rfl (F.u rf) (F.u rf) X9 JX TS rfl (by decide)) rfl F rfl M fun g1 _ _ F M=>
  xA F rf rf rf fun _ F=>
  axt<|
  iy _ _ ?_
 refine axr fun K3 nE=>axr fun K4 ox=>ah<|xM F rf rf rf fun _ F=>kz F rf (fK rfl (F.u rf) X9) fun _ F=>xM (v:=.int .i64 0) F rf rf rf fun _ F=>axt<|ox _ _ ?_
 refine wp_block<|?_;refine eH (ι:=Nat×Int) (fun|(t,x),a,w=>Fs a 40 [(0,.int .i64 bi),(5,.slice (some ⟨g1,0,none⟩) 1 1),(14,.int .i64 1),(15,.int .i64 (t:Int))]∧Mm w0 w [(g1,52,#[.int .u64 x])] []∧t≤1∧(t=0→x=0)∧(t=1→x=fM bi 64)) (fun|(t,x)=>1-t) (0,0) ⟨F.sub ⟨rfl,rfl,rfl,rfl,trivial⟩,M,axw _,⟨fun _=>rfl,fun h=>by cases h⟩⟩ ?_
 (repeat clear F);(repeat clear M)
 rintro⟨t,x⟩ _ _ ⟨F,M,ht,hx⟩;refine axr fun K5 ow=>ah<|kz F rf (jo rfl (F.u rf) (F.u rf)) fun _ F=>axt<|ow _ _ ?_
 refine axr fun K6 pT=>?_
 refine axu (F.e 16 rfl) (fun hc2=>?_) (fun hc2=>?_)
 ·have hd3:=of_decide_eq_true hc2;refine wp_skip<|pT _ _ ?_;refine axr fun K7 rS=>wp_block<|axr fun K8 xK=>?_
  have ht0:t=0:=by omega
  have F:=F.eq 15 rfl (congrArg (Value.int .i64) (show((t:Nat):Int)=0 by omega));refine ah<|xM F rf rf rf fun _ F=>xA F rf rf rf fun _ F=>axt<|xK _ _ ?_
  refine axr fun K9 zf=>ah<|xM (v:=.int .i64 0) F rf rf rf fun _ F=>axt<|zf _ _ ?_
  refine wp_block<|?_;refine eH (ι:=Nat×Int) (fun|(k,acc),a,w=>Fs a 40 [(0,.int .i64 bi),(5,.slice (some ⟨g1,0,none⟩) 1 1),(6,.int .i64 0),(14,.int .i64 1),(15,.int .i64 0),(18,.int .i64 (k:Int))]∧Mm w0 w [(g1,52,#[.int .u64 acc])] []∧k≤64∧acc=fM bi k) (fun|(k,acc)=>64-k) (0,x) ⟨F.sub ⟨rfl,rfl,rfl,rfl,rfl,rfl,trivial⟩,M,axw _,hx.1 ht0⟩ ?_
  (repeat clear F);(repeat clear M)
  rintro⟨k,acc⟩ _ _ ⟨F,M,hk,hacc⟩;refine axr fun Xy lZ=>ah<|kz F rf (jo rfl (F.u rf) rfl) fun _ F=>axt<|lZ _ _ ?_
  refine axr fun K11 qH=>?_
  refine axu (F.e 19 rfl) (fun R8=>?_) (fun R8=>?_)
  ·have TL:=of_decide_eq_true R8;refine wp_skip<|qH _ _ ?_;refine axr fun K12 pR=>wp_block<|axr fun K13 pQ=>ah<|xM F rf rf rf fun _ F=>xA F rf rf rf fun _ F=>axt<|pQ _ _ ?_
   refine axr fun K14 tO=>ah<|xM F rf rf rf fun _ F=>
    ke (on rfl) (Xb rfl (F.u rf) rfl) rfl F rfl (congrArg (Value.int .i64) (wrap_i64 (by omega))) fun _ F=>
    xM F rf rf rf fun _ F=>
    ke (on rfl) (eX rfl (F.u rf) (F.u rf)) rfl F rfl (congrArg (Value.int .i64) (wrap_i64 (by omega))) fun _ F=>
    xM F rf rf rf fun _ F=>
    kz F rf (W8 rfl (F.u rf) (F.u rf) (by omega) (show _≤((64:Nat):Int) by omega)) fun _ F=>
    kz F rf (Kt rfl (F.u rf) rfl) fun _ F=>
    kz F rf (PX rfl (F.u rf) rfl) fun _ F=>
    axt<|
    tO _ _ ?_
   refine axu (F.e 28 rfl) (fun rQ=>?_) (fun rQ=>?_)
   ·have hd7:=of_decide_eq_true rQ;have hbit:jZ bi k=true:=rQ;refine rd 8 [29,30,31,32,33,34,35,36] [bI (.slice (some ⟨g1,0,none⟩) 1 1),bI (.int .i64 0),bI (.pointer (some ⟨g1,0,none⟩)),bI (.int .u64 acc),bI (.int .i64 (k:Int)),bI (.int .u64 (IntKind.u64.wrap (1*2^((k:Int):Int).toNat))),bI (.int .u64 (bits .or .u64 acc (IntKind.u64.wrap (1*2^((k:Int):Int).toNat)))),bI (.pointer (some ⟨g1,0,none⟩))] (by kernel_rfl) (by kernel_rfl) (by kernel_rfl) rfl (by decide) rfl rfl F ⟨ak _,ak _,ak _,ak _,ak _,ak _,ak _,ak _,trivial⟩ ⟨?_,?_,?_,?_,?_,?_,?_,?_,trivial⟩ ?_
    ·exact fun a w Q' hf hi H G hK=>dv (on rfl) (cW rfl (G 5 _ rfl (F.g 5 rfl)).ev) rfl hf rfl hK rfl
    ·exact fun a w Q' hf hi H G hK=>dv (on rfl) (cW rfl (G 6 _ rfl (F.g 6 rfl)).ev) rfl hf rfl hK rfl
    ·exact fun a w Q' hf hi H G hK=>dv (on rfl) (bD (i:=0) rfl (iA (H 0 ⟨.data,by simp,rfl⟩ _ _ rfl rfl)).ev (iA (H 1 ⟨.data,by simp,rfl⟩ _ _ rfl rfl)).ev (by omega) X9 kC) rfl hf rfl hK rfl
    ·exact fun a w Q' hf hi H G hK=>dv (on rfl) (b_ rfl (iA (H 2 ⟨.data,by simp,rfl⟩ _ _ rfl rfl)).ev OV rfl (((M.keep hi).b 0 rfl).c1 0)) rfl hf rfl hK rfl
    ·exact fun a w Q' hf hi H G hK=>dv (on rfl) (cW rfl (G 7 _ rfl (F.g 7 rfl)).ev) rfl hf rfl hK rfl
    ·exact fun a w Q' hf hi H G hK=>dv (on rfl) (mX rfl rfl (iA (H 4 ⟨.data,by simp,rfl⟩ _ _ rfl rfl)).ev (by omega) (show _≤((64:Nat):Int) by omega)) rfl hf rfl hK rfl
    ·exact fun a w Q' hf hi H G hK=>dv (on rfl) (W9 rfl (iA (H 3 ⟨.data,by simp,rfl⟩ _ _ rfl rfl)).ev (iA (H 5 ⟨.data,by simp,rfl⟩ _ _ rfl rfl)).ev) rfl hf rfl hK rfl
    ·exact fun a w Q' hf hi H G hK=>dv (on rfl) (bD (i:=0) rfl (iA (H 0 ⟨.data,by simp,rfl⟩ _ _ rfl rfl)).ev (iA (H 1 ⟨.data,by simp,rfl⟩ _ _ rfl rfl)).ev (by omega) X9 kC) rfl hf rfl hK rfl
    (repeat clear F);intro _ _ Dq F D
    obtain⟨_,h,rfl⟩:=D 6 _ _ rfl rfl;have F:=F.add h;obtain⟨_,h,rfl⟩:=D 7 _ _ rfl rfl;have F:=F.add h;have M:=M.keep Dq;clear D Dq;intro Qt Wg;refine ks (on rfl) rfl (F.u rf) (F.u rf) F M 0 (cs':=#[.int .u64 (bits .or .u64 acc (IntKind.u64.wrap (1*2^((k:Int):Int).toNat)))]) rfl rfl rfl kC rfl (jA _ _ rfl) rfl rfl fun _ M=>axt (Wg _ _ ?_)
    refine pR _ _ ?_
    refine ah<|
     ke (on rfl) (eX rfl (F.u rf) rfl) rfl F rfl (congrArg (Value.int .i64) (wrap_i64 (by omega))) fun _ F=>
     xM F rf rf rf fun _ F=>
     axt<|?_
    exact⟨(k+1,bits .or .u64 acc (IntKind.u64.wrap (1*2^((k:Int):Int).toNat))),⟨F.sub ⟨rfl,rfl,rfl,rfl,rfl,rfl,trivial⟩,M,by omega,by rw[C4 hbit,← hacc]⟩,by show 64-(k+1)<64-k;omega⟩
   ·have hd8:=of_decide_eq_false rQ;have hbit:jZ bi k=false:=rQ;refine wp_skip<|pR _ _ ?_
    refine ah<|
     ke (on rfl) (eX rfl (F.u rf) rfl) rfl F rfl (congrArg (Value.int .i64) (wrap_i64 (by omega))) fun _ F=>
     xM F rf rf rf fun _ F=>
     axt<|?_
    exact⟨(k+1,acc),⟨F.sub ⟨rfl,rfl,rfl,rfl,rfl,rfl,trivial⟩,M,by omega,by rw[ES hbit,← hacc]⟩,by show 64-(k+1)<64-k;omega⟩
  ·have hd9:=of_decide_eq_false R8;refine wp_exit<|rS _ _ ?_;have F:=F.eq 15 rfl (congrArg (Value.int .i64) (show(0:Int)=((t:Nat):Int) by omega))
   refine ah<|
    ke (on rfl) (eX rfl (F.u rf) rfl) rfl F rfl (congrArg (Value.int .i64) (wrap_i64 (by omega))) fun _ F=>
    xM F rf rf rf fun _ F=>
    axt<|?_
   exact⟨(t+1,acc),⟨F.sub ⟨rfl,rfl,rfl,rfl,trivial⟩,M,by omega,⟨fun h=>by omega,fun _=>by rw[show k=64 by omega] at hacc;exact hacc⟩⟩,by show 1-(t+1)<1-t;omega⟩
 ·have af5:=of_decide_eq_false hc2;refine wp_exit<|nE _ _ ?_;refine axr fun K15 rT=>ah<|xM F rf rf rf fun _ F=>xA F rf rf rf fun _ F=>axt<|rT _ _ ?_
  refine wp_ret<|bJ _ _ _ _ F rfl ?_;exact⟨_,rfl,⟨_,rfl,(by have hW:=M.b 0 rfl;rw[hx.2 (by omega)] at hW;exact hW),M.lo _ (axx (i:=0) rfl)⟩,M.below⟩
inductive OpW (op:Int):Prop
 | and (h:Rn op=297) (hb:∀ x y,Ro op x y=bits .and .u64 x y)
 | or (h:Rn op=298) (hb:∀ x y,Ro op x y=bits .or .u64 x y)
 | same (h:Rn op=299) (hb:∀ x y,Ro op x y=bits .xor .u64 18446744073709551615 (bits .xor .u64 x y))
 | diff (h:Rn op=300) (hb:∀ x y,Ro op x y=bits .xor .u64 x y)
theorem opW(op:Int):OpW op:=by
 by_cases h3:op=3
 ·exact .and (by unfold Rn;rw[if_pos h3]) (fun x y=>by unfold Ro;rw[if_pos h3])
 by_cases h4:op=4
 ·exact .or (by unfold Rn;rw[if_neg h3,if_pos h4]) (fun x y=>by unfold Ro;rw[if_neg h3,if_pos h4])
 by_cases h6:op=6
 ·exact .same (by unfold Rn;rw[if_neg h3,if_neg h4,if_pos h6]) (fun x y=>by unfold Ro;rw[if_neg h3,if_neg h4,if_pos h6])
 ·exact .diff (by unfold Rn;rw[if_neg h3,if_neg h4,if_neg h6]) (fun x y=>by unfold Ro;rw[if_neg h3,if_neg h4,if_neg h6])
theorem Dm.afq{d:Nat}{e:aA}(h:Dm d e)(h1:e.op≠1):0<e.kids.length:=by
 have h2:=h.kids;have h3:DF e.op≠0:=fun h4=>h1 (h.op1.1 h4)
 omega
theorem Dm.afp{d:Nat}{e:aA}(h:iZ d e)(h1:e.op≠1)(h2:e.op≠2):1<e.kids.length:=by
 cases h with
 | name _ _=>exact absurd rfl h1
 | not _=>exact absurd rfl h2
 | bin _ _ _ _=>exact Nat.lt_succ_self 1
theorem Es{e k:aA}(hk:k∈e.kids){s:ByteArray}(hs:s∈bN k):s∈bN e:=by
 rw[iU];refine List.mem_append_right _ ?_
 have:∀ l:List aA,k∈l→s∈bQ l:=fun l=>by
  induction l with
  | nil=>intro h;cases h
  | cons a l ih=>
   intro h;rw[bQ];rcases axy.1 h with rfl|h
   ·exact List.mem_append_left _ hs
   ·exact List.mem_append_right _ (ih h)
 exact this _ hk
theorem Uy{ns:List ByteArray}{e:aA}{sn:ByteArray}(h1:e.op=1)(hs:e.names=[sn]):iY ns e=fM (Nn ns sn:Int) 64:=by
 rw[Fk,Uz,if_pos h1,hs];rfl
theorem Yc{ns:List ByteArray}{e y:aA}(h1:e.op≠1)(h2:e.op=2)(hy:e.kids[0]?=some y):iY ns e=bits .xor .u64 18446744073709551615 (iY ns y):=by
 rw[Fk,Uz,if_neg h1,if_pos h2,ux _ _ _ hy]
theorem Yd{ns:List ByteArray}{e y z:aA}(h1:e.op≠1)(h2:e.op≠2)(hy:e.kids[0]?=some y)(hz:e.kids[1]?=some z):iY ns e=Ro e.op (iY ns y) (iY ns z):=by
 rw[Fk,Uz,if_neg h1,if_neg h2,ux _ _ _ hy,ux _ _ _ hz]
theorem QI(ns:List ByteArray)(hn:ns.length≤5):∀ (e:aA) (w0:World) (cs:List Value) (d:Nat),bB w0 cs e→iZ d e→∀ lv:Value,SliceAt w0 lv 1 ns.length (ns.flatMap aX)→(∀ s∈bN e,s∈ns)→Calls Tryz.prog 231 #[.agg cs.toArray,lv] w0 (fun(r:Ending) (w':World)=>∃ v,r=.returned v∧((bT w' w0.heap.size v (iY ns e))∧axq w0.heap.size w0 w')):=by
 refine aA.ind fun e ih=>?_
 intro w0 cs d hE hB lv hL hns;have hb:=hB.facts;obtain⟨nv,kv,rfl,Nv,hk⟩:=hE.open;obtain⟨_,_,rfl,-,hng⟩:=aU.get Nv;obtain⟨_,_,rfl,-,xI,-⟩:=aC.form hk (by decide);obtain⟨_,_,rfl,-⟩:=SliceAt.form hL (by decide);refine dD [] (fn:=Tryz.f231) Tryz.func231 rfl Tryz.ntmps231 rfl<|fun g1 w1 M1=>lb 0<|an rfl<|an (fun h=>?_) fun h=>?_
 ·have h1:e.op=1:=by simpa using h
  obtain⟨sn,Zb,hsI,hsO⟩:=hb.nm (hb.op1.2 h1);have jk:sn∈ns:=hns sn (by rw[iU,Zb];exact List.mem_append_left _ (axz.2 rfl));have hix:=Y6 jk;obtain⟨b,o,e1,hc⟩:=hng 0 sn (by rw[Zb];rfl);exact lb 0<|an rfl<|ia (i:=0)<|an ⟨e1,rfl,by rw[Zb];exact Nat.zero_lt_one⟩<|lc (x:=.string sn)<|an (cell_later M1.below hc)<|cl<|an (Nk _ _ ns (hL.keep M1.below) sn jk) fun w2 M2=>cst M2 (NW _ (Nn ns sn:Int) (by omega) (by omega) ns.length hn) fun g w M M=>⟨_,rfl,⟨_,rfl,by have hW:=M.b 0 rfl;rw[Uy h1 Zb];exact hW,M.lo _ (axx (i:=0) rfl)⟩,M.below⟩
 have h1:e.op≠1:=by simpa using h
 have hly:=hb.afq h1;obtain⟨y,hy⟩:∃ y,e.kids[0]?=some y:=⟨_,axp hly⟩;have Ns:=axx hy;obtain⟨b,o,_,e1,PK,hc⟩:=aC.elt hk (by decide) hy;obtain⟨nv',kv',rfl,-⟩:=PK.open;obtain⟨dy,-,hBy⟩:=hb.kid y Ns;refine lb 0<|an rfl<|ia (i:=0)<|an ⟨e1,rfl,hly⟩<|lc<|an (dH M1.below hc)<|cst M1 (ih y Ns _ _ dy (PK.keep M1.below) hBy _ (hL.keep M1.below) (fun t ht=>hns t (Es Ns ht))) fun gy w3 M3=>lb 1<|an rfl<|an (fun h2=>?_) fun h2=>?_
 ·refine lp (ι:=Nat×Int) (fun(t,x)=>[(33,.int .i64 (t:Int))]) (fun(t,x)=>(gy,52,#[.int .u64 x])::_) (fun _=>[]) (fun(t,x) _=>t≤1∧(t=0→x=iY ns y)∧(t=1→x=bits .xor .u64 18446744073709551615 (iY ns y))) (fun(t,x)=>1-t) (0,iY ns y) (an ⟨⟨rfl,trivial⟩,fun M=>⟨M,by decide,fun _=>rfl,fun h=>by cases h⟩⟩ ?_);rintro⟨t,x⟩ w M ⟨ht,hx0,hx1⟩;refine an (fun h=>?_) fun h M=>⟨_,rfl,⟨_,rfl,by have hW:=M.b 0 rfl;rw[Yc h1 (by simpa using h2) hy,← hx1 (by simp at h;omega)];exact hW,M.lo _ (axx (i:=0) rfl)⟩,M.below⟩
  obtain rfl:t=0:=by simp at h;omega
  obtain rfl:=hx0 rfl;exact ia (i:=0)<|an ⟨rfl,rfl,by decide⟩<|lb 0<|an rfl<|ei (x:=.int .u64 (bits .xor .u64 18446744073709551615 (iY ns y)))<|an (fun a w o ho hv=>PZ ho (oD hv))<|ia (i:=0)<|an ⟨rfl,rfl,by decide⟩<|lb 0<|an ⟨⟨rfl,rfl⟩,Nat.le_refl _⟩ fun w M=>an (by omega)<|bk (1,bits .xor .u64 18446744073709551615 (iY ns y)) ⟨rfl,trivial⟩ (fun M=>⟨M,by omega,(fun h=>by cases h),fun _=>rfl⟩) (by dsimp only;omega)
 have h2:e.op≠2:=by simpa using h2
 have hlz:=Dm.afp hB h1 h2;obtain⟨z,hz⟩:∃ z,e.kids[1]?=some z:=⟨_,axp hlz⟩;have hzm:=axx hz;obtain⟨bz,oz,_,e2,hEz,hcz⟩:=aC.elt hk (by decide) hz;obtain⟨nvz,kvz,rfl,-⟩:=hEz.open;obtain⟨dz,-,hBz⟩:=hb.kid z hzm;rcases opW e.op with⟨hf,hop⟩|⟨hf,hop⟩|⟨hf,hop⟩|⟨hf,hop⟩
 all_goals
  refine lb 1<|an rfl<|cl<|an (hf▸FK _ e.op :) fun w4 M4=>lb 1<|an rfl<|ia (i:=1)<|an ⟨e2,rfl,hlz⟩<|lc<|an (dH M4.below hcz)<|cst M4 (ih z hzm _ _ dz (hEz.keep M4.below) hBz _ (hL.keep M4.below) (fun t ht=>hns t (Es hzm ht))) fun gz w5 M5=>lp (ι:=Nat×Int) (fun(t,x)=>[(56,.int .i64 (t:Int))]) (fun(t,x)=>_::(gy,52,#[.int .u64 x])::_) (fun _=>[]) (fun(t,x) _=>t≤1∧(t=0→x=iY ns y)∧(t=1→x=Ro e.op (iY ns y) (iY ns z))) (fun(t,x)=>1-t) (0,iY ns y) (an ⟨⟨rfl,trivial⟩,fun M=>⟨M,by decide,fun _=>rfl,fun h=>by cases h⟩⟩ ?_)
  rintro⟨t,x⟩ w M ⟨ht,hx0,hx1⟩;refine an (fun h=>?_) fun h M=>⟨_,rfl,⟨_,rfl,by have hW:=M.b 1 rfl;rw[Yd h1 h2 hy hz,← hx1 (by simp at h;omega)];exact hW,M.lo _ (axx (i:=1) rfl)⟩,M.below⟩
  obtain rfl:t=0:=by simp at h;omega
  obtain rfl:=hx0 rfl;exact ia (i:=0)<|an ⟨rfl,rfl,by decide⟩<|lb 0<|an rfl<|ia (i:=0)<|an ⟨rfl,rfl,by decide⟩<|lb 1<|an rfl<|ei (x:=.agg #[.int .u64 (iY ns y),.int .u64 (iY ns z)])<|an (bd (by kernel_rfl))<|cl (v:=.int .u64 (Ro e.op (iY ns y) (iY ns z)))<|an (by rw[hop];first|exact U3 _ _ _|exact YC _ _ _|exact Rh _ _ _|exact Ju _ _ _) fun w6 M6=>ia (i:=0)<|an ⟨rfl,rfl,by decide⟩<|lb 1<|an ⟨⟨rfl,rfl⟩,Nat.le_refl _⟩ fun w M=>an (by omega)<|bk (1,Ro e.op (iY ns y) (iY ns z)) ⟨rfl,trivial⟩ (fun M=>⟨M,by omega,(fun h=>by cases h),fun _=>rfl⟩) (by dsimp only;omega)
theorem iZ.some{d:Nat}{e:aA}(h:iZ d e):0<(bN e).length:=by
 induction h with
 | name _ _=>rw[bN];simp
 | not _ ih=>rw[bN,bQ,bQ];simpa using ih
 | bin _ _ _ _ ih _=>rw[bN,bQ];simp only[List.nil_append,axA];omega
theorem iZ.aeW{d:Nat}{e:aA}(h:iZ d e):0<(dJ e).length:=by
 obtain⟨s,hs⟩:∃ s,s∈bN e:=by
  have:=h.some
  cases hl:bN e with
  | nil=>rw[hl] at this;cases this
  | cons a l=>exact⟨a,axB ..⟩
 exact List.length_pos_of_mem ((tG e s).2 hs)
def pS(e:aA):Bool:=decide (bits .and .u64 (iY (dJ e) e) (aZ (dJ e).length)=aZ (dJ e).length)
def KD(e:aA):Bool:=decide (bits .and .u64 (iY (dJ e) e) (aZ (dJ e).length)=0)
theorem Gu(w0:World)(cs:List Value)(e:aA)(d:Nat)(hE:bB w0 cs e)(hBE:iZ d e)(hd:d≤12)(hn:(dJ e).length≤5):Calls Tryz.prog 171 #[.agg cs.toArray] w0 (fun(r:Ending) (w':World)=>r=.returned (.tuple #[.bool (pS e),.bool (pS e||KD e)])∧axq w0.heap.size w0 w'):=by
 have hn0:=hBE.aeW;have hE0:=hE;obtain⟨_,_,rfl,hnn,hkk⟩:=hE0.open;obtain⟨_,_,rfl,-⟩:=aU.get hnn;obtain⟨_,_,rfl,-⟩:=aC.form hkk (by decide);refine dD [] (fn:=Tryz.f171) Tryz.func171 rfl Tryz.ntmps171 rfl<|fun g1 w1 M1=>lb 0<|an rfl<|Ih M1 (NZ _ _ e d (hE.keep M1.below) hBE hd) fun ta tc w2 M2=>?_
 refine an (fun h=>?_) fun _=>?_
 ·exfalso;simp only[Bool.or_eq_true,decide_eq_true_eq] at h;omega
 refine cl<|an (SN _ (dJ e).length hn) fun w3 M3=>lb 0<|an rfl<|cst M3 (QI (dJ e) hn e _ _ d (hE.keep M3.below) hBE _ (SliceAt.bC (M3.r 0 rfl) (Fo _)) (fun t ht=>(tG e t).2 ht)) fun gt w4 M4=>?_
 refine lr (ι:=Nat×Bool×Bool) (fun(t,x,z)=>[(6,.bool x),(7,.bool z),(27,.int .i64 (t:Int))]) (fun(t,x,z) _=>t≤1∧(t=0→x=true∧z=true)∧(t=1→x=pS e∧z=KD e)) (fun(t,x,z)=>1-t) (0,true,true) (an ⟨⟨rfl,rfl,rfl,trivial⟩,fun M=>⟨M,axw _,fun _=>⟨rfl,rfl⟩,fun h=>by cases h⟩⟩ ?_);rintro⟨t,x,z⟩ w M ⟨ht,h0,h1⟩;refine an (fun h=>?_) fun h M=>?_
 ·obtain rfl:t=0:=by simp at h;omega
  obtain⟨rfl,rfl⟩:=h0 rfl;refine ia (i:=0)<|an ⟨rfl,rfl,by decide⟩<|lb 0<|an rfl<|ei (x:=bits .and .u64 (iY (dJ e) e) (aZ (dJ e).length))<|an (fun _=>rfl)<|ei (x:=bits .and .u64 (iY (dJ e) e) (aZ (dJ e).length))<|an (fun _=>rfl)<|?_;exact an (by omega)<|bk (1,pS e,KD e) ⟨rfl,rfl,rfl,trivial⟩ (fun M=>⟨M,by omega,(fun h=>by cases h),fun _=>⟨rfl,rfl⟩⟩) (by dsimp only;omega)
 ·obtain⟨rfl,rfl⟩:=h1 (by simp at h;omega);exact⟨by cases pS e<;>rfl,M.below⟩
def isNum(nB:Nat)(op a:Int):Bool:=decide (op=1)&&decide (0≤a)&&decide (a<(nB:Int))
mutual
def cQ(bl:List iP):aA→aA
 | .node op a _ _ _ _ kids=>if isNum bl.length op a=true then .node op 0 0 0 [((bl[a.toNat]?).map (·.name)).getD ⟨#[]⟩] ay.zero [] else .node op 0 0 0 [] ay.zero (Vc bl kids)
def Vc(bl:List iP):List aA→List aA
 | []=>[]
 | k::l=>cQ bl k::Vc bl l
end
theorem uQ(bl:List iP):∀ l,Vc bl l=l.map (cQ bl)
 | []=>by rw[Vc];rfl
 | k::l=>by rw[Vc,List.map_cons,uQ bl l]
theorem YK{bl:List iP}{e:aA}{k:Nat}{y:iP}(h1:e.op=1)(ha:e.a=(k:Int))(hk:k<bl.length)(hy:bl[k]?=some y):cQ bl e=.node e.op 0 0 0 [y.name] ay.zero []:=by
 cases e with
 | node op a rel b names set kids=>
  have h1:op=1:=h1;have ha:a=(k:Int):=ha;rw[cQ,if_pos (by unfold isNum;simp[h1,ha,hk]),ha,Int.toNat_natCast,hy];rfl
theorem ab9{bl:List iP}{e:aA}(h:¬ (e.op=1∧0≤e.a∧e.a<(bl.length:Int))):cQ bl e=.node e.op 0 0 0 [] ay.zero (e.kids.map (cQ bl)):=by
 cases e with
 | node op a rel b names set kids=>
  have h:¬ (op=1∧0≤a∧a<(bl.length:Int)):=h;rw[cQ,if_neg (by unfold isNum;simp only[axC,decide_eq_true_eq];exact fun h2=>h ⟨h2.1.1,h2.1.2,h2.2⟩),uQ];rfl
theorem ab_{bl:List iP}{l:List aA}{m:Nat}{y:aA}(hy:l[m]?=some y):(l.map (cQ bl))[m]?=some (cQ bl y):=by rw[axD,hy];rfl
theorem FN(p:aF)(_:p.Ok):∀ (e:aA) (w0:World) (cs:List Value),bB w0 cs e→mH e→∀ (c0 c1 c2 c3 c4 c5 c6 c7 c8 c9 aR aO aN aQ aM aL aP:Value),aK w0 c0 c1 c2 c3 c4 c5 c6 c7 c8 c9 aR aO aN aQ aM aL aP p→Calls Tryz.prog 172 #[.agg cs.toArray,.agg #[c0,c1,c2,c3,c4,c5,c6,c7,c8,c9,aR,aO,aN,aQ,aM,aL,aP]] w0 (fun(r:Ending) (w':World)=>∃ v,r=.returned v∧(EZ w0 (cQ p.bools e) v w'∧axq w0.heap.size w0 w')):=by
 refine aA.ind fun e ih=>?_
 intro w0 cs hE jk c0 c1 c2 c3 c4 c5 c6 c7 c8 c9 aR aO aN aQ aM aL aP hp;obtain⟨nv,kv,rfl,Nv,hkv⟩:=hE.open;obtain⟨_,_,rfl,-⟩:=aU.get Nv;obtain⟨_,_,rfl,-,hkm,-⟩:=aC.form hkv (by decide);obtain⟨_,_,_,_,_,_,_,_,_,_,_,_,_,_,_,_,_,_,_,_,_,_,_,_,_,_,_,_,_,_,_,_,_,_,rfl,rfl,rfl,rfl,rfl,rfl,rfl,rfl,rfl,rfl,rfl,rfl,rfl,rfl,rfl,rfl,rfl⟩:=hp.open;refine dD [] (fn:=Tryz.f172) Tryz.func172 rfl Tryz.ntmps172 rfl<|fun g1 w1 M1=>fun g2 w2 M2=>ei<|an AP fun g3 w3 M3=>lb 2<|an rfl<|lb 2<|an (fun _=>rfl)<|lb 2<|an (fun _=>rfl)<|lb 1<|an (fun _=>rfl)<|an (fun h=>?_) fun h=>?_
 ·obtain⟨⟨h1,h2⟩,h3⟩:(e.op=1∧0≤e.a)∧e.a<p.bools.length:=by simpa using h
  obtain⟨y,hy⟩:∃ y,p.bools[e.a.toNat]?=some y:=⟨_,axp (by omega)⟩;obtain⟨b,o,e1,hc⟩:=SliceAt.elt hp.bools (fun _=>rfl) (by decide) hy (by omega);rw[YK h1 (k:=e.a.toNat) (by omega) (by omega) hy];exact sp [0,1,2,3,4,5,6,7,8] (.step 9 (.step 10 (.last 11))) [0,1] (by kernel_rfl)<|lb 0<|an rfl<|lb 1<|an rfl<|lb 0<|an rfl<|ia<|an ⟨e1,(axE h2).symm,by omega⟩<|lc (x:=.string y.name)<|an (fun u hu=>dH hu hc 0 _ rfl)<|fun w hb M=>fun g w M=>an rfl<|ei (x:=.agg #[.int .i64 e.op,.int .i64 0,.int .i64 0,.int .i64 0,.slice (some ⟨g,0,none⟩) 1 1,.int .u64 0,.int .u64 0,.int .u64 0,.int .u64 0,.slice none 0 0])<|an (bd (by kernel_rfl))<|an rfl<|lb 1<|an ⟨rfl,rfl⟩ fun w M=>ei (x:=1)<|an rfl fun M=>⟨_,rfl,⟨_,_,_,_,[⟨.slice none 0 0,89,10,0,[]⟩,⟨.slice (some ⟨g,0,none⟩) 1 1,9,1,1,[.string y.name]⟩],rfl,dB.node (es:=[]) rfl rfl (axF _ (axz.2 rfl)) (axB ..) rfl (by simp) (by simp),((M.Hr 1 1 (by simp[maxLen]) rfl).bM 89 10).dW⟩,M.below⟩
 rw[ab9 (fun h'=>by simp[h'.1,h'.2.1,h'.2.2] at h)];refine lb 2<|an rfl<|ei (x:=.agg #[.int .i64 e.op,.int .i64 0,.int .i64 0,.int .i64 0,.slice none 0 0,.int .u64 0,.int .u64 0,.int .u64 0,.int .u64 0,.slice none 0 0])<|an (bd (by kernel_rfl))<|ei<|an AP fun g5 w5 M5=>lb 0<|an ⟨rfl,rfl⟩ fun w6 M6=>lb 3<|an rfl<|?_
 refine lp (ι:=Nat×Value×List (List Value)×List Rw) (fun(m,u,es,T)=>[(41,.int .i64 (m:Int))]) (fun(m,u,es,T)=>(g5,89,#[.int .i64 e.op,.int .i64 0,.int .i64 0,.int .i64 0,.slice none 0 0,.int .u64 0,.int .u64 0,.int .u64 0,.int .u64 0,u])::_) (fun(m,u,es,T)=>⟨u,89,10,m,es.flatten⟩::⟨.slice none 0 0,9,1,0,[]⟩::T) (fun(m,u,es,T) _=>m≤e.kids.length∧es.length=m∧(∀ x∈es,x.length=10)∧∀ (i:Nat) x y,es[i]?=some x→(e.kids.map (cQ p.bools))[i]?=some y→dB T x y) (fun(m,u,es,T)=>e.kids.length-m) (0,.slice none 0 0,[],[]) (an ⟨⟨rfl,trivial⟩,fun M=>⟨(M.bM 9 1).bM 89 10,axw _,rfl,(fun _ h=>by cases h),fun i x y h=>by simp at h⟩⟩ ?_);rintro⟨m,u,es,T⟩ w M ⟨hm,hl,he,hR⟩;refine an (fun h=>?_) fun h=>?_
 ·have hlt:m<e.kids.length:=by simp at h;omega
  obtain⟨y,hy⟩:∃ y,e.kids[m]?=some y:=⟨_,axp hlt⟩;have Ns:=axx hy;obtain⟨b,o,_,e1,PK,hc⟩:=aC.elt hkv (by decide) hy;obtain⟨_,_,rfl,hn',hk'⟩:=PK.open;obtain⟨_,_,rfl,-⟩:=aU.get hn';obtain⟨_,_,rfl,-⟩:=aC.form hk' (by decide);have hkl:=jk.parts.2.1;refine ia<|an ⟨e1,rfl,hlt⟩<|lc<|an (dH M.below hc)<|ei<|an AP fun g6 w7 M7=>lb 0<|an ⟨rfl,rfl⟩ fun w8 M8=>sp [0,1,2,3,7] (.step 4 (.step 5 (.step 6 (.last 8)))) [1,3,4] (by kernel_rfl)<|lb 1<|an rfl<|lb 2<|an rfl<|lb 0<|an rfl<|fun w9 hb9 M9=>cg<|an (ih y Ns _ _ (PK.keep M9.below) (jk.parts.2.2 y Ns) _ _ _ _ _ _ _ _ _ _ _ _ _ _ _ _ _ (hp.keep M9.below)) fun v rz ⟨⟨na,nc,ka,kc,T9,hv,TN,Wd⟩,xJ⟩=>⟨_,_,M9.eA xJ Wd,?_⟩
  subst hv;exact an rfl<|fun g7 Dp M11=>an rfl<|Ii 0 id rfl (M11.slice 0 rfl (k:=10) (n:=1) rfl rfl (by simp[maxLen])) ⟨by unfold maxLen;omega,by omega⟩ fun va vc Ie EW=>an rfl<|lb 2<|an ⟨rfl,rfl⟩ fun LK zC=>an (by omega)<|bk (m+1,.slice va (m+1) vc,es++[[.int .i64 (cQ p.bools y).op,.int .i64 (cQ p.bools y).a,.int .i64 (cQ p.bools y).rel,.int .i64 (cQ p.bools y).b,.slice na (cQ p.bools y).names.length nc,.int .u64 (cQ p.bools y).set.a,.int .u64 (cQ p.bools y).set.b,.int .u64 (cQ p.bools y).set.c,.int .u64 (cQ p.bools y).set.d,.slice ka (cQ p.bools y).kids.length kc]],T++T9) ⟨rfl,trivial⟩ (fun M=>⟨(M.only (.cons _ (.cons _ (.refl _))) (.refl _)).cast rfl (by dsimp only;rw[← iO];rfl),by omega,by rw[axA,hl];rfl,lX he rfl,uJ (R:=dB) (fun _ _ _ _ hs h=>dB.mono hs h) hl hR (ab_ hy) (fun r hr=>axG.2 (.inl hr)) (TN.mono fun r hr=>axG.2 (.inr hr))⟩) (by dsimp only;omega)
 obtain rfl:m=e.kids.length:=by simp at h;omega
 obtain⟨x1,y1,rfl⟩:=M.form 0 rfl;refine lb 0<|an rfl<|lb 1<|an ⟨rfl,rfl⟩ fun w M=>ei (x:=1)<|an rfl fun M=>⟨_,rfl,⟨none,0,x1,y1,_,(by rw[show(aA.node e.op 0 0 0 [] ay.zero (e.kids.map (cQ p.bools))).kids.length=e.kids.length from axH ..];rfl),?_,M.dW⟩,M.below⟩
 rw[show(aA.node e.op 0 0 0 [] ay.zero (e.kids.map (cQ p.bools))).kids.length=e.kids.length from axH ..];exact dB.node (names:=[]) (set:=ay.zero) (es:=es) rfl rfl (axF _ (axB ..)) (by rw[axH];exact axB ..) (by rw[axH];exact hl) he fun i x y h1 h2=>(hR i x y h1 h2).mono fun r hr=>axF _ (axF _ hr)
def mh(x n:Int):Nat→List Int→Int
 | _,[]=>0
 | i,y::l=>if y=x then (i:Int)+1 else if y=n then -(i:Int)-1 else mh x n (i+1) l
theorem Wu{x n y:Int}{m:Nat}{l:List Int}(hy:l[m]?=some y)(h1:y≠x)(h2:y≠n):mh x n m (l.drop m)=mh x n (m+1) (l.drop (m+1)):=by
 obtain⟨hm,rfl⟩:=axo.1 hy;rw[List.drop_eq_getElem_cons hm,mh,if_neg h1,if_neg h2]
theorem agy{x n y:Int}{m:Nat}{l:List Int}(hy:l[m]?=some y)(h1:y=x):mh x n m (l.drop m)=(m:Int)+1:=by
 obtain⟨hm,rfl⟩:=axo.1 hy;rw[List.drop_eq_getElem_cons hm,mh,if_pos h1]
theorem agz{x n y:Int}{m:Nat}{l:List Int}(hy:l[m]?=some y)(h1:y≠x)(h2:y=n):mh x n m (l.drop m)=-(m:Int)-1:=by
 obtain⟨hm,rfl⟩:=axo.1 hy;rw[List.drop_eq_getElem_cons hm,mh,if_neg h1,if_pos h2]
theorem Zy{x n:Int}{m:Nat}{l:List Int}(hm:m=l.length):mh x n m (l.drop m)=0:=by rw[hm,List.drop_length,mh]
def jO(N:List ((Unit×Int)×Nat)):List Int:=N.map fun z=>z.1.2
theorem Ud{N:List ((Unit×Int)×Nat)}{m:Nat}{z:(Unit×Int)×Nat}(h:N[m]?=some z):(jO N)[m]?=some z.1.2:=by unfold jO;rw[axD,h];rfl
theorem wE(N:List ((Unit×Int)×Nat)):(jO N).length=N.length:=axH ..
theorem rD{w:World}{g:Nat}{x:Int}(h:Whole w g 52 #[.int .u64 x]):SliceAt w (.slice (some ⟨g,0,none⟩) 1 1) 1 [x].length ([x].flatMap OT):=yL (cs:=[.int .u64 x]) h rfl (fun u hu=>by rw[axz.1 hu];rfl)
theorem Sk(w0:World)(v:Value)(N:List ((Unit×Int)×Nat))(hs:SliceAt w0 v 1 N.length (N.flatMap sw))(hN:cG w0 0 N)(hl:N.length≤100000)(gx gn:Nat)(x n:Int)(hX:Whole w0 gx 52 #[.int .u64 x])(hNx:Whole w0 gn 52 #[.int .u64 n]):Calls Tryz.prog 174 #[v,.slice (some ⟨gx,0,none⟩) 1 1,.slice (some ⟨gn,0,none⟩) 1 1] w0 (fun(r:Ending) (w':World)=>r=.returned (.int .i64 (mh x n 0 (jO N)))∧axq w0.heap.size w0 w'):=by
 obtain⟨_,_,rfl,-⟩:=hs.form (by decide);refine dD [] (fn:=Tryz.f174) Tryz.func174 rfl Tryz.ntmps174 rfl<|lr (ι:=Nat) (fun m=>[(11,.int .i64 (m:Int))]) (fun m _=>m≤N.length∧mh x n 0 (jO N)=mh x n m ((jO N).drop m)) (fun m=>N.length-m) 0 (an ⟨⟨rfl,trivial⟩,fun M=>⟨M,axw _,rfl⟩⟩ ?_);intro m w M ⟨hm,hI⟩;refine an (fun h=>?_) fun h M=>⟨ri (hI.trans (Zy (by rw[wE];simp at h;omega))),M.below⟩
 have hlt:m<N.length:=by simp at h;omega
 obtain⟨z,hz⟩:∃ z,N[m]?=some z:=⟨_,axp hlt⟩;obtain⟨b,o,e,hc⟩:=SliceAt.elt hs (fun _=>rfl) (by decide) hz hlt;have hzw:=(hN z (axx hz)).1;have hy:=Ud hz;refine ia<|an ⟨e,rfl,hlt⟩<|lc (x:=.slice (some ⟨z.2,0,none⟩) 1 1)<|an (dH M.below hc 0 _ rfl)<|cl<|an (qN _ _ _ [z.1.2] [x] (rD (Whole.under M.below hzw hzw.lt)) (rD (Whole.under M.below hX hX.lt))) fun w1 M1=>?_
 refine an (fun h1=>an (by omega) fun M=>⟨ri (hI.trans (agy hy (by simpa using h1))),M.below⟩) fun h1=>?_
 have h1:z.1.2≠x:=by simpa using h1
 refine cl<|an (qN _ _ _ [z.1.2] [n] (rD (Whole.under M1.below hzw hzw.lt)) (rD (Whole.under M1.below hNx hNx.lt))) fun w2 M2=>?_
 refine an (fun h2=>an (by omega)<|an (by omega) fun M=>⟨ri (by rw[hI,agz hy h1 (by simpa using h2)];omega),M.below⟩) fun h2=>?_
 exact an (by omega)<|bk (m+1) ⟨rfl,trivial⟩ (fun M=>⟨M,by omega,hI.trans (Wu hy h1 (by simpa using h2))⟩) (by dsimp only;omega)
theorem aW.Ws{B:Nat}{w0 w w':World}{bs bs':List Bx}{rs rs':List Rw}(M:aW B w0 w bs rs)(N:aW w.heap.size w w' bs' rs'):aW B w0 w' (bs'++bs) (rs++rs'):=by
 have hb:=N.below;have M':=M.keep hb;have R:=M.eA hb N.dW;refine⟨M'.below,M'.le,M'.old,fun b h=>?_,fun b h=>?_,?_,R.row,fun r hr b h=>?_,R.vX⟩
 ·rcases axG.1 h with h|h
  ·exact N.box b h
  ·exact M'.box b h
 ·rcases axG.1 h with h|h
  ·exact axv M.big (N.lo b h)
  ·exact M'.lo b h
 ·rw[axI];refine List.nodup_append.2 ⟨N.nd,M.nd,?_⟩;intro x hx y hy e;obtain⟨b,hb1,rfl⟩:=axJ.1 hx;obtain⟨c,hc1,rfl⟩:=axJ.1 hy;have h1:=N.lo b hb1;have h2:=(M.box c hc1).lt;omega
 ·rcases axG.1 h with h|h
  ·rcases axG.1 hr with hr|hr
   ·intro e;have h1:=((M.row r hr).lt _ e).2;have h2:=N.lo b h;omega
   ·exact N.far r hr b h
  ·exact R.far r hr b h
def j4{α:Type}(f:Int→Option α)(k:Int)(v:α):Int→Option α:=fun j=>if j=k then some v else f j
def AJ{α:Type}(c:α→Value)(L:List (Int×Value))(f:Int→Option α):Prop:=∀ k,jU L k=(f k).map c
theorem AJ.nil{α:Type}(c:α→Value):AJ c [] (fun _=>none):=fun _=>rfl
theorem AJ.put{α:Type}{c:α→Value}{L:List (Int×Value)}{f:Int→Option α}(h:AJ c L f)(k:Int)(v:α):AJ c ((k,c v)::gW L k) (j4 f k v):=fun j=>by
 rw[Al];unfold j4;by_cases e:j=k
 ·rw[if_pos e,if_pos e];rfl
 ·rw[if_neg e,if_neg e,h j]
theorem AJ.get{α:Type}{c:α→Value}{L:List (Int×Value)}{f:Int→Option α}(h:AJ c L f)(k:Int)(z:α):(jU L k).getD (c z)=c ((f k).getD z):=by
 rw[h k];cases f k<;>rfl
def zU(c:Int):Int:=if c<0-c then 0-c else c
def D6(l:List aj)(f:Int→Option Bool):Int→Option Bool:=l.foldl (fun g y=>j4 g (zU y.cond) true) f
def IW(l:List bV)(f:Int→Option Bool):Int→Option Bool:=l.foldl (fun g y=>j4 g (zU y.cond) true) f
def A_(p:aF):Int→Option Bool:=IW p.trans (D6 p.rules fun _=>none)
theorem LQ{l:List aj}{f:Int→Option Bool}{m:Nat}{y:aj}(hy:l[m]?=some y):D6 (l.take (m+1)) f=j4 (D6 (l.take m) f) (zU y.cond) true:=by
 unfold D6;rw[bn hy,List.foldl_append];rfl
theorem LP{l:List bV}{f:Int→Option Bool}{m:Nat}{y:bV}(hy:l[m]?=some y):IW (l.take (m+1)) f=j4 (IW (l.take m) f) (zU y.cond) true:=by
 unfold IW;rw[bn hy,List.foldl_append];rfl
structure yx where
 DV:Int→Option Int
 ev:Int→Option Bool
 nv:Int→Option Bool
 seen:List Int
 kids:List aA
def zw(i:Nat)(k:Int)(s:yx):yx:={ s with DV:=j4 (j4 s.DV ((i:Int)+1) k) (0-((i:Int)+1)) (0-k) }
def jx(p:aF)(i:Nat)(e:aA)(s:yx):yx:=
 if (pS (cQ p.bools e)||KD (cQ p.bools e))=true then { s with ev:=j4 (j4 s.ev ((i:Int)+1) (pS (cQ p.bools e))) (0-((i:Int)+1)) (!pS (cQ p.bools e)),nv:=j4 (j4 s.nv ((i:Int)+1) (!pS (cQ p.bools e))) (0-((i:Int)+1)) (pS (cQ p.bools e)) }
 else if (A_ p ((i:Int)+1)).getD false=false then s
 else
  let x:=cF (aZ p.bools.length) p.bools.length e
  let k:=mh x (notM (aZ p.bools.length) x) 0 s.seen
  if k=0 then zw i ((s.seen.length:Int)+1) { s with seen:=s.seen++[x],kids:=s.kids++[e] } else zw i k s
def jK(p:aF)(i:Nat):List aA→yx→yx
 | [],s=>s
 | e::l,s=>jK p (i+1) l (jx p i e s)
def cs0:yx:=⟨fun _=>none,fun _=>none,fun _=>none,[],[]⟩
def dF(p:aF)(m:Nat):yx:=jK p 0 (p.conds.take m) cs0
theorem CU(p:aF):∀ (l:List aA) (i:Nat) (s:yx) (e:aA),jK p i (l++[e]) s=jx p (i+l.length) e (jK p i l s)
 | [],i,s,e=>rfl
 | y::l,i,s,e=>by
  rw[List.cons_append,jK,jK,CU p l (i+1) _ e,List.length_cons];congr 1;omega
theorem Ay{p:aF}{m:Nat}{e:aA}(hy:p.conds[m]?=some e):dF p (m+1)=jx p m e (dF p m):=by
 obtain⟨hm,-⟩:=axo.1 hy;unfold dF;rw[bn hy,CU,List.length_take,Nat.min_eq_left (by omega),Nat.zero_add]
theorem Qd{c:Int}(h1:-1000000≤c)(h2:c≤1000000):iX (zU c):=by unfold zU;split<;>constructor<;>omega
theorem qR{p:aF}{m:Nat}{e:aA}(hy:p.conds[m]?=some e)(h:(pS (cQ p.bools e)||KD (cQ p.bools e))=true):dF p (m+1)={ dF p m with ev:=j4 (j4 (dF p m).ev ((m:Int)+1) (pS (cQ p.bools e))) (0-((m:Int)+1)) (!pS (cQ p.bools e)),nv:=j4 (j4 (dF p m).nv ((m:Int)+1) (!pS (cQ p.bools e))) (0-((m:Int)+1)) (pS (cQ p.bools e)) }:=by rw[Ay hy,jx,if_pos h]
theorem vv{p:aF}{m:Nat}{e:aA}(hy:p.conds[m]?=some e)(h:(pS (cQ p.bools e)||KD (cQ p.bools e))=false)(hu:(A_ p ((m:Int)+1)).getD false=false):dF p (m+1)=dF p m:=by rw[Ay hy,jx,if_neg (by rw[h];decide),if_pos hu]
theorem CT{p:aF}{m:Nat}{e:aA}(hy:p.conds[m]?=some e)(h:(pS (cQ p.bools e)||KD (cQ p.bools e))=false)(hu:(A_ p ((m:Int)+1)).getD false=true)(hk:mh (cF (aZ p.bools.length) p.bools.length e) (notM (aZ p.bools.length) (cF (aZ p.bools.length) p.bools.length e)) 0 (dF p m).seen=0):dF p (m+1)=zw m (((dF p m).seen.length:Int)+1) { dF p m with seen:=(dF p m).seen++[cF (aZ p.bools.length) p.bools.length e],kids:=(dF p m).kids++[e] }:=by
 rw[Ay hy,jx,if_neg (by rw[h];decide),if_neg (by rw[hu];decide)];dsimp only;rw[if_pos hk]
theorem CS{p:aF}{m:Nat}{e:aA}(hy:p.conds[m]?=some e)(h:(pS (cQ p.bools e)||KD (cQ p.bools e))=false)(hu:(A_ p ((m:Int)+1)).getD false=true)(hk:mh (cF (aZ p.bools.length) p.bools.length e) (notM (aZ p.bools.length) (cF (aZ p.bools.length) p.bools.length e)) 0 (dF p m).seen≠0):dF p (m+1)=zw m (mh (cF (aZ p.bools.length) p.bools.length e) (notM (aZ p.bools.length) (cF (aZ p.bools.length) p.bools.length e)) 0 (dF p m).seen) (dF p m):=by
 rw[Ay hy,jx,if_neg (by rw[h];decide),if_neg (by rw[hu];decide)];dsimp only;rw[if_neg hk]
theorem P4(p:aF):∀ (l:List aA) (i:Nat) (s:yx),(jK p i l s).seen.length≤s.seen.length+l.length∧(s.kids.length=s.seen.length→(jK p i l s).kids.length=(jK p i l s).seen.length)
 | [],i,s=>⟨Nat.le_refl _,fun h=>h⟩
 | e::l,i,s=>by
  have h1:(jx p i e s).seen.length≤s.seen.length+1∧(s.kids.length=s.seen.length→(jx p i e s).kids.length=(jx p i e s).seen.length):=by
   unfold jx;split
   ·exact⟨Nat.le_succ _,fun h=>h⟩
   ·split
    ·exact⟨Nat.le_succ _,fun h=>h⟩
    ·dsimp only;split
     ·exact⟨by simp[zw],fun h=>by simp[zw,h]⟩
     ·exact⟨Nat.le_succ _,fun h=>h⟩
  have h2:=P4 p l (i+1) (jx p i e s);rw[jK,List.length_cons];exact⟨by omega,fun h=>h2.2 (h1.2 h)⟩
theorem Xg(p:aF)(m:Nat):(dF p m).seen.length≤m∧(dF p m).kids.length=(dF p m).seen.length:=by
 have h:=P4 p (p.conds.take m) 0 cs0;have h2:(p.conds.take m).length≤m:=List.length_take_le _ _;have h3:=h.1;exact⟨axv h3 (by show 0+_≤m;omega),h.2 rfl⟩
theorem xR(x n:Int):∀ (l:List Int) (i:Nat),-((i:Int)+l.length)≤mh x n i l∧mh x n i l≤(i:Int)+l.length
 | [],i=>by rw[mh];constructor<;>simp<;>omega
 | y::l,i=>by
  have h:=xR x n l (i+1);rw[mh,List.length_cons];split
  ·constructor<;>omega
  ·split
   ·constructor<;>omega
   ·constructor<;>omega
theorem Ni{T T9:List Rw}{es:List (List Value)}{ks:List aA}{x:List Value}{y:aA}(hl:es.length=ks.length)(h:∀ (i:Nat) x y,es[i]?=some x→ks[i]?=some y→dB T x y)(hx:dB T9 x y):
 ∀ (i:Nat) x' y',(es++[x])[i]?=some x'→(ks++[y])[i]?=some y'→dB (T++T9) x' y':=fun i x' y' h1 h2=>by
 by_cases hi:i<es.length
 ·rw[List.getElem?_append_left hi] at h1;rw[List.getElem?_append_left (by omega)] at h2;exact(h i x' y' h1 h2).mono fun r hr=>axG.2 (.inl hr)
 ·have hlt:=(axo.1 h1).1;rw[axA,List.length_singleton] at hlt;obtain rfl:i=es.length:=by omega
  rw[List.getElem?_append_right (Nat.le_refl _),Nat.sub_self] at h1;rw[hl,List.getElem?_append_right (Nat.le_refl _),Nat.sub_self] at h2;obtain rfl:x=x':=by simpa using h1
  obtain rfl:y=y':=by simpa using h2
  exact hx.mono fun r hr=>axG.2 (.inr hr)
theorem LJ{α:Type}(N:List ((α×Int)×Nat)):∀ u∈N.flatMap sw,u.oneCell'=true:=fun u hu=>by
 obtain⟨z,-,hz⟩:=List.mem_flatMap.1 hu;simp only[sw,axz] at hz;rw[hz];rfl
def ad6(p:aF)(w0:World)(v:Value)(w':World):Prop:=∃ (mA mB mC:Nat) (LA LB LC:List (Int×Value)) (a:Option Addr) (c:Nat) (es:List (List Value)) (T:List Rw),v=.agg #[.map (some mA),.map (some mB),.map (some mC),.slice a (dF p p.conds.length).kids.length c]∧Mm w0 w' [(mC,9003,eF LC),(mB,9003,eF LB),(mA,9003,eF LA)] (⟨.slice a (dF p p.conds.length).kids.length c,89,10,(dF p p.conds.length).kids.length,es.flatten⟩::T)∧AJ (Value.int .i64) LA (dF p p.conds.length).DV∧AJ Value.bool LB (dF p p.conds.length).ev∧AJ Value.bool LC (dF p p.conds.length).nv∧es.length=(dF p p.conds.length).kids.length∧(∀ x∈es,x.length=10)∧(∀ (i:Nat) x y,es[i]?=some x→(dF p p.conds.length).kids[i]?=some y→dB T x y)
theorem Q9{w:World}{B g:Nat}{x:Value}(h:w.ownsRow B 52 1 (.slice (some ⟨g,0,none⟩) 1 1) 1 [x]):Whole w g 52 #[x]:=by
 obtain⟨-,⟨h,-⟩|⟨g',cap,cur,hv,-,hg,-,-,hs,ht⟩⟩:=h
 ·cases h
 ·cases hv;rw[List.take_of_length_le (by simp[hs])] at ht;obtain rfl:cur=#[x]:=by rw[← ht]
  exact hg
def abF(z:(Unit×Int)×Nat):Rw:=⟨.slice (some ⟨z.2,0,none⟩) 1 1,52,1,1,[.int .u64 z.1.2]⟩
theorem YQ{B:Nat}{w0 w:World}{bs:List Bx}{rs T:List Rw}{N:List ((Unit×Int)×Nat)}(M:aW B w0 w bs rs)(h:∀ z∈N,abF z∈T)(hs:∀ r∈T,r∈rs):cG w 0 N:=fun z hz=>⟨Q9 (M.row _ (hs _ (h z hz))),axw _⟩
theorem L3(w0:World)(c0 c1 c2 c3 c4 c5 c6 c7 c8 c9 aR aO aN aQ aM aL aP:Value)(p:aF)(hp:aK w0 c0 c1 c2 c3 c4 c5 c6 c7 c8 c9 aR aO aN aQ aM aL aP p)(hok:p.Ok)(jk:nh p)(hn:p.bools.length≤5)(hcl:p.conds.length≤900)(Zm:∀ y∈p.rules,-1000000≤y.cond∧y.cond≤1000000)(Zl:∀ y∈p.trans,-1000000≤y.cond∧y.cond≤1000000)(ade:∀ e∈p.conds,∃ d,d≤12∧iZ d (cQ p.bools e)∧(dJ (cQ p.bools e)).length≤5):Calls Tryz.prog 87 #[.agg #[c0,c1,c2,c3,c4,c5,c6,c7,c8,c9,aR,aO,aN,aQ,aM,aL,aP]] w0 (fun(r:Ending) (w':World)=>∃ v,r=.returned v∧ad6 p w0 v w'):=by
 obtain⟨_,_,_,_,_,_,_,_,_,_,_,_,_,_,_,_,_,_,_,_,_,_,_,_,_,_,_,_,_,_,_,_,_,_,rfl,rfl,rfl,rfl,rfl,rfl,rfl,rfl,rfl,rfl,rfl,rfl,rfl,rfl,rfl,rfl,rfl⟩:=hp.open;obtain⟨_,_,-,-,hmR,-⟩:=SliceAt.form hp.rules (by decide);obtain⟨_,_,-,-,hmT,-⟩:=SliceAt.form hp.trans (by decide);refine dD [] (fn:=Tryz.f87) Tryz.func87 rfl Tryz.ntmps87 rfl<|fun g1 w1 M1=>ei<|an TU fun g2 w2 M2=>mmk M2 fun mu w3 M3=>lb 2<|an rfl<|lp (ι:=Nat×List (Int×Value)) (fun(m,L)=>[(22,.int .i64 (m:Int))]) (fun(m,L)=>(mu,9003,eF L)::_) (fun _=>[]) (fun(m,L) _=>m≤p.rules.length∧AJ Value.bool L (D6 (p.rules.take m) fun _=>none)) (fun(m,L)=>p.rules.length-m) (0,[]) (an ⟨⟨rfl,trivial⟩,fun M=>⟨M,axw _,AJ.nil _⟩⟩ ?_)
 rintro⟨m,L⟩ w M ⟨hm,hU⟩;refine an (fun h=>?_) fun h=>?_
 ·have hlt:m<p.rules.length:=by simp at h;omega
  obtain⟨y,hy⟩:∃ y,p.rules[m]?=some y:=⟨_,axp hlt⟩;obtain⟨b,o,e,hc⟩:=SliceAt.elt hp.rules (fun _=>rfl) (by decide) hy hlt;have hcb:=Zm y (axx hy);exact ia<|an ⟨e,rfl,hlt⟩<|lc<|an (dH M.below hc)<|ei<|an mJ fun g3 w4 M4=>lb 0<|an ⟨rfl,rfl⟩ fun w5 M5=>lb 0<|an rfl<|lb 0<|an rfl<|an (by omega)<|fbp M5 (v:=.int .i64 (zU y.cond)) (fun a o ho hv=>CQ ho (oD hv) (uf hv))<|Vm M5 1 rfl Ba (Qd hcb.1 hcb.2) fun w6 M6=>an (by omega)<|bk (m+1,(zU y.cond,.bool true)::gW L (zU y.cond)) ⟨rfl,trivial⟩ (fun M=>⟨M.only (.cons _ (.refl _)) (.refl _),by omega,by rw[LQ hy];exact hU.put _ true⟩) (by dsimp only;omega)
 obtain rfl:m=p.rules.length:=by simp at h;omega
 rw[axK] at hU;clear M M1 M2 M3 hm h;refine lb 2<|an rfl<|lp (ι:=Nat×List (Int×Value)) (fun(m,L)=>[(37,.int .i64 (m:Int))]) (fun(m,L)=>(mu,9003,eF L)::_) (fun _=>[]) (fun(m,L) _=>m≤p.trans.length∧AJ Value.bool L (IW (p.trans.take m) (D6 p.rules fun _=>none))) (fun(m,L)=>p.trans.length-m) (0,L) (an ⟨⟨rfl,trivial⟩,fun M=>⟨M,axw _,hU⟩⟩ ?_);clear hU L;rintro⟨m,L⟩ w M ⟨hm,hU⟩;refine an (fun h=>?_) fun h=>?_
 ·have hlt:m<p.trans.length:=by simp at h;omega
  obtain⟨y,hy⟩:∃ y,p.trans[m]?=some y:=⟨_,axp hlt⟩;obtain⟨b,o,e,hc⟩:=SliceAt.elt hp.trans (fun _=>rfl) (by decide) hy hlt;have hcb:=Zl y (axx hy);exact ia<|an ⟨e,rfl,hlt⟩<|lc<|an (dH M.below hc)<|ei<|an Qq fun g3 w4 M4=>lb 0<|an ⟨rfl,rfl⟩ fun w5 M5=>lb 0<|an rfl<|lb 0<|an rfl<|an (by omega)<|fbp M5 (v:=.int .i64 (zU y.cond)) (fun a o ho hv=>CQ ho (oD hv) (uf hv))<|Vm M5 1 rfl Ba (Qd hcb.1 hcb.2) fun w6 M6=>an (by omega)<|bk (m+1,(zU y.cond,.bool true)::gW L (zU y.cond)) ⟨rfl,trivial⟩ (fun M=>⟨M.only (.cons _ (.refl _)) (.refl _),by omega,by rw[LP hy];exact hU.put _ true⟩) (by dsimp only;omega)
 obtain rfl:m=p.trans.length:=by simp at h;omega
 rw[axK] at hU;replace hU:AJ Value.bool L (A_ p):=hU;refine mmk M fun mA wA MA=>mmk MA fun mB wB MB=>mmk MB fun mC wC MC=>ei (x:=.agg #[.map (some mA),.map (some mB),.map (some mC),.slice none 0 0])<|an (bd (by kernel_rfl))<|ei<|an TU fun g5 w7 M7=>lb 0<|an ⟨rfl,rfl⟩ fun w8 M8=>lb 6<|an rfl<|cg<|an (nA _ _ _ _ _ _ _ _ _ _ _ _ _ _ _ _ _ _ p.bools.length _ hn) fun v w9 ⟨⟨tp,mb,hv,hT,_,h1,_⟩,hb9⟩=>⟨_,_,M8.newAt hb9 hT h1,?_⟩
 subst hv;clear M MA MB MC M7 M8 hT hm h hb9
 refine lb 7<|an rfl<|lp (ι:=Nat×List (Int×Value)×List (Int×Value)×List (Int×Value)×List ((Unit×Int)×Nat)×Value×Value×List (List Value)×List Rw) (fun(m,LA,LB,LC,N,vs,vk,es,T)=>[(10,vs),(58,.int .i64 (m:Int))]) (fun(m,LA,LB,LC,N,vs,vk,es,T)=>_::(g5,159,#[.map (some mA),.map (some mB),.map (some mC),vk])::(mC,9003,eF LC)::(mB,9003,eF LB)::(mA,9003,eF LA)::_) (fun(m,LA,LB,LC,N,vs,vk,es,T)=>⟨vs,139,1,N.length,N.flatMap sw⟩::⟨vk,89,10,N.length,es.flatten⟩::T)
  (fun(m,LA,LB,LC,N,vs,vk,es,T) _=>m≤p.conds.length∧AJ (Value.int .i64) LA (dF p m).DV∧AJ Value.bool LB (dF p m).ev∧AJ Value.bool LC (dF p m).nv∧jO N=(dF p m).seen∧(∀ z∈N,abF z∈T)∧es.length=N.length∧(∀ x∈es,x.length=10)∧∀ (i:Nat) x y,es[i]?=some x→(dF p m).kids[i]?=some y→dB T x y) (fun(m,_)=>p.conds.length-m) (0,[],[],[],[],.slice none 0 0,.slice none 0 0,[],[])
  (an ⟨⟨rfl,rfl,trivial⟩,fun M=>⟨(M.bM 89 10).bM 139 1,axw _,AJ.nil _,AJ.nil _,AJ.nil _,rfl,(fun _ h=>by cases h),rfl,(fun _ h=>by cases h),fun i x y h=>by simp at h⟩⟩ ?_)
 rintro⟨m,LA,LB,LC,N,vs,vk,es,T⟩ w M ⟨hm,hA,hB,hC,hNw,hNr,hes,Nx,hR⟩;have hcs:=Xg p m;have hsl:N.length=(dF p m).seen.length:=by rw[← hNw,wE]
 refine an (fun h=>?_) fun h=>?_
 ·have hlt:m<p.conds.length:=by simp at h;omega
  obtain⟨e,hy⟩:∃ e,p.conds[m]?=some e:=⟨_,axp hlt⟩;have hye:=axx hy;obtain⟨b,o,_,e1,hE,hc⟩:=aC.elt hp.conds (by decide) hy;obtain⟨_,_,rfl,hn',hk'⟩:=hE.open;obtain⟨_,_,rfl,-⟩:=aU.get hn';obtain⟨_,_,rfl,-⟩:=aC.form hk' (by decide);have hsE:=jk.P5 e hye;obtain⟨d,hd,hBE,hnN⟩:=ade e hye;refine ia<|an ⟨e1,rfl,hlt⟩<|lc<|an (dH M.below hc)<|ei<|an AP fun g6 rz nI=>lb 0<|an ⟨rfl,rfl⟩ fun Dp M11=>an (by omega)<|lb 0<|an rfl<|lb 8<|an rfl<|cg<|an (FN p hok e _ _ (hE.keep M11.below) hsE _ _ _ _ _ _ _ _ _ _ _ _ _ _ _ _ _ (hp.keep M11.below)) fun v Ie ⟨⟨na,nc,ka,kc,T9,hv,TN,Wd⟩,J9⟩=>⟨_,_,M11.keep J9,?_⟩
  subst hv;have EW:=M11.keep J9;refine cl<|an (Gu _ _ (cQ p.bools e) d (TN.at_ Wd) hBE hd hnN) fun LK zC=>an (fun hc0=>?_) fun hc0=>?_
  ·refine sp [0,1,2,3,4,5,6,7,8] (.step 9 (.last 10)) [6] (by kernel_rfl)<|lb 0<|an rfl<|lb 0<|an rfl<|fun XH aqZ Lg=>Vm Lg 4 rfl Ba (by constructor<;>omega) fun Qz Ij=>an rfl<|Vm Ij 3 rfl Ba (by constructor<;>omega) fun w16 Og=>sp [0,1,2,3,4,5,6,7,8,9,10] (.step 11 (.last 12)) [6] (by kernel_rfl)<|lb 0<|an rfl<|an (by omega)<|lb 0<|an rfl<|an (by omega)<|fun w17 aqX Z6=>Vm Z6 4 rfl Ba (by constructor<;>omega) fun w18 Z5=>an rfl<|Vm Z5 3 rfl Ba (by constructor<;>omega) fun w19 M19=>an (by omega)<|bk (m+1,LA,_,_,N,vs,vk,es,T) ⟨rfl,rfl,trivial⟩ (fun M=>⟨M.only (.cons _ (.refl _)) (.refl _),by omega,by rw[qR hy hc0];exact hA,by rw[qR hy hc0];exact(hB.put _ _).put _ _,by rw[qR hy hc0];exact(hC.put _ _).put _ _,by rw[qR hy hc0];exact hNw,hNr,hes,Nx,by rw[qR hy hc0];exact hR⟩) (by dsimp only;omega)
  refine ml1 zC 6 rfl Ba (fun _=>rfl) (by constructor<;>omega) fun Lg=>?_
  rw[hU.get];refine an (fun hu=>?_) fun hu=>?_
  ·have hu0:(A_ p ((m:Int)+1)).getD false=false:=by simpa using hu
   exact an (by omega)<|bk (m+1,LA,LB,LC,N,vs,vk,es,T) ⟨rfl,rfl,trivial⟩ (fun M=>⟨M.only (.cons _ (.refl _)) (.refl _),by omega,by rw[vv hy hc0 hu0];exact hA,by rw[vv hy hc0 hu0];exact hB,by rw[vv hy hc0 hu0];exact hC,by rw[vv hy hc0 hu0];exact hNw,hNr,hes,Nx,by rw[vv hy hc0 hu0];exact hR⟩) (by dsimp only;omega)
  have hu0:(A_ p ((m:Int)+1)).getD false=true:=by simpa using hu
  refine lb 0<|an rfl<|cst Lg (wG e _ _ tp mb _ _ _ _ _ _ _ _ _ _ _ _ _ _ _ _ _ p.bools.length _ _ hn (Lg.b 1 rfl) (hE.keep Lg.below)) fun gw Qz Ij=>cst Ij (Ai _ tp mb _ _ _ _ _ _ _ _ _ _ _ _ _ _ _ _ _ p.bools.length _ _ (Ij.b 2 rfl) gw _ (Ij.b 0 rfl)) fun gq w16 Og=>?_
  have hnr:=YQ Og hNr fun r hr=>axF _ (axF _ hr)
  refine cl<|an (Sk _ _ N (SliceAt.bC (Og.r 0 rfl) (LJ N)) hnr (by omega) gw gq _ _ (Og.b 1 rfl) (Og.b 0 rfl)) fun w17 Z6=>?_
  have hfb:=xR (cF (aZ p.bools.length) p.bools.length e) (notM (aZ p.bools.length) (cF (aZ p.bools.length) p.bools.length e)) (jO N) 0;rw[wE] at hfb;refine an (fun hk=>?_) fun hk=>?_
  ·have hk0:mh (cF (aZ p.bools.length) p.bools.length e) (notM (aZ p.bools.length) (cF (aZ p.bools.length) p.bools.length e)) 0 (dF p m).seen=0:=by rw[← hNw];exact of_decide_eq_true hk
   refine sp [1,4,5,6] (.alt (.step 0 (.step 2 (.step 3 (.step 7 (.step 8 (.step 9 (.step 10 (.step 11 (.last 12))))))))) (.step 2 (.step 0 (.step 3 (.step 7 (.step 8 (.step 9 (.step 10 (.step 11 (.last 12)))))))))) [6,8] (by kernel_rfl)<|lb 0<|an rfl<|lb 1<|an rfl<|fun w18 aj0 Z5=>an (an rfl<|fun g7 w19 M19=>an rfl<|?_) (fun g7 w19 M19=>an rfl<|an rfl<|?_)
   all_goals
    refine Ii 0 id rfl (M19.slice 0 rfl (k:=1) (n:=1) rfl rfl (by simp[maxLen])) ⟨by unfold maxLen;omega,by omega⟩ fun va vc w20 M20=>an rfl<|cg<|an (MI e _ _ (hE.keep M20.below) hsE) fun v w21 ⟨⟨xn,xc,xk,xd,T7,hv,hT7,hR7⟩,ajZ⟩=>⟨_,_,M20.eA ajZ hR7,?_⟩
    subst hv;refine an rfl<|fun g9 w22 M22=>an rfl<|Ii 1 id rfl (M22.slice 0 rfl (k:=10) (n:=1) rfl rfl (by simp[maxLen])) ⟨by unfold maxLen;omega,by omega⟩ fun vb vd w23 M23=>an rfl<|an rfl<|an rfl<|lb 6<|an ⟨rfl,rfl⟩ fun w24 M24=>?_
    refine sp [0,1,2,3,4,5,6,7,8,9] (.step 10 (.last 11)) [6] (by kernel_rfl)<|lb 0<|an rfl<|lb 0<|an rfl<|an (by omega)<|an (by omega)<|fun w25 aqW M25=>Vm M25 9 rfl QD (by constructor<;>omega) fun w26 M26=>an rfl<|Vm M26 9 rfl QD (by constructor<;>omega) fun w27 M27=>an (by omega)<|bk (m+1,_,LB,LC,N++[(((),cF (aZ p.bools.length) p.bools.length e),gw)],.slice va (N.length+1) vc,.slice vb (N.length+1) vd,es++[[.int .i64 e.op,.int .i64 e.a,.int .i64 e.rel,.int .i64 e.b,.slice xn e.names.length xc,.int .u64 e.set.a,.int .u64 e.set.b,.int .u64 e.set.c,.int .u64 e.set.d,.slice xk e.kids.length xd]],abF (((),cF (aZ p.bools.length) p.bools.length e),gw)::(T++T7)) ⟨rfl,rfl,trivial⟩ (fun M=>⟨(((M.only (.cons _ (.cons _ (.cons _ (.cons_cons _ (.cons _ (.refl _)))))) (.refl _)).Hr 1 1 (by simp[maxLen]) rfl).perm (List.perm_middle (l₁:=[_,_])).symm).cast rfl (by dsimp only;rw[axL,axA,← iO];rfl),by omega,?_,by rw[CT hy hc0 hu0 hk0];exact hB,by rw[CT hy hc0 hu0 hk0];exact hC,?_,?_,by rw[axA,axA,hes];rfl,lX Nx rfl,?_⟩) (by dsimp only;omega)
    ·rw[CT hy hc0 hu0 hk0];show AJ _ _ (j4 (j4 (dF p m).DV _ (((dF p m).seen.length:Int)+1)) _ (0-(((dF p m).seen.length:Int)+1)));rw[← hsl];exact(hA.put _ _).put _ _
    ·rw[CT hy hc0 hu0 hk0];show jO (N++[_])=(dF p m).seen++[_];rw[← hNw];unfold jO;rw[axI];rfl
    ·intro z hz;rcases axG.1 hz with hz|hz
     ·exact axF _ (axG.2 (.inl (hNr z hz)))
     ·rw[axz.1 hz];exact axB ..
    ·rw[CT hy hc0 hu0 hk0];exact fun i x y h1 h2=>(Ni (hes.trans (hsl.trans hcs.2.symm)) hR hT7 i x y h1 h2).mono fun r hr=>axF _ hr
  ·have hk0:mh (cF (aZ p.bools.length) p.bools.length e) (notM (aZ p.bools.length) (cF (aZ p.bools.length) p.bools.length e)) 0 (dF p m).seen≠0:=by rw[← hNw];exact of_decide_eq_false hk
   exact sp [0,1,2,3,4,5,6,7,8,9] (.step 10 (.last 11)) [6] (by kernel_rfl)<|lb 0<|an rfl<|lb 0<|an rfl<|an (by omega)<|an (by omega)<|fun w18 aj0 Z5=>Vm Z5 7 rfl QD (by constructor<;>omega) fun w19 M19=>an rfl<|Vm M19 7 rfl QD (by constructor<;>omega) fun w20 M20=>an (by omega)<|bk (m+1,_,LB,LC,N,vs,vk,es,T) ⟨rfl,rfl,trivial⟩ (fun M=>⟨M.only (.cons _ (.cons _ (.cons _ (.refl _)))) (.refl _),by omega,by rw[CS hy hc0 hu0 hk0,← hNw];exact(hA.put _ _).put _ _,by rw[CS hy hc0 hu0 hk0];exact hB,by rw[CS hy hc0 hu0 hk0];exact hC,by rw[CS hy hc0 hu0 hk0];exact hNw,hNr,hes,Nx,by rw[CS hy hc0 hu0 hk0];exact hR⟩) (by dsimp only;omega)
 obtain rfl:m=p.conds.length:=by simp at h;omega
 have hkl:=hsl.trans hcs.2.symm;obtain⟨va,vc,rfl⟩:=M.form 1 rfl;exact lb 1<|an rfl<|lb 6<|an ⟨rfl,rfl⟩ fun w21 M21=>ei (x:=6)<|an rfl fun M=>⟨_,rfl,mA,mB,mC,LA,LB,LC,va,vc,es,T,by rw[← hkl],by rw[← hkl];exact M.only (.cons _ (.cons _ (.cons_cons _ (.cons_cons _ (.cons_cons _ (.cons _ (.cons _ (.cons _ .slnil)))))))) (.cons _ (.refl _)),hA,hB,hC,hes.trans hkl,Nx,hR⟩
def kX(sc:yx)(k:Int):Int×Bool:=if (sc.ev k).getD false=true then (0,true) else ((sc.DV k).getD 0,!((sc.nv k).getD false))
theorem zy(w0:World)(mA mB mC:Nat)(LA LB LC:List (Int×Value))(kv:Value)(sc:yx)(hMA:aV w0 Tryz.prog 3 mA (LA.map ival))(hMB:aV w0 Tryz.prog 3 mB (LB.map ival))(hMC:aV w0 Tryz.prog 3 mC (LC.map ival))(hA:AJ (Value.int .i64) LA sc.DV)(hB:AJ Value.bool LB sc.ev)(hC:AJ Value.bool LC sc.nv)(k:Int)(hk:iX k):Calls Tryz.prog 88 #[.agg #[.map (some mA),.map (some mB),.map (some mC),kv],.int .i64 k] w0 (fun(r:Ending) (w':World)=>r=.returned (.tuple #[.int .i64 (kX sc k).1,.bool (kX sc k).2])∧axq w0.heap.size w0 w'):=by
 have bJ:=Nu Tryz.prog Tryz.f88 (fun(r:Ending) (w':World)=>r=.returned (.tuple #[.int .i64 (kX sc k).1,.bool (kX sc k).2])∧axq w0.heap.size w0 w') 19 4 5 rfl;refine en Tryz.func88 rfl Tryz.ntmps88 rfl (vs:=[.agg #[(.map (some mA)),(.map (some mB)),(.map (some mC)),kv],.int .i64 k]) rfl fun _ F=>?_
 have M:=Mm.start w0;refine axr fun K1 gU=>ah<|Ig (on rfl) rfl (F.u rf) rfl F rfl M fun g1 _ _ F M=>xA (v:=.int .i64 0) F rf rf rf fun _ F=>xA (v:=.bool false) F rf rf rf fun _ F=>axt<|gU _ _ ?_
 refine axr fun K2 iy=>axr fun K3 nE=>ah<|xF 1 F rf rf rf abM rf aal rf fun _ F=>xL F (M.b 0 rfl) rf rf rf Ba rf rf fun _ F=>xM F rf rf rf fun _ F=>
  ke (on rfl) (qP (z:=.bool false) Ba (by kernel_rfl) (hMB.kept (M.below.block _ hMB.lt)) rfl (F.u rf) (F.u rf) (by exact hk)) rfl F rfl (show _=(.bool ((sc.ev k).getD false):Value) from hB.get k false) fun _ F=>
  axt<|
  nE _ _ ?_
 refine axu (F.e 9 rfl) (fun hc2=>?_) (fun hc2=>?_)
 ·have he:((sc.ev k).getD false)=true:=hc2;refine axr fun K4 ox=>ah<|xA (v:=.int .i64 0) F rf rf rf fun _ F=>xA (v:=.bool true) F rf rf rf fun _ F=>axt<|ox _ _ ?_
  refine wp_ret<|bJ _ _ _ _ _ F rfl rfl ?_;exact⟨by unfold kX;rw[if_pos he],M.below⟩
 ·have he:((sc.ev k).getD false)=false:=hc2;refine wp_skip<|iy _ _ ?_;refine axr fun K5 ow=>?_
  refine rd 11 [10,11,12,13,14,15,16,17,18,4,5] [bI (.pointer (some ⟨g1,0,none⟩)),bI ((.map (some mA))),bI (.int .i64 k),bI (.int .i64 ((sc.DV k).getD 0)),bI (.pointer (some ⟨g1,2,none⟩)),bI ((.map (some mC))),bI (.int .i64 k),bI (.bool ((sc.nv k).getD false)),bI (.bool (!((sc.nv k).getD false))),bI (.int .i64 ((sc.DV k).getD 0)),bI (.bool (!((sc.nv k).getD false)))] (by kernel_rfl) (by kernel_rfl) (by kernel_rfl) rfl (by decide) rfl rfl F ⟨ak _,ak _,ak _,ak _,ak _,ak _,ak _,ak _,ak _,ak _,ak _,trivial⟩ ⟨?_,?_,?_,?_,?_,?_,?_,?_,?_,?_,?_,trivial⟩ ?_
  ·exact fun a w Q' hf hi H G hK=>dv (on rfl) (kV rfl (G 2 _ rfl (F.g 2 rfl)).ev abM rfl aeT) rfl hf rfl hK rfl
  ·exact fun a w Q' hf hi H G hK=>dv (on rfl) (b_ rfl (iA (H 0 ⟨.data,by simp,rfl⟩ _ _ rfl rfl)).ev QD rfl (((M.keep hi).b 0 rfl).c1 0)) rfl hf rfl hK rfl
  ·exact fun a w Q' hf hi H G hK=>dv (on rfl) (cW rfl (G 1 _ rfl (F.g 1 rfl)).ev) rfl hf rfl hK rfl
  ·exact fun a w Q' hf hi H G hK=>dv (on rfl) (qP (z:=.int .i64 0) QD (by kernel_rfl) (hMA.kept ((M.keep hi).below.block _ hMA.lt)) rfl (iA (H 1 ⟨.data,by simp,rfl⟩ _ _ rfl rfl)).ev (iA (H 2 ⟨.data,by simp,rfl⟩ _ _ rfl rfl)).ev (by exact hk)) rfl hf rfl hK (Eq.symm (show _=(.int .i64 ((sc.DV k).getD 0):Value) from hA.get k 0))
  ·exact fun a w Q' hf hi H G hK=>dv (on rfl) (kV rfl (G 2 _ rfl (F.g 2 rfl)).ev abM rfl aal) rfl hf rfl hK rfl
  ·exact fun a w Q' hf hi H G hK=>dv (on rfl) (b_ rfl (iA (H 4 ⟨.data,by simp,rfl⟩ _ _ rfl rfl)).ev Ba rfl (((M.keep hi).b 0 rfl).c1 2)) rfl hf rfl hK rfl
  ·exact fun a w Q' hf hi H G hK=>dv (on rfl) (cW rfl (G 1 _ rfl (F.g 1 rfl)).ev) rfl hf rfl hK rfl
  ·exact fun a w Q' hf hi H G hK=>dv (on rfl) (qP (z:=.bool false) Ba (by kernel_rfl) (hMC.kept ((M.keep hi).below.block _ hMC.lt)) rfl (iA (H 5 ⟨.data,by simp,rfl⟩ _ _ rfl rfl)).ev (iA (H 6 ⟨.data,by simp,rfl⟩ _ _ rfl rfl)).ev (by exact hk)) rfl hf rfl hK (Eq.symm (show _=(.bool ((sc.nv k).getD false):Value) from hC.get k false))
  ·exact fun a w Q' hf hi H G hK=>dv (on rfl) (pN rfl (iA (H 7 ⟨.data,by simp,rfl⟩ _ _ rfl rfl)).ev) rfl hf rfl hK rfl
  ·exact fun a w Q' hf hi H G hK=>dv (on rfl) (oy rfl (iA (H 3 ⟨.data,by simp,rfl⟩ _ _ rfl rfl)).ev) rfl hf rfl hK rfl
  ·exact fun a w Q' hf hi H G hK=>dv (on rfl) (oy rfl (iA (H 8 ⟨.data,by simp,rfl⟩ _ _ rfl rfl)).ev) rfl hf rfl hK rfl
  (repeat clear F);intro _ _ Dq F D
  obtain⟨_,h,rfl⟩:=D 9 _ _ rfl rfl;have F:=F.add h;obtain⟨_,h,rfl⟩:=D 10 _ _ rfl rfl;have F:=F.add h;have M:=M.keep Dq;clear D Dq;refine ow _ _ ?_;refine wp_ret<|bJ _ _ _ _ _ F rfl rfl ?_;exact⟨by unfold kX;rw[if_neg (by rw[he];decide)],M.below⟩
def cR(sc:yx)(y:aj):Option aj:=if (kX sc y.cond).2=true then some { y with cond:=(kX sc y.cond).1 } else none
def cT(sc:yx)(y:bV):Option bV:=if (kX sc y.cond).2=true then some { y with cond:=(kX sc y.cond).1 } else none
def Xj(p:aF)(sc:yx):aF:={ p with conds:=sc.kids,rules:=p.rules.filterMap (cR sc),trans:=p.trans.filterMap (cT sc) }
def bw(p:aF):aF:=Xj p (dF p p.conds.length)
theorem aa2{α β:Type}{f:α→Option β}{l:List α}{m:Nat}{y:α}(hy:l[m]?=some y)(h:f y=none):(l.take (m+1)).filterMap f=(l.take m).filterMap f:=by
 rw[bn hy,List.filterMap_append,List.filterMap_cons,h];simp
theorem Wv{α β:Type}{f:α→Option β}{l:List α}{m:Nat}{y:α}{z:β}(hy:l[m]?=some y)(h:f y=some z):(l.take (m+1)).filterMap f=(l.take m).filterMap f++[z]:=by
 rw[bn hy,List.filterMap_append,List.filterMap_cons,h];simp
theorem Ww{α β:Type}{f:α→Option β}(l:List α)(m:Nat):((l.take m).filterMap f).length≤m:=axv (List.length_filterMap_le _ _) (List.length_take_le _ _)
theorem RowsIn.sub{B:Nat}{w:World}{T T':List Rw}(h:RowsIn B w T)(hs:T'.Sublist T):RowsIn B w T':=⟨fun r hr=>h.1 r (hs.subset hr),h.2.sublist hs⟩
theorem qU(w0:World)(c0 c1 c2 c3 c4 c5 c6 c7 c8 c9 aR aO aN aQ aM aL aP:Value)(p:aF)(hp:aK w0 c0 c1 c2 c3 c4 c5 c6 c7 c8 c9 aR aO aN aQ aM aL aP p)(hok:p.Ok)(jk:nh p)(hn:p.bools.length≤5)(hcl:p.conds.length≤900)(Zm:∀ y∈p.rules,-1000000≤y.cond∧y.cond≤1000000)(Zl:∀ y∈p.trans,-1000000≤y.cond∧y.cond≤1000000)(ade:∀ e∈p.conds,∃ d,d≤12∧iZ d (cQ p.bools e)∧(dJ (cQ p.bools e)).length≤5)(hrl:p.rules.length≤100000)(htl:p.trans.length≤100000):Calls Tryz.prog 34 #[.agg #[c0,c1,c2,c3,c4,c5,c6,c7,c8,c9,aR,aO,aN,aQ,aM,aL,aP]] w0 (fun(r:Ending) (w':World)=>∃ v,r=.returned v∧(DX w0 (bw p) v w'∧axq w0.heap.size w0 w')):=by
 obtain⟨_,_,_,_,_,_,_,_,_,_,_,_,_,_,_,_,_,_,_,_,_,_,_,_,_,_,_,_,_,_,_,_,_,_,rfl,rfl,rfl,rfl,rfl,rfl,rfl,rfl,rfl,rfl,rfl,rfl,rfl,rfl,rfl,rfl,rfl⟩:=hp.open;refine dD [] (fn:=Tryz.f34) Tryz.func34 rfl Tryz.ntmps34 rfl<|fun g1 w1 M1=>ei<|an lJ fun g2 w2 M2=>lb 1<|an rfl<|cg<|an (L3 _ _ _ _ _ _ _ _ _ _ _ _ _ _ _ _ _ _ p (hp.keep M2.below) hok jk hn hcl Zm Zl ade) fun v w3 hC=>?_
 obtain⟨mA,mB,mC,LA,LB,LC,ca,cc,es,T,hv,hM,hmA,hmB,hmC,ajO,Nx,hT⟩:=hC;refine⟨_,_,M2.Ws hM,?_⟩;subst hv;have M3:=M2.Ws hM;unfold bw;generalize dF p p.conds.length=sc at *;refine ei<|an TU fun g3 w4 M4=>lb 0<|an ⟨rfl,rfl⟩ fun w5 M5=>lb 5<|an rfl<|cg<|an (xZ _ _ _ _ _ _ _ _ _ _ _ _ _ _ _ _ _ _ p (hp.keep M5.below) jk) fun v w6 ⟨⟨x0,n0,x1,n1,x2,n2,x3,n3,x4,n4,x5,n5,x6,n6,x7,n7,x8,n8,x9,n9,x10,n10,pH,n11,pG,n12,IE,n13,IC,n14,IB,n15,Iz,n16,TC,hv,hRC,hPC⟩,Zo⟩=>⟨_,_,M5.eA Zo hRC,?_⟩
 subst hv;refine ei<|an lJ fun g4 w7 M7=>lb 0<|an ⟨rfl,rfl⟩ fun w8 M8=>lb 1<|an rfl<|lb 0<|an ⟨rfl,rfl⟩ fun w9 M9=>lb 0<|an ⟨rfl,rfl⟩ fun rz nI=>lb 0<|an ⟨rfl,rfl⟩ fun Dp M11=>?_
 clear M1 M2 M3 M4 M5 M7 M8 M9 nI M11 hM hRC;refine lb 6<|an rfl<|lp (ι:=Nat×Value×List aj) (fun(m,v,L)=>[(25,.int .i64 (m:Int))]) (fun(m,v,L)=>(g4,39,#[.slice x0 p.classes.length n0,.slice x1 p.types.length n1,.slice x2 p.attrs.length n2,.slice x3 p.roles.length n3,.slice x4 p.users.length n4,.slice x5 p.bools.length n5,.slice x6 p.bf.length n6,.slice x7 p.cats.length n7,.slice ca sc.kids.length cc,v,.slice none 0 0,.slice pH p.aT.length n11,.slice pG p.ranges.length n12,.slice IE p.cons.length n13,.slice IC p.bL.length n14,.slice IB p.files.length n15,.slice Iz p.asserts.length n16])::_) (fun(m,v,L)=>⟨v,56,13,L.length,L.flatMap aj.cells⟩::_) (fun(m,v,L) _=>m≤p.rules.length∧L=(p.rules.take m).filterMap (cR sc)) (fun(m,v,L)=>p.rules.length-m) (0,.slice none 0 0,[]) (an ⟨⟨rfl,trivial⟩,fun M=>⟨M.bM 56 13,axw _,rfl⟩⟩ ?_);rintro⟨m,v,L⟩ w M ⟨hm,hL⟩;refine an (fun h=>?_) fun h=>?_
 ·have hlt:m<p.rules.length:=by simp at h;omega
  obtain⟨y,hy⟩:∃ y,p.rules[m]?=some y:=⟨_,axp hlt⟩;obtain⟨b,o,e,hc⟩:=SliceAt.elt hp.rules (fun _=>rfl) (by decide) hy hlt;have hcb:=Zm y (axx hy);have hfl:=Ww (f:=cR sc) p.rules m;rw[← hL] at hfl;exact ia<|an ⟨e,rfl,hlt⟩<|lc<|an (dH M.below hc)<|ei<|an mJ fun g5 Ie EW=>lb 0<|an ⟨rfl,rfl⟩ fun LK zC=>lb 2<|an rfl<|lb 0<|an rfl<|cl<|an (zy _ mA mB mC LA LB LC _ sc (zC.map 5 rfl) (zC.map 4 rfl) (zC.map 3 rfl) hmA hmB hmC y.cond ⟨by omega,by omega⟩) fun XH Lg=>an (fun hb2=>lb 0<|an ⟨rfl,rfl⟩ fun Qz Ij=>lb 1<|an rfl<|lb 0<|an rfl<|fun g6 w16 Og=>Ii 0 id rfl (Og.slice 0 rfl (k:=13) (n:=1) rfl rfl (by simp[maxLen])) ⟨by unfold maxLen;omega,by omega⟩ fun va vc w17 Z6=>lb 2<|an ⟨rfl,rfl⟩ fun w18 Z5=>an (by omega)<|bk (m+1,.slice va (L.length+1) vc,L++[{ y with cond:=(kX sc y.cond).1 }]) ⟨rfl,trivial⟩ (fun M=>⟨(M.only (.cons _ (.cons _ (.refl _))) (.refl _)).cast rfl (by dsimp only;rw[axA,axL];rfl),by omega,by rw[Wv hy (show cR sc y=some { y with cond:=(kX sc y.cond).1 } by unfold cR;rw[if_pos hb2]),hL]⟩) (by dsimp only;omega)) fun hb2=>an (by omega)<|bk (m+1,v,L) ⟨rfl,trivial⟩ (fun M=>⟨M.only (.cons _ (.refl _)) (.refl _),by omega,by rw[aa2 hy (show cR sc y=none by unfold cR;rw[if_neg (by rw[hb2];decide)]),hL]⟩) (by dsimp only;omega)
 obtain rfl:m=p.rules.length:=by simp at h;omega
 rw[axK] at hL;subst hL;obtain⟨xa9,xc9,rfl⟩:=M.form 0 rfl;clear M h hm;refine lb 6<|an rfl<|lp (ι:=Nat×Value×List bV) (fun(m,v,L)=>[(49,.int .i64 (m:Int))]) (fun(m,v,L)=>(g4,39,#[.slice x0 p.classes.length n0,.slice x1 p.types.length n1,.slice x2 p.attrs.length n2,.slice x3 p.roles.length n3,.slice x4 p.users.length n4,.slice x5 p.bools.length n5,.slice x6 p.bf.length n6,.slice x7 p.cats.length n7,.slice ca sc.kids.length cc,.slice xa9 (p.rules.filterMap (cR sc)).length xc9,v,.slice pH p.aT.length n11,.slice pG p.ranges.length n12,.slice IE p.cons.length n13,.slice IC p.bL.length n14,.slice IB p.files.length n15,.slice Iz p.asserts.length n16])::_) (fun(m,v,L)=>⟨v,84,13,L.length,L.flatMap bV.cells⟩::_) (fun(m,v,L) _=>m≤p.trans.length∧L=(p.trans.take m).filterMap (cT sc)) (fun(m,v,L)=>p.trans.length-m) (0,.slice none 0 0,[]) (an ⟨⟨rfl,trivial⟩,fun M=>⟨M.bM 84 13,axw _,rfl⟩⟩ ?_);rintro⟨m,v,L⟩ w M ⟨hm,hL⟩;refine an (fun h=>?_) fun h=>?_
 ·have hlt:m<p.trans.length:=by simp at h;omega
  obtain⟨y,hy⟩:∃ y,p.trans[m]?=some y:=⟨_,axp hlt⟩;obtain⟨b,o,e,hc⟩:=SliceAt.elt hp.trans (fun _=>rfl) (by decide) hy hlt;have hcb:=Zl y (axx hy);have hfl:=Ww (f:=cT sc) p.trans m;rw[← hL] at hfl;exact ia<|an ⟨e,rfl,hlt⟩<|lc<|an (dH M.below hc)<|ei<|an Qq fun g5 Ie EW=>lb 0<|an ⟨rfl,rfl⟩ fun LK zC=>lb 2<|an rfl<|lb 0<|an rfl<|cl<|an (zy _ mA mB mC LA LB LC _ sc (zC.map 5 rfl) (zC.map 4 rfl) (zC.map 3 rfl) hmA hmB hmC y.cond ⟨by omega,by omega⟩) fun XH Lg=>an (fun hb2=>lb 0<|an ⟨rfl,rfl⟩ fun Qz Ij=>lb 1<|an rfl<|lb 0<|an rfl<|fun g6 w16 Og=>Ii 0 id rfl (Og.slice 0 rfl (k:=13) (n:=1) rfl rfl (by simp[maxLen])) ⟨by unfold maxLen;omega,by omega⟩ fun va vc w17 Z6=>lb 2<|an ⟨rfl,rfl⟩ fun w18 Z5=>an (by omega)<|bk (m+1,.slice va (L.length+1) vc,L++[{ y with cond:=(kX sc y.cond).1 }]) ⟨rfl,trivial⟩ (fun M=>⟨(M.only (.cons _ (.cons _ (.refl _))) (.refl _)).cast rfl (by dsimp only;rw[axA,axL];rfl),by omega,by rw[Wv hy (show cT sc y=some { y with cond:=(kX sc y.cond).1 } by unfold cT;rw[if_pos hb2]),hL]⟩) (by dsimp only;omega)) fun hb2=>an (by omega)<|bk (m+1,v,L) ⟨rfl,trivial⟩ (fun M=>⟨M.only (.cons _ (.refl _)) (.refl _),by omega,by rw[aa2 hy (show cT sc y=none by unfold cT;rw[if_neg (by rw[hb2];decide)]),hL]⟩) (by dsimp only;omega)
 obtain rfl:m=p.trans.length:=by simp at h;omega
 rw[axK] at hL;subst hL;obtain⟨anv,anu,rfl⟩:=M.form 0 rfl;clear M h hm;refine lb 0<|an rfl<|lb 5<|an ⟨rfl,rfl⟩ fun w M=>ei (x:=5)<|an rfl fun M=>?_
 exact⟨_,rfl,⟨_,_,_,_,_,_,_,_,_,_,_,_,_,_,_,_,_,_,_,_,_,_,_,_,_,_,_,_,_,_,_,_,_,_,_,rfl,M.dW,fun B u qG=>{ hPC B u (qG.sub (.cons _ (.cons _ (List.sublist_append_right _ _)))) with conds:=qu (uH (R:=dB _) (qG.1 _ (axx (i:=2) rfl)) rfl ajO Nx (fun i x y h1 h2=>dB.mono (fun r hr=>show r∈[_,_]++(([]++(_::T))++TC) from axG.2 (.inr (axG.2 (.inl (axF _ hr))))) (hT i x y h1 h2)) fun _ _ h=>dB.one h) fun _ _ h=>dB.at_ qG h,rules:=SliceAt.bC (qG.1 _ (axx (i:=1) rfl)) (dX fun _=>rfl),trans:=SliceAt.bC (qG.1 _ (axx (i:=0) rfl)) (dX fun _=>rfl) }⟩,M.below⟩
structure Om (p:aF):Prop where
 ok:p.Ok
 sm:nh p
 bools:p.bools.length≤5
 conds:p.conds.length≤900
 zo:∀ y∈p.rules,-1000000≤y.cond∧y.cond≤1000000
 CV:∀ y∈p.trans,-1000000≤y.cond∧y.cond≤1000000
 be:∀ e∈p.conds,∃ d,d≤12∧iZ d (cQ p.bools e)∧(dJ (cQ p.bools e)).length≤5
 rules:p.rules.length≤100000
 trans:p.trans.length≤100000
structure RdH (p:aF):Prop where
 ok:p.Ok
 sm:nh p
 bools:p.bools.length≤5
 conds:p.conds.length≤1000
 rules:p.rules.length≤900
structure RuH (p:aF):Prop where
 ok:p.Ok
 sm:nh p
 rules:p.rules.length≤1000
theorem RowsIn.right{B:Nat}{w:World}{A C:List Rw}(h:RowsIn B w (A++C)):RowsIn B w C:=⟨fun r hr=>h.1 r (axG.2 (.inr hr)),(List.pairwise_append.1 h.2).2.1⟩
theorem RowsIn.left{B:Nat}{w:World}{A C:List Rw}(h:RowsIn B w (A++C)):RowsIn B w A:=⟨fun r hr=>h.1 r (axG.2 (.inl hr)),(List.pairwise_append.1 h.2).1⟩
def eM(p:aF):List Int:=(j8 p).map fun(k:Nat)=>(k:Int)
theorem wT{w:World}{B:Nat}{v:Value}{p:aF}(h:w.ownsRow B 3 1 v (j8 p).length (ints (j8 p))):SliceAt w v 1 (eM p).length ((eM p).flatMap anyI):=by
 have h2:=SliceAt.bC h (uW _);have e1:(eM p).length=(j8 p).length:=axH ..
 have e2:(eM p).flatMap anyI=ints (j8 p):=by
  unfold eM
  induction j8 p with
  | nil=>rfl
  | cons a l ih=>rw[List.map_cons,List.flatMap_cons,ih];rfl
 rw[e1,e2];exact h2
theorem DX.low{wb w:World}{p:aF}{v:Value}{u:World}(h:DX w p v u)(hi:wb.heap.size≤w.heap.size):DX wb p v u:=by
 obtain⟨x0,n0,x1,n1,x2,n2,x3,n3,x4,n4,x5,n5,x6,n6,x7,n7,x8,n8,x9,n9,x10,n10,pH,n11,pG,n12,IE,n13,IC,n14,IB,n15,Iz,n16,T,e,h1,h2⟩:=h;exact⟨x0,n0,x1,n1,x2,n2,x3,n3,x4,n4,x5,n5,x6,n6,x7,n7,x8,n8,x9,n9,x10,n10,pH,n11,pG,n12,IE,n13,IC,n14,IB,n15,Iz,n16,T,e,h1.low hi,h2⟩
def tB(p:aF):aF:=bw (dQ (mK (bw p) (eM (bw p))))
theorem uP(w0:World)(c0 c1 c2 c3 c4 c5 c6 c7 c8 c9 aR aO aN aQ aM aL aP:Value)(p:aF)(hp:aK w0 c0 c1 c2 c3 c4 c5 c6 c7 c8 c9 aR aO aN aQ aM aL aP p)(h1:Om p)(h2:RdH (bw p))(h3:RuH (mK (bw p) (eM (bw p))))(h4:Om (dQ (mK (bw p) (eM (bw p))))):Calls Tryz.prog 22 #[.agg #[c0,c1,c2,c3,c4,c5,c6,c7,c8,c9,aR,aO,aN,aQ,aM,aL,aP]] w0 (fun(r:Ending) (w':World)=>∃ v,r=.returned v∧(DX w0 (tB p) v w'∧axq w0.heap.size w0 w')):=by
 obtain⟨_,_,_,_,_,_,_,_,_,_,_,_,_,_,_,_,_,_,_,_,_,_,_,_,_,_,_,_,_,_,_,_,_,_,rfl,rfl,rfl,rfl,rfl,rfl,rfl,rfl,rfl,rfl,rfl,rfl,rfl,rfl,rfl,rfl,rfl⟩:=hp.open;unfold tB;refine dD [] (fn:=Tryz.f22) Tryz.func22 rfl Tryz.ntmps22 rfl<|fun g1 w1 M1=>ei<|an lJ fun g2 w2 M2=>lb 1<|an rfl<|cg<|an (qU _ _ _ _ _ _ _ _ _ _ _ _ _ _ _ _ _ _ p (hp.keep M2.below) h1.ok h1.sm h1.bools h1.conds h1.zo h1.CV h1.be h1.rules h1.trans) fun v w3 ⟨⟨x0a,n0a,x1a,n1a,x2a,n2a,x3a,n3a,x4a,n4a,x5a,n5a,x6a,n6a,x7a,n7a,x8a,n8a,x9a,n9a,anY,apb,anU,ao8,anQ,ao4,anM,ao0,anI,aoW,anE,aoS,anA,aoO,Ta,hv,hTa,hPa⟩,sG⟩=>⟨_,_,M2.eA sG hTa,?_⟩
 subst hv;generalize bw p=q at *;refine ei<|an lJ fun g3 w4 M4=>lb 0<|an ⟨rfl,rfl⟩ fun w5 M5=>sp [0,1] (.step 2 (.step 3 (.last 4))) [2] (by kernel_rfl)<|lb 0<|an rfl<|lb 0<|an rfl<|fun w6 Zo M6=>Ih M6 (jR _ _ _ _ _ _ _ _ _ _ _ _ _ _ _ _ _ _ q (hPa _ _ M6.dW) h2.ok h2.bools h2.conds h2.rules) fun la lc w7 M7=>an rfl<|cg<|an (pY _ _ _ _ _ _ _ _ _ _ _ _ _ _ _ _ _ _ q (hPa _ _ ⟨fun r hr=>M7.dW.1 r (axF _ hr),(List.pairwise_cons.1 M7.dW.2).2⟩) h2.ok h2.sm _ (eM q) (wT (kT (M7.r 0 rfl) (axw _)))) fun v w8 ⟨⟨x0b,n0b,x1b,n1b,x2b,n2b,x3b,n3b,x4b,n4b,x5b,n5b,x6b,n6b,x7b,n7b,x8b,n8b,x9b,n9b,anX,apa,anT,ao7,anP,ao3,anL,aoZ,anH,aoV,anD,aoR,anz,aoN,Tb,hv,Dr,hPb⟩,R9⟩=>⟨_,_,M7.eA R9 Dr,?_⟩
 subst hv;generalize mK q (eM q)=q2 at *;refine an rfl<|lb 0<|an ⟨rfl,rfl⟩ fun w9 M9=>lb 0<|an rfl<|cg<|an (tA _ _ _ _ _ _ _ _ _ _ _ _ _ _ _ _ _ _ q2 (hPb _ _ M9.dW.right) h3.ok h3.sm h3.rules) fun v rz ⟨⟨x0c,n0c,x1c,n1c,x2c,n2c,x3c,n3c,x4c,n4c,x5c,n5c,x6c,n6c,x7c,n7c,x8c,n8c,x9c,n9c,anW,ao_,anS,ao6,anO,ao2,anK,aoY,anG,aoU,anC,aoQ,anx,aoM,Tc,hv,hTc,hPc⟩,xJ⟩=>⟨_,_,M9.eA xJ hTc,?_⟩
 subst hv;have nI:=M9.eA xJ hTc;generalize dQ q2=q3 at *;refine cg<|an (qU _ _ _ _ _ _ _ _ _ _ _ _ _ _ _ _ _ _ q3 (hPc _ _ nI.dW.right) h4.ok h4.sm h4.bools h4.conds h4.zo h4.CV h4.be h4.rules h4.trans) fun v Dp ⟨⟨x0d,n0d,x1d,n1d,x2d,n2d,x3d,n3d,x4d,n4d,x5d,n5d,x6d,n6d,x7d,n7d,x8d,n8d,x9d,n9d,anV,ao9,anR,ao5,anN,ao1,anJ,aoX,anF,aoT,anB,aoP,anw,aoL,Td,hv,hTd,hPd⟩,Nz⟩=>⟨_,_,nI.eA Nz hTd,?_⟩
 subst hv;exact lb 1<|an ⟨rfl,rfl⟩ fun w M=>ei (x:=1)<|an rfl fun M=>⟨_,rfl,⟨_,_,_,_,_,_,_,_,_,_,_,_,_,_,_,_,_,_,_,_,_,_,_,_,_,_,_,_,_,_,_,_,_,_,_,rfl,M.dW,fun B u h=>hPd B u h.right⟩,M.below⟩
def L7(l:List Int):Int:=l.foldl (fun a x=>bits .or .u64 a (IntKind.u64.wrap (1*2^(x:Int).toNat))) 0
theorem QW{l:List Int}{m:Nat}{y:Int}(hy:l[m]?=some y):L7 (l.take (m+1))=bits .or .u64 (L7 (l.take m)) (IntKind.u64.wrap (1*2^(y:Int).toNat)):=by
 unfold L7;rw[bn hy,List.foldl_append];rfl
theorem aat{x:Int}(h0:0≤x)(h1:x<64):IntKind.i64.wrap (Int.tdiv x 64)=0:=by rw[Int.tdiv_eq_zero_of_lt h0 h1];rfl
theorem ae0{x:Int}(h0:0≤x)(h1:x<64):Int.tmod x 64=x:=by
 exact Int.tmod_eq_of_lt h0 h1
theorem agH{P:Program}{o:Oper}{a:Act}{w:World}{ty yt:TypeId}{x y:Operand}{k:IntKind}{m n:Int}(ho:o.op=.binOp .rem ty x y yt)(hx:a.eval x=.int k m)(hy:a.eval y=.int k n)(h0:n≠0):(execOp a.eval o).run P w=.ok (.value (.int k (m.tmod n))) w:=by
 unfold execOp;simp[ho,hx,hy,eqGuard,binOp,Op.intDiv,h0]
theorem Ym(w0:World)(v:Value)(l:List Int)(h:SliceAt w0 v 1 l.length (l.flatMap anyI))(hl:∀ y∈l,0≤y∧y<64):Calls Tryz.prog 127 #[v] w0 (fun(r:Ending) (w':World)=>r=.returned (.agg #[.int .u64 (L7 l),.int .u64 0,.int .u64 0,.int .u64 0])∧axq w0.heap.size w0 w'):=by
 obtain⟨la,lc,rfl,hk,hm,hcell⟩:=SliceAt.form h (by decide);have bJ:=hrC Tryz.prog Tryz.f127 (fun(r:Ending) (w':World)=>r=.returned (.agg #[.int .u64 (L7 l),.int .u64 0,.int .u64 0,.int .u64 0])∧axq w0.heap.size w0 w') 32 2 54 rfl u54 rfl abQ;refine en Tryz.func127 rfl Tryz.ntmps127 rfl (vs:=[.slice la l.length lc]) rfl fun _ F=>?_
 have M:=Mm.start w0;refine axr fun K1 gU=>ah<|JU (on rfl) rfl Im rfl F rfl M fun go _ _ F M=>axt<|gU _ _ ?_
 refine axr fun K2 iy=>ah<|JU (on rfl) rfl Im rfl F rfl M fun gx _ _ F M=>axt<|iy _ _ ?_
 refine axr fun K3 nE=>axr fun K4 ox=>ah<|xA (v:=.int .i64 0) F rf rf rf fun _ F=>axt<|ox _ _ ?_
 refine wp_block<|?_;refine eH (ι:=Nat×Int) (fun|(m,x),a,w=>Fs a 32 [(0,.slice la l.length lc),(2,.pointer (some ⟨go,0,none⟩)),(3,.pointer (some ⟨gx,0,none⟩)),(4,.int .i64 (m:Int))]∧Mm w0 w [(gx,54,#[.int .u64 x,.int .u64 0,.int .u64 0,.int .u64 0]),(go,54,#[.int .u64 0,.int .u64 0,.int .u64 0,.int .u64 0])] []∧m≤l.length∧x=L7 (l.take m)) (fun|(m,x)=>l.length-m) (0,0) ⟨F.sub ⟨rfl,rfl,rfl,rfl,trivial⟩,M,axw _,rfl⟩ ?_
 (repeat clear F);(repeat clear M)
 rintro⟨m,x⟩ _ _ ⟨F,M,hm,hx⟩;refine axr fun K5 ow=>axr fun K6 pT=>ah<|xM F rf rf rf fun _ F=>xM F rf rf rf fun _ F=>kz F rf (fK rfl (F.u rf) u64) fun _ F=>kz F rf (jo rfl (F.u rf) (F.u rf)) fun _ F=>axt<|pT _ _ ?_
 refine axu (F.e 8 rfl) (fun hc1=>?_) (fun hc1=>?_)
 ·have hd2:=of_decide_eq_true hc1;refine wp_skip<|ow _ _ ?_;refine axr fun K7 rS=>wp_block<|?_
  have hlt:m<l.length:=by omega
  obtain⟨y,hy⟩:∃ y,l[m]?=some y:=⟨_,axp hlt⟩;obtain⟨b9,o9,rfl,hc9⟩:=hcell m hlt;obtain⟨hy0,hy1⟩:=hl y (axx hy)
  have hr9:∀ j uu,[Value.int .i64 y][j]?=some uu→w0.cell? ⟨b9,o9+m*1+j,none⟩=some uu:=fun j u hu=>hc9 j u (by
   rw[cE (f:=anyI) (fun _=>rfl) hy j (axo.1 hu).1];exact hu)
  refine rd 20 [11,12,13,14,15,16,17,18,19,20,21,22,23,24,25,26,27,28,29,30] [bI (.slice (some ⟨b9,o9,none⟩) l.length lc),bI (.int .i64 (m:Int)),bI (.pointer (some ⟨b9,o9+m*1,none⟩)),bI (.int .i64 y),bI (.int .i64 0),bI (.slice (some ⟨b9,o9,none⟩) l.length lc),bI (.int .i64 (m:Int)),bI (.pointer (some ⟨b9,o9+m*1,none⟩)),bI (.int .i64 y),bI (.int .i64 0),bI (.pointer (some ⟨gx,0,none⟩)),bI (.int .u64 x),bI (.slice (some ⟨b9,o9,none⟩) l.length lc),bI (.int .i64 (m:Int)),bI (.pointer (some ⟨b9,o9+m*1,none⟩)),bI (.int .i64 y),bI (.int .i64 y),bI (.int .u64 (IntKind.u64.wrap (1*2^(y:Int).toNat))),bI (.int .u64 (bits .or .u64 x (IntKind.u64.wrap (1*2^(y:Int).toNat)))),bI (.pointer (some ⟨gx,0,none⟩))] (by kernel_rfl) (by kernel_rfl) (by kernel_rfl) rfl (by decide) rfl rfl F ⟨ak _,ak _,ak _,ak _,ak _,ak _,ak _,ak _,ak _,ak _,ak _,ak _,ak _,ak _,ak _,ak _,ak _,ak _,ak _,ak _,trivial⟩ ⟨?_,?_,?_,?_,?_,?_,?_,?_,?_,?_,?_,?_,?_,?_,?_,?_,?_,?_,?_,?_,trivial⟩ ?_
  ·exact fun a w Q' hf hi H G hK=>dv (on rfl) (cW rfl (G 0 _ rfl (F.g 0 rfl)).ev) rfl hf rfl hK rfl
  ·exact fun a w Q' hf hi H G hK=>dv (on rfl) (cW rfl (G 4 _ rfl (F.g 4 rfl)).ev) rfl hf rfl hK rfl
  ·exact fun a w Q' hf hi H G hK=>dv (on rfl) (bD (i:=m) rfl (iA (H 0 ⟨.data,by simp,rfl⟩ _ _ rfl rfl)).ev (iA (H 1 ⟨.data,by simp,rfl⟩ _ _ rfl rfl)).ev (by omega) u64 UC) rfl hf rfl hK rfl
  ·exact fun a w Q' hf hi H G hK=>dv (on rfl) (b_ rfl (iA (H 2 ⟨.data,by simp,rfl⟩ _ _ rfl rfl)).ev u3 rfl ((dH (M.keep hi).below hr9) 0 _ rfl)) rfl hf rfl hK rfl
  ·exact fun a w Q' hf hi H G hK=>dv (on rfl) (PW rfl (iA (H 3 ⟨.data,by simp,rfl⟩ _ _ rfl rfl)).ev rfl (by decide)) rfl hf rfl hK (Eq.symm (congrArg (Value.int .i64) (aat hy0 hy1)))
  ·exact fun a w Q' hf hi H G hK=>dv (on rfl) (cW rfl (G 0 _ rfl (F.g 0 rfl)).ev) rfl hf rfl hK rfl
  ·exact fun a w Q' hf hi H G hK=>dv (on rfl) (cW rfl (G 4 _ rfl (F.g 4 rfl)).ev) rfl hf rfl hK rfl
  ·exact fun a w Q' hf hi H G hK=>dv (on rfl) (bD (i:=m) rfl (iA (H 5 ⟨.data,by simp,rfl⟩ _ _ rfl rfl)).ev (iA (H 6 ⟨.data,by simp,rfl⟩ _ _ rfl rfl)).ev (by omega) u64 UC) rfl hf rfl hK rfl
  ·exact fun a w Q' hf hi H G hK=>dv (on rfl) (b_ rfl (iA (H 7 ⟨.data,by simp,rfl⟩ _ _ rfl rfl)).ev u3 rfl ((dH (M.keep hi).below hr9) 0 _ rfl)) rfl hf rfl hK rfl
  ·exact fun a w Q' hf hi H G hK=>dv (on rfl) (PW rfl (iA (H 8 ⟨.data,by simp,rfl⟩ _ _ rfl rfl)).ev rfl (by decide)) rfl hf rfl hK (Eq.symm (congrArg (Value.int .i64) (aat hy0 hy1)))
  ·exact fun a w Q' hf hi H G hK=>dv (on rfl) (tV (i:=0) rfl (G 3 _ rfl (F.g 3 rfl)).ev (iA (H 9 ⟨.data,by simp,rfl⟩ _ _ rfl rfl)).ev (by decide) u54 kC) rfl hf rfl hK rfl
  ·exact fun a w Q' hf hi H G hK=>dv (on rfl) (b_ rfl (iA (H 10 ⟨.data,by simp,rfl⟩ _ _ rfl rfl)).ev OV rfl (((M.keep hi).b 0 rfl).c1 0)) rfl hf rfl hK rfl
  ·exact fun a w Q' hf hi H G hK=>dv (on rfl) (cW rfl (G 0 _ rfl (F.g 0 rfl)).ev) rfl hf rfl hK rfl
  ·exact fun a w Q' hf hi H G hK=>dv (on rfl) (cW rfl (G 4 _ rfl (F.g 4 rfl)).ev) rfl hf rfl hK rfl
  ·exact fun a w Q' hf hi H G hK=>dv (on rfl) (bD (i:=m) rfl (iA (H 12 ⟨.data,by simp,rfl⟩ _ _ rfl rfl)).ev (iA (H 13 ⟨.data,by simp,rfl⟩ _ _ rfl rfl)).ev (by omega) u64 UC) rfl hf rfl hK rfl
  ·exact fun a w Q' hf hi H G hK=>dv (on rfl) (b_ rfl (iA (H 14 ⟨.data,by simp,rfl⟩ _ _ rfl rfl)).ev u3 rfl ((dH (M.keep hi).below hr9) 0 _ rfl)) rfl hf rfl hK rfl
  ·exact fun a w Q' hf hi H G hK=>dv (on rfl) (agH rfl (iA (H 15 ⟨.data,by simp,rfl⟩ _ _ rfl rfl)).ev rfl (by decide)) rfl hf rfl hK (Eq.symm (congrArg (Value.int .i64) (ae0 hy0 hy1)))
  ·exact fun a w Q' hf hi H G hK=>dv (on rfl) (mX rfl rfl (iA (H 16 ⟨.data,by simp,rfl⟩ _ _ rfl rfl)).ev (by omega) (show _≤((64:Nat):Int) by omega)) rfl hf rfl hK rfl
  ·exact fun a w Q' hf hi H G hK=>dv (on rfl) (W9 rfl (iA (H 11 ⟨.data,by simp,rfl⟩ _ _ rfl rfl)).ev (iA (H 17 ⟨.data,by simp,rfl⟩ _ _ rfl rfl)).ev) rfl hf rfl hK rfl
  ·exact fun a w Q' hf hi H G hK=>dv (on rfl) (tV (i:=0) rfl (G 3 _ rfl (F.g 3 rfl)).ev (iA (H 4 ⟨.data,by simp,rfl⟩ _ _ rfl rfl)).ev (by decide) u54 kC) rfl hf rfl hK rfl
  (repeat clear F);intro _ _ Dq F D
  obtain⟨_,h,rfl⟩:=D 18 _ _ rfl rfl;have F:=F.add h;obtain⟨_,h,rfl⟩:=D 19 _ _ rfl rfl;have F:=F.add h;have M:=M.keep Dq;clear D Dq;intro Qt Wg;refine ks (on rfl) rfl (F.u rf) (F.u rf) F M 0 (cs':=#[.int .u64 (bits .or .u64 x (IntKind.u64.wrap (1*2^(y:Int).toNat))),.int .u64 0,.int .u64 0,.int .u64 0]) rfl rfl rfl kC rfl rfl rfl rfl fun _ M=>axt (Wg _ _ ?_)
  refine rS _ _ ?_
  refine ah<|xM F rf rf rf fun _ F=>
   ke (on rfl) (eX rfl (F.u rf) rfl) rfl F rfl (congrArg (Value.int .i64) (wrap_i64 (by omega))) fun _ F=>
   xA F rf rf rf fun _ F=>
   axt<|?_
  exact⟨(m+1,bits .or .u64 x (IntKind.u64.wrap (1*2^(y:Int).toNat))),⟨F.sub ⟨rfl,rfl,rfl,rfl,trivial⟩,M,by omega,(by rw[QW hy,← hx])⟩,by show l.length-(m+1)<l.length-m;omega⟩
 ·have hd3:=of_decide_eq_false hc1;refine wp_exit<|nE _ _ ?_;refine axr fun K8 xK=>ah<|xW F (M.b 0 rfl) rf rf rf u54 rf abQ rf fun _ F=>Ld (on rfl) rfl (F.u rf) (F.u rf) F M 1 rfl abQ rfl rfl rfl fun _ M=>axt<|xK _ _ ?_
  refine wp_ret<|bJ _ _ _ _ _ _ F rfl (M.b 1 rfl) rfl ?_;obtain rfl:m=l.length:=by omega
  rw[axK] at hx;exact⟨by rw[hx],M.below⟩
def jj:iI:=⟨⟨#[111,98,106,101,99,116,95,114]⟩,ay.zero,ay.zero⟩
theorem NS(r:iI)(w:World):(Op.equalIn 10000 188 (.agg #[.string r.name,.int .u64 r.types.a,.int .u64 r.types.b,.int .u64 r.types.c,.int .u64 r.types.d,.int .u64 r.next.a,.int .u64 r.next.b,.int .u64 r.next.c,.int .u64 r.next.d]) (.agg #[.string ⟨#[111,98,106,101,99,116,95,114]⟩,.int .u64 0,.int .u64 0,.int .u64 0,.int .u64 0,.int .u64 0,.int .u64 0,.int .u64 0,.int .u64 0])).run Tryz.prog w=.ok (decide (r=jj)) w:=by
 rw[show(10000:Nat)=9997+3 from rfl,WJ];congr 1;rw[Bool.eq_iff_iff];obtain⟨n,⟨a,b,c,d⟩,⟨a',b',c',d'⟩⟩:=r;simp only[decide_eq_true_eq,jj,ay.zero,ay.mk.injEq,iI.mk.injEq,and_assoc];refine and_congr_right fun _=>?_
 omega
def O7(nT nR:Nat)(before:List ByteArray)(y:iI):Int:=
 if bU [y.name] before=0 then
  (if y.types.within (ay.all nT)=false then 3 else if wR nR y.next=false then 3 else 0)
 else bU [y.name] before
def Bw(p:aF)(i:Nat):Int:=match p.roles[i]? with
 | some y=>O7 p.types.length p.roles.length ((p.roles.take i).map (·.name)) y
 | none=>0
def qv(p:aF):Int:=if 32<p.roles.length then 4 else if p.roles[0]?≠some jj then 2 else aJ (Bw p) (p.roles.length-1) 1
theorem R7{p:aF}(h:p.roles.length=0):p.roles[0]?≠some jj:=by
 rw[List.getElem?_eq_none (by omega)];simp
theorem Zj{p:aF}{r:iI}(h:p.roles[0]?=some r)(hn:¬ r=jj):p.roles[0]?≠some jj:=by
 rw[h];simpa using hn
theorem head_eq{p:aF}{r:iI}(h:p.roles[0]?=some r)(hn:r=jj):¬ p.roles[0]?≠some jj:=by
 rw[h];simpa using hn
theorem Mj{p:aF}{r:iI}(h:p.roles[0]?=some r)(hn:r=jj):[(⟨#[111,98,106,101,99,116,95,114]⟩:ByteArray)]=(p.roles.take 1).map (·.name):=by
 cases hp:p.roles with
 | nil=>rw[hp] at h;simp at h
 | cons x l=>rw[hp] at h;simp at h;subst h hn;rfl
theorem Q_(w0:World)(c0 c1 c2 c3 c4 c5 c6 c7 c8 c9 aR aO aN aQ aM aL aP:Value)(p:aF)(hp:aK w0 c0 c1 c2 c3 c4 c5 c6 c7 c8 c9 aR aO aN aQ aM aL aP p)(hok:p.Ok):Calls Tryz.prog 43 #[.agg #[c0,c1,c2,c3,c4,c5,c6,c7,c8,c9,aR,aO,aN,aQ,aM,aL,aP]] w0 (RI w0 (qv p)):=by
 obtain⟨_,_,_,a3,_,_,_,_,_,_,_,_,_,_,_,_,_,_,_,_,k3,_,_,_,_,_,_,_,_,_,_,_,_,_,rfl,rfl,rfl,rfl,rfl,rfl,rfl,rfl,rfl,rfl,rfl,rfl,rfl,rfl,rfl,rfl,rfl⟩:=hp.open
 obtain⟨r,b,o,H⟩:∃ (r:iI) (b o:Nat),p.roles.length≠0→p.roles[0]?=some r∧a3=some ⟨b,o,none⟩∧∀ j u,r.cells[j]?=some u→w0.cell? ⟨b,o+0*9+j,none⟩=some u:=by
  by_cases h0:p.roles.length=0
  ·exact⟨jj,0,0,fun h=>absurd h0 h⟩
  ·have hy:=axp (Nat.pos_of_ne_zero h0);obtain⟨b,o,e,hc⟩:=SliceAt.elt hp.roles (fun _=>rfl) (by decide) hy (Nat.pos_of_ne_zero h0);exact⟨_,b,o,fun _=>⟨hy,e,hc⟩⟩
 refine dD [] (fn:=Tryz.f43) Tryz.func43 rfl Tryz.ntmps43 rfl<|fun g1 w1 M1=>lb 0<|an rfl<|an (fun h M=>⟨ri (by unfold qv;rw[if_pos (by simp at h;omega)]),M.below⟩) fun h=>?_
 have hr:¬ 32<p.roles.length:=by simp at h;omega
 refine lb 0<|an rfl<|cl<|an (Bz _ _ hok.wJ) fun w2 M2=>ei<|an Im fun g2 w3 M3=>lb 0<|an ⟨rfl,rfl⟩ fun w4 M4=>lb 1<|an rfl<|lb 1<|an (fun _=>rfl)<|ia (b:=b) (off:=o) (i:=0)<|an (fun h=>⟨(H fun e=>by simp[e] at h).2.1,rfl,Nat.pos_of_ne_zero fun e=>by simp[e] at h⟩)<|lc (x:=[.string r.name,.int .u64 r.types.a,.int .u64 r.types.b,.int .u64 r.types.c,.int .u64 r.types.d,.int .u64 r.next.a,.int .u64 r.next.b,.int .u64 r.next.c,.int .u64 r.next.d])<|an (fun h=>dH M4.below (H fun e=>by simp[e] at h).2.2)<|ei (x:=.agg #[.string ⟨#[111,98,106,101,99,116,95,114]⟩,.int .u64 0,.int .u64 0,.int .u64 0,.int .u64 0,.int .u64 0,.int .u64 0,.int .u64 0,.int .u64 0])<|an (fun _=>bd (by kernel_rfl))<|ei<|an (fun h=>⟨WZ,NS r⟩)<|an (fun h2 M=>⟨ri ?_,M.below⟩) fun h2=>?_
 ·unfold qv;rw[if_neg hr,if_pos];by_cases h0:p.roles.length=0
  ·exact R7 h0
  ·exact Zj (H h0).1 (by simpa[h0] using h2)
 have h0:p.roles.length≠0:=fun e=>by simp[e] at h2
 obtain⟨hr0,-,-⟩:=H h0;have hro:r=jj:=by simpa[h0] using h2
 rw[show qv p=aJ (Bw p) (p.roles.length-1) 1 by unfold qv;rw[if_neg hr,if_neg (head_eq hr0 hro)]];refine fun g3 w5 M5=>lp (ι:=Nat×Value) (fun(m,u)=>[(4,u),(5,.int .i64 (m:Int))]) (fun _=>[_,_]) (fun(m,u)=>[⟨u,9,1,m,((p.roles.take m).map (·.name)).flatMap aX⟩]) (fun(m,u) _=>(1≤m∧m≤p.roles.length)∧aJ (Bw p) (p.roles.length-1) 1=aJ (Bw p) (p.roles.length-m) m) (fun(m,u)=>p.roles.length-m) (1,.slice (some ⟨g3,0,none⟩) 1 1) (an ⟨⟨rfl,rfl,trivial⟩,fun M=>⟨(M.Hr 1 1 (by simp[maxLen]) rfl).cast rfl (by dsimp only;rw[← Mj hr0 hro];rfl),⟨Nat.le_refl _,Nat.pos_of_ne_zero h0⟩,rfl⟩⟩ ?_)
 rintro⟨m,u⟩ w M ⟨⟨h1m,hm⟩,hinv⟩;refine lb 1<|an rfl<|an (fun h2=>?_) fun h2 M=>⟨ri (by rw[hinv,show m=p.roles.length by simp at h2;omega,cI]),M.below⟩
 have hlt:m<p.roles.length:=by simp at h2;omega
 obtain⟨y,hy⟩:∃ y,p.roles[m]?=some y:=⟨_,axp hlt⟩;have qB:=hok.roles y (axx hy);obtain⟨b,o,e,hc⟩:=SliceAt.elt hp.roles (fun _=>rfl) (by decide) hy hlt;have hcf:Bw p m=O7 p.types.length p.roles.length ((p.roles.take m).map (·.name)) y:=by unfold Bw;rw[hy]
 have out:∀ v:Int,O7 p.types.length p.roles.length ((p.roles.take m).map (·.name)) y=v→v≠0→aJ (Bw p) (p.roles.length-1) 1=v:=fun v h1 h2=>by rw[hinv,cL hlt (by rw[hcf,h1];exact h2),hcf,h1]
 unfold O7 at hcf out;refine lb 1<|an rfl<|ia<|an ⟨e,rfl,hlt⟩<|lc<|an (dH M.below hc)<|ei<|an aeC fun g2 w2 M2=>lb 0<|an ⟨rfl,rfl⟩ fun w3 M3=>lb 0<|an rfl<|fun g3 w4 M4=>cl<|an (fE _ _ _ [y.name] ((p.roles.take m).map (·.name)) (M4.slice 0 rfl rfl rfl (by simp[maxLen])) (je (M4.r 0 rfl) (by simp;omega) rfl) (by simpa using qB.name)) fun w5 M5=>an (fun h3 M=>⟨ri (out _ (if_neg (by simpa using h3)) (by simpa using h3)),M.below⟩) fun h3=>?_
 replace h3:bU [y.name] ((p.roles.take m).map (·.name))=0:=by simpa using h3
 rw[if_pos h3] at hcf out;refine lb 1<|an rfl<|fun g4 w6 M6=>ap 0 id rfl (M6.slice 0 rfl rfl rfl (by simp[maxLen])) ⟨by unfold maxLen;omega,by omega⟩ fun v5 w7 M7=>lb 2<|an rfl<|lb 3<|an rfl<|cl<|an (qq _ y.types (ay.all p.types.length) qB.types (C_ _)) fun w8 M8=>lb 4<|an (fun _=>rfl)<|lb 2<|an (fun _=>rfl)<|cl<|an (fun _=>jC _ _ _ _ _ _ _ _ _ _ _ _ _ _ _ _ _ _ p (hp.keep M8.below) hok y.next qB.next) fun w9 M9=>an (fun h5 M=>⟨ri (out 3 ?_ (by decide)),M.below⟩) fun h5=>an (by omega)<|bk (m+1,v5) ⟨rfl,rfl,trivial⟩ (fun M=>⟨(M.only (.cons _ (.cons _ (.cons _ (.refl _)))) (.refl _)).cast rfl (by dsimp only;rw[rF hy]),by omega,hinv.trans (bS hlt ?_)⟩) (by dsimp only;omega)
 all_goals first|(rw[hcf];clear hcf out)|clear hcf out
 all_goals cases h6:y.types.within (ay.all p.types.length)<;>cases h7:wR p.roles.length y.next<;>simp_all
structure aF.Few (p:aF):Prop where
 types:p.types.length≤12
 pq:∀ t∈p.types,t.pq.length≤4
def eO(l:List mM):List ByteArray:=l.flatMap fun t=>t.name::t.pq
theorem QG{l:List mM}(h:∀ t∈l,t.pq.length≤4):(eO l).length≤l.length*5:=by
 induction l with
 | nil=>simp[eO]
 | cons t l ih=>
  have h1:=h t (by simp);have h2:=ih fun x hx=>h x (by simp[hx])
  unfold eO at *;rw[List.flatMap_cons,axA,List.length_cons,List.length_cons];omega
theorem Bc{p:aF}(h:p.Few)(m:Nat):(eO (p.types.take m)).length≤m*5:=by
 have h1:=QG (l:=p.types.take m) fun t ht=>h.pq t (List.mem_of_mem_take ht)
 have h2:(p.types.take m).length≤m:=List.length_take_le _ _;omega
theorem Dz{y:mM}(h:y.Ok):∀ s∈y.name::y.pq,dV s:=fun s hs=>by
 rcases axy.1 hs with rfl|hs
 ·exact h.name
 ·exact h.pq.all s hs
def aeR(before:List ByteArray)(y:mM):Int:=bU (y.name::y.pq) before
def yG(p:aF)(i:Nat):Int:=match p.types[i]? with
 | some y=>aeR (eO (p.types.take i)) y
 | none=>0
def P9(nT:Nat)(before:List ByteArray)(y:lD):Int:=
 if bU [y.name] before=0 then (if y.types.within (ay.all nT)=false then 3 else 0) else bU [y.name] before
def C6(p:aF)(i:Nat):Int:=match p.attrs[i]? with
 | some y=>P9 p.types.length (eO p.types++(p.attrs.take i).map (·.name)) y
 | none=>0
def p8(p:aF):Int:=if 256<p.types.length then 4 else if aJ (yG p) p.types.length 0=0 then (if 64<p.attrs.length then 4 else aJ (C6 p) p.attrs.length 0) else aJ (yG p) p.types.length 0
theorem sy(w0:World)(c0 c1 c2 c3 c4 c5 c6 c7 c8 c9 aR aO aN aQ aM aL aP:Value)(p:aF)(hp:aK w0 c0 c1 c2 c3 c4 c5 c6 c7 c8 c9 aR aO aN aQ aM aL aP p)(_:p.Ok)(jk:p.Few)(k:Nat)(hk:k≤p.types.length):Calls Tryz.prog 102 #[.agg #[c0,c1,c2,c3,c4,c5,c6,c7,c8,c9,aR,aO,aN,aQ,aM,aL,aP],.int .i64 (k:Int)] w0 (fun(e:Ending) (w':World)=>∃ v,e=.returned v∧(akZ w' w0.heap.size v (eO (p.types.take k))∧axq w0.heap.size w0 w')):=by
 obtain⟨_,_,_,_,_,_,_,_,_,_,_,_,_,_,_,_,_,_,_,_,_,_,_,_,_,_,_,_,_,_,_,_,_,_,rfl,rfl,rfl,rfl,rfl,rfl,rfl,rfl,rfl,rfl,rfl,rfl,rfl,rfl,rfl,rfl,rfl⟩:=hp.open;have Dr:=jk.types;refine dD [] (fn:=Tryz.f102) Tryz.func102 rfl Tryz.ntmps102 rfl<|fun g1 w1 M1=>lq (ι:=Nat×Value) (fun(m,u)=>[(5,u),(6,.int .i64 (m:Int))]) (fun(m,u)=>[⟨u,9,1,(eO (p.types.take m)).length,(eO (p.types.take m)).flatMap aX⟩]) (fun(m,u) _=>m≤k) (fun(m,u)=>k-m) (0,.slice none 0 0) (an ⟨⟨rfl,rfl,trivial⟩,fun M=>⟨M.bM 9 1,axw _⟩⟩ ?_)
 rintro⟨m,u⟩ w M hm;refine an (fun h2=>?_) fun h2 M=>⟨_,rfl,?_,M.below⟩
 ·have hlt:m<k:=by simp at h2;omega
  obtain⟨y,hy⟩:∃ y,p.types[m]?=some y:=⟨_,axp (Nat.lt_of_lt_of_le hlt hk)⟩;obtain⟨b,o,_,e,⟨v,rfl,hv⟩,hc⟩:=aC.elt hp.types (by decide) hy;have hl:=Bc jk m;have hal:=jk.pq y (axx hy);exact lb 0<|an rfl<|ia<|an ⟨e,rfl,by omega⟩<|lc<|an (dH M.below hc 0 _ rfl)<|fun g2 w2 M2=>ap 0 id rfl (M2.slice 0 rfl rfl rfl (by simp[maxLen])) ⟨by unfold maxLen;omega,by omega⟩ fun v3 w3 M3=>lb 1<|an rfl<|ia<|an ⟨e,rfl,by omega⟩<|lc<|an (dH M3.below hc 1 _ rfl)<|ap 0 id rfl (hv.keep M3.below) ⟨by unfold maxLen;omega,by omega⟩ fun v4 w4 M4=>an (by omega)<|bk (m+1,v4) ⟨rfl,rfl,trivial⟩ (fun M=>⟨(M.only (.cons _ (.refl _)) (.refl _)).cast rfl (by dsimp only;rw[List.take_add_one,hy];simp[eO,aX];omega),by omega⟩) (by dsimp only;omega)
 ·obtain rfl:m=k:=by simp at h2;omega
  exact M.r 0 rfl
theorem QE(w0:World)(c0 c1 c2 c3 c4 c5 c6 c7 c8 c9 aR aO aN aQ aM aL aP:Value)(p:aF)(hp:aK w0 c0 c1 c2 c3 c4 c5 c6 c7 c8 c9 aR aO aN aQ aM aL aP p)(hok:p.Ok)(jk:p.Few):Calls Tryz.prog 42 #[.agg #[c0,c1,c2,c3,c4,c5,c6,c7,c8,c9,aR,aO,aN,aQ,aM,aL,aP]] w0 (RI w0 (p8 p)):=by
 obtain⟨_,_,_,_,_,_,_,_,_,_,_,_,_,_,_,_,_,_,_,_,_,_,_,_,_,_,_,_,_,_,_,_,_,_,rfl,rfl,rfl,rfl,rfl,rfl,rfl,rfl,rfl,rfl,rfl,rfl,rfl,rfl,rfl,rfl,rfl⟩:=hp.open;have Dr:=jk.types;refine dD [] (fn:=Tryz.f42) Tryz.func42 rfl Tryz.ntmps42 rfl<|fun g1 w1 M1=>lb 0<|an rfl<|an (fun h=>by simp at h;omega) fun h=>?_
 have hr:¬ 256<p.types.length:=by omega
 refine lr (ι:=Nat) (fun m=>[(3,.int .i64 (m:Int))]) (fun m _=>m≤p.types.length∧aJ (yG p) p.types.length 0=aJ (yG p) (p.types.length-m) m) (fun m=>p.types.length-m) 0 (an ⟨⟨rfl,trivial⟩,fun M=>⟨M,axw _,by rw[Nat.sub_zero]⟩⟩ ?_);rintro m w M ⟨hm,hinv⟩;refine lb 0<|an rfl<|an (fun h2=>?_) fun h2=>?_
 ·have hlt:m<p.types.length:=by simp at h2;omega
  obtain⟨y,hy⟩:∃ y,p.types[m]?=some y:=⟨_,axp hlt⟩;have qB:=hok.types y (axx hy);have hal:=jk.pq y (axx hy);obtain⟨b,o,_,e,⟨v,rfl,hv⟩,hc⟩:=aC.elt hp.types (by decide) hy;have hcf:yG p m=bU (y.name::y.pq) (eO (p.types.take m)):=by unfold yG;rw[hy];rfl
  exact dr (by kernel_rfl)<|lb 0<|an rfl<|ia<|an ⟨e,rfl,hlt⟩<|lc<|an (dH M.below hc 0 _ rfl)<|bl<|lb 0<|an rfl<|ia<|an ⟨e,rfl,hlt⟩<|lc<|an (dH M.below hc 1 _ rfl)<|fun g2 w2 hb2 M2=>ap 0 (fun M=>M.Hr 1 1 (by simp[maxLen]) rfl) rfl (hv.keep M2.below) ⟨by unfold maxLen;omega,by omega⟩ fun v3 w3 M3=>lb 0<|an rfl<|cw M3 (sy _ _ _ _ _ _ _ _ _ _ _ _ _ _ _ _ _ _ p (hp.keep M3.below) hok jk m hm) fun u w4 M4=>cl<|an (fE _ _ _ (y.name::y.pq) (eO (p.types.take m)) (je (M4.r 1 rfl) (by simp;omega) rfl) (je (M4.r 0 rfl) rfl rfl) (Dz qB)) fun w5 M5=>an (fun h3 M=>⟨ri (by
   have h3:bU (y.name::y.pq) (eO (p.types.take m))≠0:=by simpa using h3
   have e:aJ (yG p) p.types.length 0=bU (y.name::y.pq) (eO (p.types.take m)):=by rw[hinv,cL hlt (by rw[hcf];exact h3),hcf]
   unfold p8;rw[if_neg hr,e,if_neg h3]),M.below⟩) fun h3=>an (by omega)<|bk (m+1) ⟨rfl,trivial⟩ (fun M=>⟨M.only (.refl _) (.cons _ (.cons _ (.refl _))),by omega,hinv.trans (bS hlt (by rw[hcf];simpa using h3))⟩) (by dsimp only;omega)
 have hz:aJ (yG p) p.types.length 0=0:=by rw[hinv,show m=p.types.length by simp at h2;omega,cI]
 clear hinv h2;refine lb 0<|an rfl<|an (fun h M=>⟨ri (by unfold p8;rw[if_neg hr,if_pos hz,if_pos (by simp at h;omega)]),M.below⟩) fun h=>?_
 have ha:¬ 64<p.attrs.length:=by simp at h;omega
 rw[show p8 p=aJ (C6 p) p.attrs.length 0 by unfold p8;rw[if_neg hr,if_pos hz,if_neg ha]];refine lb 0<|an rfl<|lb 0<|an rfl<|cw M (sy _ _ _ _ _ _ _ _ _ _ _ _ _ _ _ _ _ _ p (hp.keep M.below) hok jk p.types.length (Nat.le_refl _)) fun u0 w5 M5=>lq (ι:=Nat×Value) (fun(m,u)=>[(6,u),(7,.int .i64 (m:Int))]) (fun(m,u)=>[⟨u,9,1,(eO p.types++(p.attrs.take m).map (·.name)).length,(eO p.types++(p.attrs.take m).map (·.name)).flatMap aX⟩]) (fun(m,u) _=>m≤p.attrs.length∧aJ (C6 p) p.attrs.length 0=aJ (C6 p) (p.attrs.length-m) m) (fun(m,u)=>p.attrs.length-m) (0,u0) (an ⟨⟨rfl,rfl,trivial⟩,fun M=>⟨M.cast rfl (by rw[axK];simp),axw _,by rw[Nat.sub_zero]⟩⟩ ?_)
 clear M;rintro⟨m,u⟩ w M ⟨hm,hinv⟩;refine lb 0<|an rfl<|an (fun h2=>?_) fun h2 M=>⟨ri (by rw[hinv,show m=p.attrs.length by simp at h2;omega,cI]),M.below⟩
 have hlt:m<p.attrs.length:=by simp at h2;omega
 obtain⟨y,hy⟩:∃ y,p.attrs[m]?=some y:=⟨_,axp hlt⟩;have qB:=hok.attrs y (axx hy);obtain⟨b,o,e,hc⟩:=SliceAt.elt hp.attrs (fun _=>rfl) (by decide) hy hlt;have hcf:C6 p m=P9 p.types.length (eO p.types++(p.attrs.take m).map (·.name)) y:=by unfold C6;rw[hy]
 have out:∀ v:Int,P9 p.types.length (eO p.types++(p.attrs.take m).map (·.name)) y=v→v≠0→aJ (C6 p) p.attrs.length 0=v:=fun v h1 h2=>by rw[hinv,cL hlt (by rw[hcf,h1];exact h2),hcf,h1]
 unfold P9 at hcf out;have hl:=Bc jk p.types.length;rw[axK] at hl;refine lb 0<|an rfl<|ia<|an ⟨e,rfl,hlt⟩<|lc<|an (dH M.below hc 0 _ rfl)<|fun g4 w6 M6=>cl<|an (fE _ _ _ [y.name] (eO p.types++(p.attrs.take m).map (·.name)) (M6.slice 0 rfl rfl rfl (by simp[maxLen])) (je (M6.r 0 rfl) rfl rfl) (by simpa using qB.name)) fun w7 M7=>an (fun h3 M=>⟨ri (out _ (if_neg (by simpa using h3)) (by simpa using h3)),M.below⟩) fun h3=>?_
 replace h3:bU [y.name] (eO p.types++(p.attrs.take m).map (·.name))=0:=by simpa using h3
 rw[if_pos h3] at hcf out;have hll:(eO p.types++(p.attrs.take m).map (·.name)).length≤200:=by simp;omega
 exact lb 1<|an rfl<|ia<|an ⟨e,rfl,hlt⟩<|lc<|an (dH M7.below hc 0 _ rfl)<|fun g5 w8 M8=>ap 0 id rfl (M8.slice 0 rfl rfl rfl (by simp[maxLen])) ⟨by unfold maxLen;omega,by omega⟩ fun v6 w9 M9=>dr (by kernel_rfl)<|lb 2<|an rfl<|ia<|an ⟨e,rfl,hlt⟩<|lc (x:=[.int .u64 y.types.a,.int .u64 y.types.b,.int .u64 y.types.c,.int .u64 y.types.d])<|an (Bs (dH M9.below hc) rfl)<|lb 2<|an rfl<|cl<|an (fun w' hb' M'=>gj _ y.types qB.types _ (by omega)) fun rz xJ nI=>an (fun h4 M=>⟨ri (out 3 (if_pos (by simpa using h4)) (by decide)),M.below⟩) fun h4=>an (by omega)<|bk (m+1,v6) ⟨rfl,rfl,trivial⟩ (fun M=>⟨(M.only (.cons _ (.cons _ (.refl _))) (.refl _)).cast rfl (by dsimp only;rw[List.take_add_one,hy];simp[aX];omega),by omega,hinv.trans (bS hlt (by rw[hcf,if_neg (by simpa using h4)]))⟩) (by dsimp only;omega)
theorem gH(w:World)(i n:Int):Calls Tryz.prog 113 #[.int .i64 i,.int .i64 n] w fun e w'=>e=.returned (.bool (bA i n))∧axq w.heap.size w w':=(cC w i n).mono fun _ _ ⟨h1,h2⟩=>⟨h1,h2▸Below.refl _ _⟩
structure aF.adX (p:aF):Prop where
 types:p.types.length≤12
 attrs:p.attrs.length≤6
 classes:p.classes.length≤6
 rules:p.rules.length≤40
 conds:p.conds.length≤6
 bools:p.bools.length≤6
 cons:p.cons.length≤12
 users:p.users.length≤8
 roles:p.roles.length≤8
 trans:p.trans.length≤36
 aT:p.aT.length≤12
 ranges:p.ranges.length≤12
 bf:p.bf.length≤6
 cats:p.cats.length≤10
 bL:p.bL.length≤8
 files:p.files.length≤12
 asserts:p.asserts.length≤8
structure aF.Dg (p:aF):Prop where
 sizes:p.adX
 pq:∀ x∈p.types,x.pq.length≤4
 conds:∀ x∈p.conds,bF 13 x≤6
 cons:∀ x∈p.cons,bF 13 x.expr≤6
theorem aF.Dg.few{p:aF}(h:p.Dg):p.Few:=⟨h.sizes.types,h.pq⟩
theorem QV(w0:World)(c0 c1 c2 c3 c4 c5 c6 c7 c8 c9 aR aO aN aQ aM aL aP:Value)(p:aF)(hp:aK w0 c0 c1 c2 c3 c4 c5 c6 c7 c8 c9 aR aO aN aQ aM aL aP p)(_:p.Ok):Calls Tryz.prog 11 #[.agg #[c0,c1,c2,c3,c4,c5,c6,c7,c8,c9,aR,aO,aN,aQ,aM,aL,aP]] w0 (fun(e:Ending) (w':World)=>∃ v,e=.returned v∧∃ b:Bool,v=.bool b∧(b=true→p.Dg)∧axq w0.heap.size w0 w'):=by
 obtain⟨_,_,_,_,_,_,_,_,_,_,_,_,_,_,_,_,_,_,_,_,_,_,_,_,_,_,_,_,_,_,_,_,_,_,rfl,rfl,rfl,rfl,rfl,rfl,rfl,rfl,rfl,rfl,rfl,rfl,rfl,rfl,rfl,rfl,rfl⟩:=hp.open;have tr:=fun m h=>SliceAt.elt (i:=m) hp.trans (fun _=>rfl) (by decide) (axp h) h
 obtain⟨_,_,e1,-,-,ty⟩:=aC.form hp.types (by decide);obtain⟨_,_,e8,-,-,cd⟩:=aC.form hp.conds (by decide);obtain⟨_,_,e13,-,-,cn⟩:=aC.form hp.cons (by decide);injection e1 with e1;injection e8 with e8;injection e13 with e13;subst e1 e8 e13;have no:∀ w,axq w0.heap.size w0 w→∃ v,Ending.returned (kQ [Value.bool false])=.returned v∧∃ b:Bool,v=.bool b∧(b=true→p.Dg)∧axq w0.heap.size w0 w:=fun w h=>⟨_,rfl,false,rfl,(fun e=>by cases e),h⟩
 refine dD [] (fn:=Tryz.f11) Tryz.func11 rfl Tryz.ntmps11 rfl fun g1 w1 M1=>lb 0<|an rfl<|lb 0<|an (fun _=>rfl)<|lb 0<|an (fun _=>rfl)<|lb 0<|an (fun _=>rfl)<|lb 0<|an (fun _=>rfl)<|lb 0<|an (fun _=>rfl)<|lb 0<|an (fun _=>rfl)<|lb 0<|an (fun _=>rfl)<|lb 0<|an (fun _=>rfl)<|an (fun h M=>no _ M.below) fun h=>?_
 simp only[Bool.or_eq_false_iff,decide_eq_false_iff_not] at h;refine lb 0<|an rfl<|lb 0<|an (fun _=>rfl)<|lb 0<|an (fun _=>rfl)<|lb 0<|an (fun _=>rfl)<|lb 0<|an (fun _=>rfl)<|lb 0<|an (fun _=>rfl)<|lb 0<|an (fun _=>rfl)<|lb 0<|an (fun _=>rfl)<|an (fun h M=>no _ M.below) fun h'=>?_
 simp only[Bool.or_eq_false_iff,decide_eq_false_iff_not] at h';refine ei<|an aey fun g2 w2 M2=>lp (ι:=Nat×Int×Int×Int×Int) (fun(m,_)=>[(4,.int .i64 (m:Int))]) (fun(m,n0,n1,n2,n3)=>(g2,82,#[.int .i64 n0,.int .i64 n1,.int .i64 n2,.int .i64 n3])::_) (fun _=>[]) (fun(m,n0,n1,n2,n3) _=>m≤p.trans.length∧0≤n1∧n1≤m∧0≤n2∧n2≤m∧0≤n3∧n3≤m) (fun(m,_)=>p.trans.length-m) (0,0,0,0,0) (an ⟨⟨rfl,trivial⟩,fun M=>⟨M,by omega⟩⟩ ?_)
 rintro⟨m,n0,n1,n2,n3⟩ w M hm;refine lb 1<|an rfl<|an (fun h2=>?_) fun h2=>?_
 ·simp only[decide_eq_true_eq] at h2;have hlt:m<p.trans.length:=by omega
  obtain⟨b,o,e,hc⟩:=tr m hlt;refine lb 1<|an rfl<|ia<|an ⟨e,rfl,hlt⟩<|lc<|an (cell_later M.below (hc 0 _ rfl))<|an (fun h3=>?_) fun h3=>an (by omega)<|bk (m+1,n0,n1,n2,n3) ⟨rfl,trivial⟩ (fun M=>⟨M,by omega⟩) (by dsimp only;omega)
  simp only[axC,decide_eq_true_eq] at h3;have hk:p.trans[m].kind=1∨p.trans[m].kind=2∨p.trans[m].kind=3:=by omega
  rcases hk with hk|hk|hk
  ·exact ei (x:=1)<|an ⟨hk,by decide⟩<|lb 0<|an rfl<|an (by omega)<|ei (x:=1)<|an ⟨hk,by decide⟩<|lb 0<|an ⟨rfl,rfl⟩ fun w M=>an (by omega)<|bk (m+1,n0,n1+1,n2,n3) ⟨rfl,trivial⟩ (fun M=>⟨M,by omega⟩) (by dsimp only;omega)
  ·exact ei (x:=2)<|an ⟨hk,by decide⟩<|lb 0<|an rfl<|an (by omega)<|ei (x:=2)<|an ⟨hk,by decide⟩<|lb 0<|an ⟨rfl,rfl⟩ fun w M=>an (by omega)<|bk (m+1,n0,n1,n2+1,n3) ⟨rfl,trivial⟩ (fun M=>⟨M,by omega⟩) (by dsimp only;omega)
  ·exact ei (x:=3)<|an ⟨hk,by decide⟩<|lb 0<|an rfl<|an (by omega)<|ei (x:=3)<|an ⟨hk,by decide⟩<|lb 0<|an ⟨rfl,rfl⟩ fun w M=>an (by omega)<|bk (m+1,n0,n1,n2,n3+1) ⟨rfl,trivial⟩ (fun M=>⟨M,by omega⟩) (by dsimp only;omega)
 refine lr (ι:=Nat) (fun m=>[(6,.int .i64 (m:Int))]) (fun m _=>m≤p.types.length∧∀ x∈p.types.take m,x.pq.length≤4) (fun m=>p.types.length-m) 0 (an ⟨⟨rfl,trivial⟩,fun M=>⟨M,axw _,by simp⟩⟩ ?_);rintro i1 w M ⟨hi1,ha⟩;refine lb 1<|an rfl<|an (fun h2=>?_) fun h2=>?_
 ·simp only[decide_eq_true_eq] at h2;obtain⟨x,hx⟩:∃ x,p.types[i1]?=some x:=⟨_,axp (by omega)⟩;obtain⟨b,o,z,rfl,⟨u,rfl,hu⟩,-,hc⟩:=ty i1 x hx;obtain⟨_,_,rfl,-⟩:=hu.get;refine lb 1<|an rfl<|ia<|an ⟨rfl,rfl,by omega⟩<|lc<|an (cell_later M.below (hc 1 _ rfl))<|an (fun h3 M=>no _ M.below) fun h3=>an (by omega)<|bk (i1+1) ⟨rfl,trivial⟩ (fun M=>⟨M,by omega,fun y hy=>?_⟩) (by dsimp only;omega)
  rw[List.take_add_one,hx] at hy;rcases axG.1 hy with hy|hy
  ·exact ha y hy
  ·obtain rfl:y=x:=by simpa using hy
   simp only[decide_eq_false_iff_not] at h3;omega
 simp only[decide_eq_false_iff_not] at h2;obtain rfl:i1=p.types.length:=by omega
 refine lr (ι:=Nat) (fun m=>[(7,.int .i64 (m:Int))]) (fun m _=>m≤p.conds.length∧∀ x∈p.conds.take m,bF 13 x≤6) (fun m=>p.conds.length-m) 0 (an ⟨⟨rfl,trivial⟩,fun M=>⟨M,axw _,by simp⟩⟩ ?_);rintro i2 w M ⟨hi2,hb⟩;refine lb 1<|an rfl<|an (fun h2=>?_) fun h2=>?_
 ·simp only[decide_eq_true_eq] at h2;obtain⟨x,hx⟩:∃ x,p.conds[i2]?=some x:=⟨_,axp (by omega)⟩;obtain⟨b,o,z,rfl,hz,-,hc⟩:=cd i2 x hx;obtain⟨nv,kv,rfl,-⟩:=hz.open;refine lb 1<|an rfl<|ia<|an ⟨rfl,rfl,by omega⟩<|lc<|an (dH M.below hc)<|cl<|an (pz _ _ x (bB.keep M.below hz)) fun w3 M3=>an (fun h3 M=>no _ M.below) fun h3=>an (by omega)<|bk (i2+1) ⟨rfl,trivial⟩ (fun M=>⟨M,by omega,fun y hy=>?_⟩) (by dsimp only;omega)
  rw[List.take_add_one,hx] at hy;rcases axG.1 hy with hy|hy
  ·exact hb y hy
  ·obtain rfl:y=x:=by simpa using hy
   simp only[decide_eq_false_iff_not] at h3;omega
 simp only[decide_eq_false_iff_not] at h2;obtain rfl:i2=p.conds.length:=by omega
 refine lr (ι:=Nat) (fun m=>[(8,.int .i64 (m:Int))]) (fun m _=>m≤p.cons.length∧∀ x∈p.cons.take m,bF 13 x.expr≤6) (fun m=>p.cons.length-m) 0 (an ⟨⟨rfl,trivial⟩,fun M=>⟨M,axw _,by simp⟩⟩ ?_);rintro i3 w M ⟨hi3,XJ⟩;refine lb 1<|an rfl<|an (fun h2=>?_) fun h2=>?_
 ·simp only[decide_eq_true_eq] at h2;obtain⟨x,hx⟩:∃ x,p.cons[i3]?=some x:=⟨_,axp (by omega)⟩;obtain⟨b,o,z,rfl,⟨es,rfl,hz⟩,-,hc⟩:=cn i3 x hx
  have hc3:∀ j u,es[j]?=some u→w0.cell? ⟨b,o+i3*13+3+j,none⟩=some u:=fun j u hj=>by
   have h4:=hc (j+3) u (by simpa using hj)
   rwa [show o+i3*13+(j+3)=o+i3*13+3+j by omega] at h4
  obtain⟨nv,kv,rfl,-⟩:=hz.open;refine lb 1<|an rfl<|ia<|an ⟨rfl,rfl,by omega⟩<|lc<|an (dH M.below hc3)<|cl<|an (pz _ _ x.expr (bB.keep M.below hz)) fun w3 M3=>an (fun h3 M=>no _ M.below) fun h3=>an (by omega)<|bk (i3+1) ⟨rfl,trivial⟩ (fun M=>⟨M,by omega,fun y hy=>?_⟩) (by dsimp only;omega)
  rw[List.take_add_one,hx] at hy;rcases axG.1 hy with hy|hy
  ·exact XJ y hy
  ·obtain rfl:y=x:=by simpa using hy
   simp only[decide_eq_false_iff_not] at h3;omega
 simp only[decide_eq_false_iff_not] at h2;obtain rfl:i3=p.cons.length:=by omega
 rw[axK] at ha hb XJ;exact ei (x:=1)<|an ⟨rfl,by decide⟩<|lb 0<|an rfl<|ei (x:=2)<|an (fun _=>⟨rfl,by decide⟩)<|lb 0<|an (fun _=>rfl)<|ei (x:=3)<|an (fun _=>⟨rfl,by decide⟩)<|lb 0<|an (fun _=>rfl) fun M=>⟨_,rfl,_,rfl,fun _=>⟨by constructor<;>omega,ha,hb,XJ⟩,M.below⟩
def bR(l:List bV)(k:Int):Nat:=(l.filter fun t=>decide (t.kind=k)).length
theorem fJ(l:List bV)(t:bV)(k:Int):bR (l++[t]) k=bR l k+(if t.kind=k then 1 else 0):=by
 unfold bR;rw[List.filter_append,axA];by_cases h:t.kind=k<;>simp[h]
theorem FV(l:List bV)(m:Nat)(k:Int):bR (l.take m) k≤bR l k:=by
 have h:=bR (l.drop m) k;unfold bR
 conv=>rhs;rw[← List.take_append_drop m l,List.filter_append,axA]
 omega
def D8(nT nC nK:Nat)(y:bV):Int:=
 if y.kind<1 then 13 else if 3<y.kind then 13
 else if y.src.within (ay.all nT)=false then 3 else if y.tgt.within (ay.all nT)=false then 3
 else if bA y.cls (nC:Int)=false then 3 else if bA y.res (nT:Int)=false then 3 else if vA nK y.cond=false then 3
 else if eV y.src=false then 2 else if eV y.tgt=false then 2
 else if y.kind≠1∧gG y.name=false then 2
 else if gG y.name=false∧mT y.name=false then 10 else 0
def yH(p:aF)(i:Nat):Int:=match p.trans[i]? with
 | some y=>D8 p.types.length p.classes.length p.conds.length y
 | none=>0
def qj(p:aF):Int:=if bR p.trans 1≤1024∧bR p.trans 2≤1024∧bR p.trans 3≤1024 then aJ (yH p) p.trans.length 0 else 4
theorem LS{p:aF}(h:∀ q:Int,1≤q→q≤3→bR p.trans q≤1024):qj p=aJ (yH p) p.trans.length 0:=
 if_pos ⟨h 1 (by omega) (by omega),h 2 (by omega) (by omega),h 3 (by omega) (by omega)⟩
theorem qh{p:aF}{q:Int}{m:Nat}(h1:1≤q)(h2:q≤3)(h:1024<bR (p.trans.take m) q):qj p=4:=by
 have h3:=FV p.trans m q;refine if_neg fun⟨a,b,c⟩=>?_
 rcases(show q=1∨q=2∨q=3 by omega) with rfl|rfl|rfl<;>omega
theorem QF(w0:World)(c0 c1 c2 c3 c4 c5 c6 c7 c8 c9 aR aO aN aQ aM aL aP:Value)(p:aF)(hp:aK w0 c0 c1 c2 c3 c4 c5 c6 c7 c8 c9 aR aO aN aQ aM aL aP p)(hok:p.Ok):Calls Tryz.prog 47 #[.agg #[c0,c1,c2,c3,c4,c5,c6,c7,c8,c9,aR,aO,aN,aQ,aM,aL,aP]] w0 (RI w0 (qj p)):=by
 obtain⟨_,_,_,_,_,_,_,_,_,_,_,_,_,_,_,_,_,_,_,_,_,_,_,_,_,_,_,_,_,_,_,_,_,_,rfl,rfl,rfl,rfl,rfl,rfl,rfl,rfl,rfl,rfl,rfl,rfl,rfl,rfl,rfl,rfl,rfl⟩:=hp.open;obtain⟨_,_,e10,-,afS,-⟩:=SliceAt.form hp.trans (by decide);obtain⟨_,_,e1,-,hm1,-⟩:=aC.form hp.types (by decide);have tr:=fun m h=>SliceAt.elt (i:=m) hp.trans (fun _=>rfl) (by decide) (axp h) h
 refine dD [] (fn:=Tryz.f47) Tryz.func47 rfl Tryz.ntmps47 rfl fun g1 w1 M1=>ei<|an aey fun g2 w2 M2=>lp (ι:=Nat) (fun m=>[(4,.int .i64 (m:Int))]) (fun m=>(g2,82,#[.int .i64 0,.int .i64 ((bR (p.trans.take m) 1:Nat):Int),.int .i64 ((bR (p.trans.take m) 2:Nat):Int),.int .i64 ((bR (p.trans.take m) 3:Nat):Int)])::_) (fun _=>[]) (fun m _=>m≤p.trans.length∧∀ q:Int,1≤q→q≤3→bR (p.trans.take m) q≤1024) (fun m=>p.trans.length-m) 0 (an ⟨⟨rfl,trivial⟩,fun M=>⟨M,axw _,fun _ _ _=>axw _⟩⟩ ?_)
 rintro m w M ⟨hm,hle⟩;refine lb 1<|an rfl<|an (fun h2=>?_) fun h2=>?_
 ·simp only[decide_eq_true_eq] at h2;have hlt:m<p.trans.length:=by omega
  obtain⟨b,o,e,hc⟩:=tr m hlt;have hy:p.trans[m]?=some p.trans[m]:=axp hlt;refine lb 1<|an rfl<|ia<|an ⟨e,rfl,hlt⟩<|lc<|an (cell_later M.below (hc 0 _ rfl))<|an (fun h3=>?_) fun h3=>?_
  rotate_left
  ·have hno:∀ q:Int,1≤q→q≤3→bR (p.trans.take (m+1)) q=bR (p.trans.take m) q:=fun q h1 h2=>by
    rw[bn hy,fJ,if_neg (fun e=>by simp only[Bool.and_eq_false_iff,decide_eq_false_iff_not] at h3;omega)];rfl
   exact an (by omega)<|bk (m+1) ⟨rfl,trivial⟩ (fun M=>⟨by rw[hno 1 (by omega) (by omega),hno 2 (by omega) (by omega),hno 3 (by omega) (by omega)];exact M,by omega,fun q h1 h2=>by rw[hno q h1 h2];exact hle q h1 h2⟩) (by dsimp only;omega)
  simp only[axC,decide_eq_true_eq] at h3;rcases(show p.trans[m].kind=1∨p.trans[m].kind=2∨p.trans[m].kind=3 by omega) with hk|hk|hk
  ·have hk1:bR (p.trans.take (m+1)) 1=bR (p.trans.take m) 1+1:=by rw[bn hy,fJ,if_pos hk]
   have hno:∀ q:Int,q≠1→bR (p.trans.take (m+1)) q=bR (p.trans.take m) q:=fun q h1=>by rw[bn hy,fJ,if_neg (by omega)];rfl
   have hq:=hle 1 (by omega) (by omega);refine ei (x:=1)<|an ⟨hk,by decide⟩<|lb 0<|an rfl<|an (by omega)<|ei (x:=1)<|an ⟨hk,by decide⟩<|lb 0<|an ⟨rfl,rfl⟩ fun w M=>ei (x:=1)<|an ⟨hk,by decide⟩<|lb 0<|an rfl<|an (fun h4 M=>⟨?_,M.below⟩) fun h4=>an (by omega)<|bk (m+1) ⟨rfl,trivial⟩ (fun M=>⟨by rw[hk1,hno 2 (by omega),hno 3 (by omega)];exact M,by omega,fun q h1 h2=>?_⟩) (by dsimp only;omega)
   ·simp only[decide_eq_true_eq] at h4;rw[qh (q:=1) (m:=m+1) (by omega) (by omega) (by rw[hk1];omega)];rfl
   ·simp only[decide_eq_false_iff_not] at h4;by_cases e:q=1
    ·subst e;rw[hk1];omega
    ·rw[hno q e];exact hle q h1 h2
  ·have hk1:bR (p.trans.take (m+1)) 2=bR (p.trans.take m) 2+1:=by rw[bn hy,fJ,if_pos hk]
   have hno:∀ q:Int,q≠2→bR (p.trans.take (m+1)) q=bR (p.trans.take m) q:=fun q h1=>by rw[bn hy,fJ,if_neg (by omega)];rfl
   have hq:=hle 2 (by omega) (by omega);refine ei (x:=2)<|an ⟨hk,by decide⟩<|lb 0<|an rfl<|an (by omega)<|ei (x:=2)<|an ⟨hk,by decide⟩<|lb 0<|an ⟨rfl,rfl⟩ fun w M=>ei (x:=2)<|an ⟨hk,by decide⟩<|lb 0<|an rfl<|an (fun h4 M=>⟨?_,M.below⟩) fun h4=>an (by omega)<|bk (m+1) ⟨rfl,trivial⟩ (fun M=>⟨by rw[hk1,hno 1 (by omega),hno 3 (by omega)];exact M,by omega,fun q h1 h2=>?_⟩) (by dsimp only;omega)
   ·simp only[decide_eq_true_eq] at h4;rw[qh (q:=2) (m:=m+1) (by omega) (by omega) (by rw[hk1];omega)];rfl
   ·simp only[decide_eq_false_iff_not] at h4;by_cases e:q=2
    ·subst e;rw[hk1];omega
    ·rw[hno q e];exact hle q h1 h2
  ·have hk1:bR (p.trans.take (m+1)) 3=bR (p.trans.take m) 3+1:=by rw[bn hy,fJ,if_pos hk]
   have hno:∀ q:Int,q≠3→bR (p.trans.take (m+1)) q=bR (p.trans.take m) q:=fun q h1=>by rw[bn hy,fJ,if_neg (by omega)];rfl
   have hq:=hle 3 (by omega) (by omega);refine ei (x:=3)<|an ⟨hk,by decide⟩<|lb 0<|an rfl<|an (by omega)<|ei (x:=3)<|an ⟨hk,by decide⟩<|lb 0<|an ⟨rfl,rfl⟩ fun w M=>ei (x:=3)<|an ⟨hk,by decide⟩<|lb 0<|an rfl<|an (fun h4 M=>⟨?_,M.below⟩) fun h4=>an (by omega)<|bk (m+1) ⟨rfl,trivial⟩ (fun M=>⟨by rw[hk1,hno 1 (by omega),hno 2 (by omega)];exact M,by omega,fun q h1 h2=>?_⟩) (by dsimp only;omega)
   ·simp only[decide_eq_true_eq] at h4;rw[qh (q:=3) (m:=m+1) (by omega) (by omega) (by rw[hk1];omega)];rfl
   ·simp only[decide_eq_false_iff_not] at h4;by_cases e:q=3
    ·subst e;rw[hk1];omega
    ·rw[hno q e];exact hle q h1 h2
 simp only[decide_eq_false_iff_not] at h2;obtain rfl:m=p.trans.length:=by omega
 rw[axK] at hle;rw[LS hle];have Dr:=hok.wJ;refine lr (ι:=Nat) (fun m=>[(6,.int .i64 (m:Int))]) (fun i _=>i≤p.trans.length∧aJ (yH p) p.trans.length 0=aJ (yH p) (p.trans.length-i) i) (fun i=>p.trans.length-i) 0 (an ⟨⟨rfl,trivial⟩,fun M=>⟨M,axw _,by rw[Nat.sub_zero]⟩⟩ ?_);rintro i w M ⟨hi,hinv⟩;refine lb 1<|an rfl<|an (fun h2=>?_) fun h2 M=>⟨?_,M.below⟩
 ·simp only[decide_eq_true_eq] at h2;have hlz:i<p.trans.length:=by omega
  obtain⟨b,o,e,hc⟩:=tr i hlz;have Rp:=hok.trans p.trans[i] (List.getElem_mem hlz);have hcf:yH p i=D8 p.types.length p.classes.length p.conds.length p.trans[i]:=by unfold yH;rw[axp hlz]
  generalize p.trans[i]=z at hc Rp hcf;have out:∀ v:Int,D8 p.types.length p.classes.length p.conds.length z=v→v≠0→Ending.returned (kQ [.int .i64 v])=.returned (.int .i64 (aJ (yH p) p.trans.length 0)):=fun v h1 h2=>by rw[hinv,cL hlz (by rw[hcf,h1];exact h2),hcf,h1];rfl
  unfold D8 at out hcf;refine lb 1<|an rfl<|ia<|an ⟨e,rfl,hlz⟩<|lc<|an (dH M.below hc)<|ei<|an Qq fun g3 w3 M3=>lb 0<|an ⟨rfl,rfl⟩ fun w4 M4=>lb 0<|an rfl<|lb 0<|an (fun _=>rfl)<|an (fun h M=>⟨out 13 ?_ (by decide),M.below⟩) fun h=>?_
  ·simp only[Bool.or_eq_true,decide_eq_true_eq] at h;by_cases h1:z.kind<1
   ·rw[if_pos h1]
   ·rw[if_neg h1,if_pos (by omega)]
  simp only[Bool.or_eq_false_iff,decide_eq_false_iff_not] at h;rw[if_neg h.1,if_neg h.2] at out hcf;refine lb 0<|an rfl<|lb 2<|an rfl<|cl<|an (gj _ z.src Rp.src _ Dr) fun w5 M5=>lb 0<|an rfl<|lb 2<|an rfl<|cl<|an (gj _ z.tgt Rp.tgt _ Dr) fun w6 M6=>?_
  refine lb 0<|an (fun _=>rfl)<|lb 2<|an (fun _=>rfl)<|cl<|an (fun _=>gH _ _ _) fun w7 M7=>lb 0<|an (fun _=>rfl)<|lb 2<|an (fun _=>rfl)<|cl<|an (fun _=>gH _ _ _) fun w8 M8=>lb 2<|an (fun _=>rfl)<|lb 0<|an (fun _=>rfl)<|cl<|an (fun _=>KA _ _ _ _ _ _ _ _ _ _ _ _ _ _ _ _ _ _ p (hp.keep M8.below) _) fun w9 M9=>an (fun h3 M=>⟨out 3 ?_ (by decide),M.below⟩) fun h3=>?_
  ·simp only[Bool.or_eq_true,Bool.not_eq_true'] at h3;rcases h3 with(((h3|h3)|h3)|h3)|h3<;>simp[h3]
  simp only[Bool.or_eq_false_iff,Bool.not_eq_false'] at h3;obtain⟨⟨⟨⟨a1,a2⟩,a3⟩,a4⟩,a5⟩:=h3;simp only[a1,a2,a3,a4,a5,Bool.true_eq_false,if_false] at out hcf;refine lb 0<|an (fun _=>rfl)<|lb 0<|an (fun _=>rfl)<|an (fun h4 M=>⟨out 2 ?_ (by decide),M.below⟩) fun h4=>?_
  ·change (!eV z.src||!eV z.tgt||(!decide (z.kind=1)&&!gG z.name))=true at h4
   clear out hcf;cases ha:eV z.src<;>cases hb:eV z.tgt<;>cases hc:gG z.name<;>cases hd:mT z.name<;>by_cases hk:z.kind=1<;>simp_all
  refine lb 0<|an rfl<|lb 0<|an (fun _=>rfl)<|cl<|an (fun _=>(MJ _ z.name Rp.name).mono fun _ _ ⟨h1,h2⟩=>⟨h1,h2▸Below.refl _ _⟩) fun rz nI=>an (fun h5 M=>⟨out 10 ?_ (by decide),M.below⟩) fun h5=>an (by omega)<|bk (i+1) ⟨rfl,trivial⟩ (fun M=>⟨M.only (.cons _ (.refl _)) (.refl _),by omega,hinv.trans (bS hlz ?_)⟩) (by dsimp only;omega)
  ·change (!eV z.src||!eV z.tgt||(!decide (z.kind=1)&&!gG z.name))=false at h4
   change (!gG z.name&&!mT z.name)=true at h5
   clear out hcf;cases ha:eV z.src<;>cases hb:eV z.tgt<;>cases hc:gG z.name<;>cases hd:mT z.name<;>by_cases hk:z.kind=1<;>simp_all
  ·change (!eV z.src||!eV z.tgt||(!decide (z.kind=1)&&!gG z.name))=false at h4
   change (!gG z.name&&!mT z.name)=false at h5
   rw[hcf];clear out hcf;cases ha:eV z.src<;>cases hb:eV z.tgt<;>cases hc:gG z.name<;>cases hd:mT z.name<;>by_cases hk:z.kind=1<;>simp_all
 simp only[decide_eq_false_iff_not] at h2;obtain rfl:i=p.trans.length:=by omega
 rw[hinv,Nat.sub_self];rfl
theorem tW{i n:Int}:bA i n=true↔0≤i∧i<n:=by
 unfold bA;simp
def Af(p:aF)(c:yA):Int:=match p.users[c.user.toNat]?,p.roles[c.role.toNat]? with
 | some u,some r=>if xX c.rng.low u.rng.low=false then 19 else if xX u.rng.high c.rng.high=false then 19
  else if u.roles.mem c.role=false then 19 else if r.types.mem c.typ=false then 19 else 0
 | _,_=>0
def wW(p:aF)(c:yA):Int:=
 if bA c.user (p.users.length:Int)=false then 3 else if bA c.role (p.roles.length:Int)=false then 3 else if bA c.typ (p.types.length:Int)=false then 3
 else if tg p.bf.length p.cats.length c.rng=false then 18 else if c.role=0 then 0 else Af p c
theorem Mv{p:aF}{c:yA}{u:kJ}{r:iI}(hu:p.users[c.user.toNat]?=some u)(hr:p.roles[c.role.toNat]?=some r):Af p c=if xX c.rng.low u.rng.low=false then 19 else if xX u.rng.high c.rng.high=false then 19
 else if u.roles.mem c.role=false then 19 else if r.types.mem c.typ=false then 19 else 0:=by
 unfold Af;rw[hu,hr]
theorem Ei(w0:World)(c0 c1 c2 c3 c4 c5 c6 c7 c8 c9 aR aO aN aQ aM aL aP:Value)(p:aF)(hp:aK w0 c0 c1 c2 c3 c4 c5 c6 c7 c8 c9 aR aO aN aQ aM aL aP p)(hok:p.Ok)(c:yA)(hc:c.Ok):Calls Tryz.prog 116 #[.agg #[c0,c1,c2,c3,c4,c5,c6,c7,c8,c9,aR,aO,aN,aQ,aM,aL,aP],.agg #[.int .i64 c.user,.int .i64 c.role,.int .i64 c.typ,.int .i64 c.rng.low.bf,.int .u64 c.rng.low.cats,.int .i64 c.rng.high.bf,.int .u64 c.rng.high.cats]] w0 (fun(e:Ending) (w':World)=>e=.returned (.int .i64 (wW p c))∧axq w0.heap.size w0 w'):=by
 obtain⟨_,_,_,_,_,_,_,_,_,_,_,_,_,_,_,_,_,_,_,_,_,_,_,_,_,_,_,_,_,_,_,_,_,_,rfl,rfl,rfl,rfl,rfl,rfl,rfl,rfl,rfl,rfl,rfl,rfl,rfl,rfl,rfl,rfl,rfl⟩:=hp.open;refine dD [] (fn:=Tryz.f116) Tryz.func116 rfl Tryz.ntmps116 rfl<|fun g1 w1 M1=>fun g2 w2 M2=>lb 0<|an rfl<|lb 1<|an rfl<|cl<|an (gH _ _ _) fun w3 M3=>lb 0<|an (fun _=>rfl)<|lb 1<|an (fun _=>rfl)<|cl<|an (fun _=>gH _ _ _) fun w4 M4=>lb 0<|an (fun _=>rfl)<|lb 1<|an (fun _=>rfl)<|cl<|an (fun _=>gH _ _ _) fun w5 M5=>an (fun h M=>⟨ri ?_,M.below⟩) fun h=>?_
 ·unfold wW;cases h5:bA c.user p.users.length<;>cases h6:bA c.role p.roles.length<;>cases h7:bA c.typ p.types.length<;>simp_all
 have hb:bA c.user p.users.length=true∧bA c.role p.roles.length=true∧bA c.typ p.types.length=true:=by cases h5:bA c.user p.users.length<;>cases h6:bA c.role p.roles.length<;>cases h7:bA c.typ p.types.length<;>simp_all
 clear h;have hpm:wW p c=if tg p.bf.length p.cats.length c.rng=false then 18 else if c.role=0 then 0 else Af p c:=by unfold wW;rw[hb.1,hb.2.1,hb.2.2];rfl
 rw[tW,tW,tW] at hb;obtain⟨⟨hu0,hu1⟩,⟨hr0,hr1⟩,ht0,ht1⟩:=hb;refine lb 1<|an rfl<|lb 0<|an rfl<|cl<|an (wU _ _ _ _ _ _ _ _ _ _ _ _ _ _ _ _ _ _ p (hp.keep M5.below) c.rng hc.rng) fun w6 M6=>an (fun h M=>⟨ri (by rw[hpm,if_pos (by simpa using h)]),M.below⟩) fun h=>?_
 rw[if_neg (by simpa using h)] at hpm;refine lb 0<|an rfl<|an (fun h M=>⟨ri (by rw[hpm,if_pos (by simpa using h)]),M.below⟩) fun h=>?_
 rw[if_neg (by simpa using h)] at hpm;have hlu:c.user.toNat<p.users.length:=by omega
 have hlr:c.role.toNat<p.roles.length:=by omega
 obtain⟨u,hu⟩:∃ u,p.users[c.user.toNat]?=some u:=⟨_,axp hlu⟩;obtain⟨r,hr⟩:∃ r,p.roles[c.role.toNat]?=some r:=⟨_,axp hlr⟩;have oku:=hok.users u (axx hu);have okr:=hok.roles r (axx hr);obtain⟨b,o,e,hcu⟩:=SliceAt.elt hp.users (fun _=>rfl) (by decide) hu hlu;obtain⟨b',o',e',hcr⟩:=SliceAt.elt hp.roles (fun _=>rfl) (by decide) hr hlr;rw[Mv hu hr] at hpm;refine lb 1<|an rfl<|lb 0<|an rfl<|ia<|an ⟨e,(axE hu0).symm,hlu⟩<|lc<|an (dH M6.below hcu)<|ei<|an aad fun g3 w7 M7=>lb 0<|an ⟨rfl,rfl⟩ fun w8 M8=>lb 1<|an rfl<|lb 0<|an rfl<|cl<|an (vu _ c.rng.low u.rng.low hc.rng.low oku.rng.low) fun w9 M9=>lb 0<|an (fun _=>rfl)<|lb 1<|an (fun _=>rfl)<|cl<|an (fun _=>vu _ u.rng.high c.rng.high oku.rng.high hc.rng.high) fun rz nI=>?_
 refine dr (by kernel_rfl)<|lb 0<|an (fun _=>rfl)<|lb 1<|an (fun _=>rfl)<|cl<|an (fun _ w' hb' M'=>uI _ u.roles oku.roles _)<|lb 2<|an (fun _=>rfl)<|lb 1<|an (fun _=>rfl)<|ia<|an (fun _=>⟨e',(axE hr0).symm,hlr⟩)<|lc (x:=[.int .u64 r.types.a,.int .u64 r.types.b,.int .u64 r.types.c,.int .u64 r.types.d])<|an (fun _=>Bs (dH nI.below hcr) rfl)<|lb 1<|an (fun _=>rfl)<|cl<|an (fun _ w' hb' M'=>uI _ r.types okr.types _) fun Dp Nz M11=>an (fun h3 M=>⟨ri ?_,M.below⟩) fun h3 M=>⟨ri ?_,M.below⟩
 all_goals rw[hpm];clear hpm;cases h4:xX c.rng.low u.rng.low<;>cases h5:xX u.rng.high c.rng.high<;>cases h6:u.roles.mem c.role<;>cases h7:r.types.mem c.typ<;>simp_all
theorem KH(w0:World)(x:ByteArray)(hx:dV x):Calls Tryz.prog 117 #[.agg #[.int .i64 3,.string x,.int .i64 0,.int .i64 0]] w0 (fun(e:Ending) (w':World)=>e=.returned (.bool (oK x))∧axq w0.heap.size w0 w'):=by
 exact dD [] (fn:=Tryz.f117) Tryz.func117 rfl Tryz.ntmps117 rfl<|fun g1 w1 M1=>lb 0<|an rfl<|an (fun h=>absurd h (by decide)) fun _=>an (fun h=>absurd h (by decide)) fun _=>an (fun h=>absurd h (by decide)) fun _=>an (fun _=>lb 0<|an rfl<|cl<|an ((Mt _ x hx).mono fun _ _ ⟨h1,h2⟩=>⟨h1,h2▸Below.refl _ _⟩) fun w4 M4 M=>⟨rfl,M.below⟩) fun h=>absurd h (by decide)
def Yj(p:aF)(before:List ByteArray)(y:kZ):Int:=if bU [y.name] before=0 then wW p y.ctx else bU [y.name] before
def Je(p:aF)(i:Nat):Int:=match p.bL[i]? with
 | some y=>Yj p ((p.bL.take i).map (·.name)) y
 | none=>0
def PO(p:aF)(y:lC):Int:=if gG y.pat=true then 10 else if oK y.pat=false then 10 else if y.kind<0 then 13 else if 4<y.kind then 13 else wW p y.ctx
def CD(p:aF)(i:Nat):Int:=match p.files[i]? with
 | some y=>PO p y
 | none=>0
def jX(p:aF):Int:=if 1024<p.bL.length then 4 else if aJ (Je p) p.bL.length 0=0 then (if 256<p.files.length then 4 else aJ (CD p) p.files.length 0) else aJ (Je p) p.bL.length 0
theorem Ng(w0:World)(c0 c1 c2 c3 c4 c5 c6 c7 c8 c9 aR aO aN aQ aM aL aP:Value)(p:aF)(hp:aK w0 c0 c1 c2 c3 c4 c5 c6 c7 c8 c9 aR aO aN aQ aM aL aP p)(hok:p.Ok):Calls Tryz.prog 50 #[.agg #[c0,c1,c2,c3,c4,c5,c6,c7,c8,c9,aR,aO,aN,aQ,aM,aL,aP]] w0 (RI w0 (jX p)):=by
 obtain⟨_,_,_,_,_,_,_,_,_,_,_,_,_,_,_,_,_,_,_,_,_,_,_,_,_,_,_,_,_,_,_,_,_,_,rfl,rfl,rfl,rfl,rfl,rfl,rfl,rfl,rfl,rfl,rfl,rfl,rfl,rfl,rfl,rfl,rfl⟩:=hp.open;refine dD [] (fn:=Tryz.f50) Tryz.func50 rfl Tryz.ntmps50 rfl<|fun g1 w1 M1=>lb 0<|an rfl<|an (fun h M=>⟨ri (by unfold jX;rw[if_pos (by simp at h;omega)]),M.below⟩) fun h=>?_
 have hr:¬ 1024<p.bL.length:=by simp at h;omega
 refine lq (ι:=Nat×Value) (fun(m,u)=>[(3,u),(4,.int .i64 (m:Int))]) (fun(m,u)=>[⟨u,9,1,m,((p.bL.take m).map (·.name)).flatMap aX⟩]) (fun(m,u) _=>m≤p.bL.length∧aJ (Je p) p.bL.length 0=aJ (Je p) (p.bL.length-m) m) (fun(m,u)=>p.bL.length-m) (0,.slice none 0 0) (an ⟨⟨rfl,rfl,trivial⟩,fun M=>⟨M.bM 9 1,axw _,by rw[Nat.sub_zero]⟩⟩ ?_);rintro⟨m,u⟩ w M ⟨hm,hinv⟩;refine lb 0<|an rfl<|an (fun h2=>?_) fun h2=>?_
 have hlt:m<p.bL.length:=by simp at h2;omega
 obtain⟨y,hy⟩:∃ y,p.bL[m]?=some y:=⟨_,axp hlt⟩;have qB:=hok.bL y (axx hy)
 ·obtain⟨b,o,e,hc⟩:=SliceAt.elt hp.bL (fun _=>rfl) (by decide) hy hlt;have hcf:Je p m=Yj p ((p.bL.take m).map (·.name)) y:=by unfold Je;rw[hy]
  have out:∀ v:Int,Yj p ((p.bL.take m).map (·.name)) y=v→v≠0→jX p=v:=fun v h1 h2=>by
   have e:aJ (Je p) p.bL.length 0=v:=by rw[hinv,cL hlt (by rw[hcf,h1];exact h2),hcf,h1]
   unfold jX;rw[if_neg hr,e,if_neg h2]
  unfold Yj at hcf out;refine lb 0<|an rfl<|ia<|an ⟨e,rfl,hlt⟩<|lc<|an (dH M.below hc 0 _ rfl)<|fun g2 w2 M2=>cl<|an (fE _ _ _ [y.name] ((p.bL.take m).map (·.name)) (M2.slice 0 rfl rfl rfl (by simp[maxLen])) (je (M2.r 0 rfl) (by simp;omega) rfl) (by simpa using qB.name)) fun w3 M3=>an (fun h3 M=>⟨ri (out _ (if_neg (by simpa using h3)) (by simpa using h3)),M.below⟩) fun h3=>?_
  replace h3:bU [y.name] ((p.bL.take m).map (·.name))=0:=by simpa using h3
  rw[if_pos h3] at hcf out;exact lb 1<|an rfl<|ia<|an ⟨e,rfl,hlt⟩<|lc<|an (dH M3.below hc 0 _ rfl)<|fun g3 w4 M4=>ap 0 id rfl (M4.slice 0 rfl rfl rfl (by simp[maxLen])) ⟨by unfold maxLen;omega,by omega⟩ fun v4 w5 M5=>dr (by kernel_rfl)<|lb 2<|an rfl<|lb 2<|an rfl<|ia<|an ⟨e,rfl,hlt⟩<|lc (x:=[.int .i64 y.ctx.user,.int .i64 y.ctx.role,.int .i64 y.ctx.typ,.int .i64 y.ctx.rng.low.bf,.int .u64 y.ctx.rng.low.cats,.int .i64 y.ctx.rng.high.bf,.int .u64 y.ctx.rng.high.cats])<|an (Bs (dH M5.below hc) rfl)<|cl<|an (fun w' hb' M'=>Ei _ _ _ _ _ _ _ _ _ _ _ _ _ _ _ _ _ _ p (hp.keep M'.below) hok y.ctx qB.ctx) fun w6 Zo M6=>an (fun h4 M=>⟨ri (out _ rfl (by simpa using h4)),M.below⟩) fun h4=>an (by omega)<|bk (m+1,v4) ⟨rfl,rfl,trivial⟩ (fun M=>⟨(M.only (.cons _ (.cons _ (.refl _))) (.refl _)).cast rfl (by dsimp only;rw[rF hy]),by omega,hinv.trans (bS hlt (by rw[hcf];simpa using h4))⟩) (by dsimp only;omega)
 have hz:aJ (Je p) p.bL.length 0=0:=by rw[hinv,show m=p.bL.length by simp at h2;omega,cI]
 clear hinv h2 hm;refine lb 0<|an rfl<|an (fun h M=>⟨ri (by unfold jX;rw[if_neg hr,if_pos hz,if_pos (by simp at h;omega)]),M.below⟩) fun h=>?_
 rw[show jX p=aJ (CD p) p.files.length 0 by unfold jX;rw[if_neg hr,if_pos hz,if_neg (by simp at h;omega)]];have hfl:¬ 256<p.files.length:=by simp at h;omega
 refine lp (ι:=Nat) (fun m=>[(7,.int .i64 (m:Int))]) (fun _=>_) (fun _=>[]) (fun m _=>m≤p.files.length∧aJ (CD p) p.files.length 0=aJ (CD p) (p.files.length-m) m) (fun m=>p.files.length-m) 0 (an ⟨⟨rfl,trivial⟩,fun M=>⟨M.only (.refl _) (.cons _ (.refl _)),axw _,by rw[Nat.sub_zero]⟩⟩ ?_);clear M;rintro m w M ⟨hm,hinv⟩;refine lb 0<|an rfl<|an (fun h2=>?_) fun h2 M=>⟨ri (by rw[hinv,show m=p.files.length by simp at h2;omega,cI]),M.below⟩
 have hlt:m<p.files.length:=by simp at h2;omega
 obtain⟨y,hy⟩:∃ y,p.files[m]?=some y:=⟨_,axp hlt⟩;have qB:=hok.files y (axx hy);obtain⟨b,o,e,hc⟩:=SliceAt.elt hp.files (fun _=>rfl) (by decide) hy hlt;have hcf:CD p m=PO p y:=by unfold CD;rw[hy]
 have out:∀ v:Int,PO p y=v→v≠0→aJ (CD p) p.files.length 0=v:=fun v h1 h2=>by rw[hinv,cL hlt (by rw[hcf,h1];exact h2),hcf,h1]
 unfold PO at hcf out;refine lb 0<|an rfl<|ia<|an ⟨e,rfl,hlt⟩<|lc<|an (dH M.below hc)<|ei<|an aeF fun g5 w7 M7=>lb 0<|an ⟨rfl,rfl⟩ fun w8 M8=>lb 0<|an rfl<|lb 0<|an (fun _=>rfl)<|ei (x:=.agg #[.int .i64 3,.string y.pat,.int .i64 0,.int .i64 0])<|an (fun _=>bd (by kernel_rfl))<|cl<|an (fun _=>KH _ y.pat qB.pat) fun w9 M9=>an (fun h3 M=>⟨ri (out 10 ?_ (by decide)),M.below⟩) fun h3=>?_
 ·change (gG y.pat||!oK y.pat)=true at h3
  clear out hcf;cases h4:gG y.pat<;>cases h5:oK y.pat<;>simp_all
 change (gG y.pat||!oK y.pat)=false at h3
 rw[if_neg (by intro e;simp[e] at h3),if_neg (by intro e;simp[e] at h3)] at hcf out;refine lb 0<|an rfl<|lb 0<|an (fun _=>rfl)<|an (fun h4 M=>⟨ri (out 13 ?_ (by decide)),M.below⟩) fun h4=>?_
 ·by_cases h5:y.kind<0
  ·rw[if_pos h5]
  ·rw[if_neg h5,if_pos (by simp at h4;omega)]
 rw[if_neg (by simp at h4;omega),if_neg (by simp at h4;omega)] at hcf out;exact lb 1<|an rfl<|lb 0<|an rfl<|cl<|an (Ei _ _ _ _ _ _ _ _ _ _ _ _ _ _ _ _ _ _ p (hp.keep M9.below) hok y.ctx qB.ctx) fun rz nI=>an (fun h5 M=>⟨ri (out _ rfl (by simpa using h5)),M.below⟩) fun h5=>an (by omega)<|bk (m+1) ⟨rfl,trivial⟩ (fun M=>⟨M.only (.cons _ (.refl _)) (.refl _),by omega,hinv.trans (bS hlt (by rw[hcf];simpa using h5))⟩) (by dsimp only;omega)
def rtM(nT nC nR:Nat)(y:k_):Int:=
 if wR nR y.roles=false then 3 else if y.types.within (ay.all nT)=false then 3 else if bA y.cls (nC:Int)=false then 3 else if bA y.res (nR:Int)=false then 3
 else if y.res=0 then 3 else if y.roles=ay.zero then 2 else if eV y.types=false then 2 else 0
def Ys(p:aF)(i:Nat):Int:=match p.aT[i]? with
 | some y=>rtM p.types.length p.classes.length p.roles.length y
 | none=>0
def rgM(nT nC nS nK:Nat)(y:lu):Int:=
 if y.src.within (ay.all nT)=false then 3 else if y.tgt.within (ay.all nT)=false then 3 else if bA y.cls (nC:Int)=false then 3
 else if eV y.src=false then 2 else if eV y.tgt=false then 2 else if tg nS nK y.rng=false then 18 else 0
def rgF(p:aF)(i:Nat):Int:=match p.ranges[i]? with
 | some y=>rgM p.types.length p.classes.length p.bf.length p.cats.length y
 | none=>0
def fF(p:aF):Int:=if 1024<p.aT.length then 4 else if aJ (Ys p) p.aT.length 0=0 then (if 1024<p.ranges.length then 4 else aJ (rgF p) p.ranges.length 0) else aJ (Ys p) p.aT.length 0
theorem KI(w0:World)(c0 c1 c2 c3 c4 c5 c6 c7 c8 c9 aR aO aN aQ aM aL aP:Value)(p:aF)(hp:aK w0 c0 c1 c2 c3 c4 c5 c6 c7 c8 c9 aR aO aN aQ aM aL aP p)(hok:p.Ok):Calls Tryz.prog 48 #[.agg #[c0,c1,c2,c3,c4,c5,c6,c7,c8,c9,aR,aO,aN,aQ,aM,aL,aP]] w0 (RI w0 (fF p)):=by
 obtain⟨_,_,_,_,_,_,_,_,_,_,_,_,_,_,_,_,_,_,_,_,_,_,_,_,_,_,_,_,_,_,_,_,_,_,rfl,rfl,rfl,rfl,rfl,rfl,rfl,rfl,rfl,rfl,rfl,rfl,rfl,rfl,rfl,rfl,rfl⟩:=hp.open;have Dr:=hok.wJ;refine dD [] (fn:=Tryz.f48) Tryz.func48 rfl Tryz.ntmps48 rfl fun g1 w1 M1=>lb 0<|an rfl<|an (fun h M=>⟨?_,M.below⟩) fun h=>?_
 ·simp only[decide_eq_true_eq] at h;unfold fF;rw[if_pos (by omega)];rfl
 simp only[decide_eq_false_iff_not] at h;have hr:¬ 1024<p.aT.length:=by omega
 have akC:∀ v:Int,aJ (Ys p) p.aT.length 0=v→v≠0→fF p=v:=fun v h1 h2=>by unfold fF;rw[if_neg hr,if_neg (by rw[h1];exact h2),h1]
 refine lr (ι:=Nat) (fun m=>[(3,.int .i64 (m:Int))]) (fun i _=>i≤p.aT.length∧aJ (Ys p) p.aT.length 0=aJ (Ys p) (p.aT.length-i) i) (fun i=>p.aT.length-i) 0 (an ⟨⟨rfl,trivial⟩,fun M=>⟨M,axw _,by rw[Nat.sub_zero]⟩⟩ ?_);rintro i w M ⟨hi,hinv⟩;refine lb 0<|an rfl<|an (fun h2=>?_) fun h2=>?_
 ·simp only[decide_eq_true_eq] at h2;have hlz:i<p.aT.length:=by omega
  obtain⟨b,o,e,hc⟩:=SliceAt.elt (i:=i) hp.aT (fun _=>rfl) (by decide) (axp hlz) hlz;have Rp:=hok.aT p.aT[i] (List.getElem_mem hlz);have hcf:Ys p i=rtM p.types.length p.classes.length p.roles.length p.aT[i]:=by unfold Ys;rw[axp hlz]
  generalize p.aT[i]=z at hc Rp hcf
  have out:∀ v:Int,rtM p.types.length p.classes.length p.roles.length z=v→v≠0→Ending.returned (kQ [.int .i64 v])=.returned (.int .i64 (fF p)):=fun v h1 h2=>by
   have e:aJ (Ys p) p.aT.length 0=v:=by rw[hinv,cL hlz (by rw[hcf,h1];exact h2),hcf,h1]
   rw[akC _ e h2];rfl
  unfold rtM at out hcf;refine lb 0<|an rfl<|ia<|an ⟨e,rfl,hlz⟩<|lc<|an (dH M.below hc)<|ei<|an aeB fun g3 w3 M3=>lb 0<|an ⟨rfl,rfl⟩ fun w4 M4=>?_
  refine dr (by kernel_rfl)<|lb 0<|an rfl<|ei (x:=.agg #[.int .u64 0,.int .u64 0,.int .u64 0,.int .u64 0])<|an (bd (by kernel_rfl))<|ei<|an ⟨rV,fun w=>nM z.roles w⟩<|lb 1<|an rfl<|lb 0<|an rfl<|cl<|an (fun w' hb' M'=>jC w' _ _ _ _ _ _ _ _ _ _ _ _ _ _ _ _ _ p (hp.keep M'.below) hok z.roles Rp.roles) fun w5 V8 M5=>?_
  refine lb 0<|an rfl<|lb 1<|an rfl<|cl<|an (gj _ z.types Rp.types _ Dr) fun w6 Mw6=>lb 0<|an (fun _=>rfl)<|lb 1<|an (fun _=>rfl)<|cl<|an (fun _=>gH _ _ _) fun w7 Mw7=>lb 0<|an (fun _=>rfl)<|lb 1<|an (fun _=>rfl)<|cl<|an (fun _=>gH _ _ _) fun w8 Mw8=>lb 0<|an (fun _=>rfl)<|an (fun h3 M=>⟨out 3 ?_ (by decide),M.below⟩) fun h3=>an (fun h4 M=>⟨out 2 ?_ (by decide),M.below⟩) fun h4=>an (by omega)<|bk (i+1) ⟨rfl,trivial⟩ (fun M=>⟨M.only (.cons _ (.refl _)) (.refl _),by omega,hinv.trans (bS hlz ?_)⟩) (by dsimp only;omega)
  all_goals first|(rw[hcf];clear out hcf)|clear out hcf
  all_goals cases h5:wR p.roles.length z.roles<;>cases h6:z.types.within (ay.all p.types.length)<;>cases h7:bA z.cls (p.classes.length:Int)<;>cases h8:bA z.res (p.roles.length:Int)<;>by_cases h9:z.res=0<;>by_cases Le:z.roles=ay.zero<;>cases nF:eV z.types<;>simp_all
 simp only[decide_eq_false_iff_not] at h2;obtain rfl:i=p.aT.length:=by omega
 rw[Nat.sub_self] at hinv;replace hinv:aJ (Ys p) p.aT.length 0=0:=hinv;have hz:=hinv;refine lb 0<|an rfl<|an (fun h M=>⟨?_,M.below⟩) fun h=>?_
 ·simp only[decide_eq_true_eq] at h;unfold fF;rw[if_neg hr,if_pos hz,if_pos (by omega)];rfl
 simp only[decide_eq_false_iff_not] at h;have hg:¬ 1024<p.ranges.length:=by omega
 have agU:fF p=aJ (rgF p) p.ranges.length 0:=by unfold fF;rw[if_neg hr,if_pos hz,if_neg hg]
 have akB:∀ v:Int,aJ (rgF p) p.ranges.length 0=v→v≠0→fF p=v:=fun v h1 _=>agU.trans h1
 clear hinv h2;refine lr (ι:=Nat) (fun m=>[(9,.int .i64 (m:Int))]) (fun i _=>i≤p.ranges.length∧aJ (rgF p) p.ranges.length 0=aJ (rgF p) (p.ranges.length-i) i) (fun i=>p.ranges.length-i) 0 (an ⟨⟨rfl,trivial⟩,fun M=>⟨M,axw _,by rw[Nat.sub_zero]⟩⟩ ?_);rintro i w M ⟨hi,hinv⟩;refine lb 0<|an rfl<|an (fun h2=>?_) fun h2=>?_
 ·simp only[decide_eq_true_eq] at h2;have hlz:i<p.ranges.length:=by omega
  obtain⟨b,o,e,hc⟩:=SliceAt.elt (i:=i) hp.ranges (fun _=>rfl) (by decide) (axp hlz) hlz;have Rp:=hok.ranges p.ranges[i] (List.getElem_mem hlz);have hcf:rgF p i=rgM p.types.length p.classes.length p.bf.length p.cats.length p.ranges[i]:=by unfold rgF;rw[axp hlz]
  generalize p.ranges[i]=z at hc Rp hcf
  have out:∀ v:Int,rgM p.types.length p.classes.length p.bf.length p.cats.length z=v→v≠0→Ending.returned (kQ [.int .i64 v])=.returned (.int .i64 (fF p)):=fun v h1 h2=>by
   have e:aJ (rgF p) p.ranges.length 0=v:=by rw[hinv,cL hlz (by rw[hcf,h1];exact h2),hcf,h1]
   rw[akB _ e h2];rfl
  unfold rgM at out hcf;refine lb 0<|an rfl<|ia<|an ⟨e,rfl,hlz⟩<|lc<|an (dH M.below hc)<|ei<|an aeA fun g3 w3 M3=>lb 0<|an ⟨rfl,rfl⟩ fun w4 M4=>?_
  refine lb 0<|an rfl<|lb 1<|an rfl<|cl<|an (gj _ z.src Rp.src _ Dr) fun w5 Mw5=>lb 0<|an rfl<|lb 1<|an rfl<|cl<|an (gj _ z.tgt Rp.tgt _ Dr) fun w6 Mw6=>lb 0<|an (fun _=>rfl)<|lb 1<|an (fun _=>rfl)<|cl<|an (fun _=>gH _ _ _) fun w7 Mw7=>an (fun h3 M=>⟨out 3 ?_ (by decide),M.below⟩) fun h3=>an (fun h4 M=>⟨out 2 ?_ (by decide),M.below⟩) fun h4=>lb 1<|an rfl<|lb 0<|an rfl<|cl<|an (wU _ _ _ _ _ _ _ _ _ _ _ _ _ _ _ _ _ _ p (hp.keep Mw7.below) z.rng Rp.rng) fun w8 M8=>an (fun h5 M=>⟨out 18 ?_ (by decide),M.below⟩) fun h5=>an (by omega)<|bk (i+1) ⟨rfl,trivial⟩ (fun M=>⟨M.only (.cons _ (.refl _)) (.refl _),by omega,hinv.trans (bS hlz ?_)⟩) (by dsimp only;omega)
  all_goals first|(rw[hcf];clear out hcf)|clear out hcf
  all_goals cases h6:z.src.within (ay.all p.types.length)<;>cases h7:z.tgt.within (ay.all p.types.length)<;>cases h8:bA z.cls (p.classes.length:Int)<;>cases h9:eV z.src<;>cases Le:eV z.tgt<;>cases nF:tg p.bf.length p.cats.length z.rng<;>simp_all
 simp only[decide_eq_false_iff_not] at h2;obtain rfl:i=p.ranges.length:=by omega
 rw[Nat.sub_self] at hinv;exact fun M=>⟨by rw[agU,hinv];rfl,M.below⟩
def yc(before:List ByteArray)(y:mI):Int:=
 if bU [y.name] before=0 then (if 32<y.perms.length then 4 else if y.perms.length=0 then 2 else bU y.perms []) else bU [y.name] before
def qW(p:aF)(i:Nat):Int:=match p.classes[i]? with
 | some y=>yc ((p.classes.take i).map (·.name)) y
 | none=>0
def ku(p:aF):Int:=if 32<p.classes.length then 4 else aJ (qW p) p.classes.length 0
theorem KG(w0:World)(c0 c1 c2 c3 c4 c5 c6 c7 c8 c9 aR aO aN aQ aM aL aP:Value)(p:aF)(hp:aK w0 c0 c1 c2 c3 c4 c5 c6 c7 c8 c9 aR aO aN aQ aM aL aP p)(hok:p.Ok):Calls Tryz.prog 41 #[.agg #[c0,c1,c2,c3,c4,c5,c6,c7,c8,c9,aR,aO,aN,aQ,aM,aL,aP]] w0 (RI w0 (ku p)):=by
 obtain⟨_,_,_,_,_,_,_,_,_,_,_,_,_,_,_,_,_,_,_,_,_,_,_,_,_,_,_,_,_,_,_,_,_,_,rfl,rfl,rfl,rfl,rfl,rfl,rfl,rfl,rfl,rfl,rfl,rfl,rfl,rfl,rfl,rfl,rfl⟩:=hp.open;refine dD [] (fn:=Tryz.f41) Tryz.func41 rfl Tryz.ntmps41 rfl<|fun g1 w1 M1=>lb 0<|an rfl<|an (fun h M=>⟨ri (by unfold ku;rw[if_pos (by simp at h;omega)]),M.below⟩) fun h=>?_
 have hr:¬ 32<p.classes.length:=by simp at h;omega
 rw[show ku p=aJ (qW p) p.classes.length 0 from if_neg hr];refine lq (ι:=Nat×Value) (fun(m,u)=>[(3,u),(4,.int .i64 (m:Int))]) (fun(m,u)=>[⟨u,9,1,m,((p.classes.take m).map (·.name)).flatMap aX⟩]) (fun(m,u) _=>m≤p.classes.length∧aJ (qW p) p.classes.length 0=aJ (qW p) (p.classes.length-m) m) (fun(m,u)=>p.classes.length-m) (0,.slice none 0 0) (an ⟨⟨rfl,rfl,trivial⟩,fun M=>⟨M.bM 9 1,axw _,by rw[Nat.sub_zero]⟩⟩ ?_);rintro⟨m,u⟩ w M ⟨hm,hinv⟩;refine lb 0<|an rfl<|an (fun h2=>?_) fun h2 M=>⟨ri (by rw[hinv,show m=p.classes.length by simp at h2;omega,cI]),M.below⟩
 have hlt:m<p.classes.length:=by simp at h2;omega
 obtain⟨y,hy⟩:∃ y,p.classes[m]?=some y:=⟨_,axp hlt⟩;have qB:=hok.classes y (axx hy);obtain⟨b,o,_,e,⟨v,rfl,hv⟩,hc⟩:=aC.elt hp.classes (by decide) hy;obtain⟨va,vc,rfl,-⟩:=aU.get hv;have hcf:qW p m=yc ((p.classes.take m).map (·.name)) y:=by unfold qW;rw[hy]
 have out:∀ v:Int,yc ((p.classes.take m).map (·.name)) y=v→v≠0→aJ (qW p) p.classes.length 0=v:=fun v h1 h2=>by rw[hinv,cL hlt (by rw[hcf,h1];exact h2),hcf,h1]
 unfold yc at hcf out;refine lb 0<|an rfl<|ia<|an ⟨e,rfl,hlt⟩<|lc<|an (dH M.below hc)<|ei<|an OG fun g2 w2 M2=>lb 0<|an ⟨rfl,rfl⟩ fun w3 M3=>lb 0<|an rfl<|fun g3 w4 M4=>cl<|an (fE _ _ _ [y.name] ((p.classes.take m).map (·.name)) (M4.slice 0 rfl rfl rfl (by simp[maxLen])) (je (M4.r 0 rfl) (by simp;omega) rfl) (by simpa using qB.name)) fun w5 M5=>an (fun h3 M=>⟨ri (out _ (if_neg (by simpa using h3)) (by simpa using h3)),M.below⟩) fun h3=>?_
 replace h3:bU [y.name] ((p.classes.take m).map (·.name))=0:=by simpa using h3
 rw[if_pos h3] at hcf out;refine lb 1<|an rfl<|fun g4 w6 M6=>ap 0 id rfl (M6.slice 0 rfl rfl rfl (by simp[maxLen])) ⟨by unfold maxLen;omega,by omega⟩ fun v5 w7 M7=>lb 2<|an rfl<|an (fun h4 M=>⟨ri (out _ (if_pos (by simp at h4;omega)) (by decide)),M.below⟩) fun h4=>?_
 rw[if_neg (by simp at h4;omega)] at hcf out;refine lb 2<|an rfl<|an (fun h5 M=>⟨ri (out _ (if_pos (by simp at h5;simp[h5])) (by decide)),M.below⟩) fun h5=>?_
 rw[if_neg (by simp at h5;simp[h5])] at hcf out;exact lb 2<|an rfl<|cl<|an (fE _ _ _ y.perms [] (hv.keep M7.below) (SliceAt.nil _ _) qB.perms.all) fun w8 M8=>an (fun h6 M=>⟨ri (out _ rfl (by simpa using h6)),M.below⟩) fun h6=>an (by omega)<|bk (m+1,v5) ⟨rfl,rfl,trivial⟩ (fun M=>⟨(M.only (.cons _ (.cons _ (.cons _ (.refl _)))) (.refl _)).cast rfl (by dsimp only;rw[rF hy]),by omega,hinv.trans (bS hlt (by rw[hcf];simpa using h6))⟩) (by dsimp only;omega)
def OO(nR nS nC:Nat)(before:List ByteArray)(y:kJ):Int:=
 if bU [y.name] before=0 then
  (if wR nR y.roles=false then 3
   else if tg nS nC y.rng=false then 18 else if xu nS nC y.dflt=false then 18
   else if xX y.rng.high y.dflt=false then 18 else if xX y.dflt y.rng.low=false then 18 else 0)
 else bU [y.name] before
def A9(p:aF)(i:Nat):Int:=match p.users[i]? with
 | some y=>OO p.roles.length p.bf.length p.cats.length ((p.users.take i).map (·.name)) y
 | none=>0
def wH(p:aF):Int:=if 32<p.users.length then 4 else aJ (A9 p) p.users.length 0
theorem QC(w0:World)(c0 c1 c2 c3 c4 c5 c6 c7 c8 c9 aR aO aN aQ aM aL aP:Value)(p:aF)(hp:aK w0 c0 c1 c2 c3 c4 c5 c6 c7 c8 c9 aR aO aN aQ aM aL aP p)(hok:p.Ok):Calls Tryz.prog 44 #[.agg #[c0,c1,c2,c3,c4,c5,c6,c7,c8,c9,aR,aO,aN,aQ,aM,aL,aP]] w0 (RI w0 (wH p)):=by
 obtain⟨_,_,_,_,_,_,_,_,_,_,_,_,_,_,_,_,_,_,_,_,_,_,_,_,_,_,_,_,_,_,_,_,_,_,rfl,rfl,rfl,rfl,rfl,rfl,rfl,rfl,rfl,rfl,rfl,rfl,rfl,rfl,rfl,rfl,rfl⟩:=hp.open;refine dD [] (fn:=Tryz.f44) Tryz.func44 rfl Tryz.ntmps44 rfl<|fun g1 w1 M1=>lb 0<|an rfl<|an (fun h M=>⟨ri (by unfold wH;rw[if_pos (by simp at h;omega)]),M.below⟩) fun h=>?_
 have hr:¬ 32<p.users.length:=by simp at h;omega
 rw[show wH p=aJ (A9 p) p.users.length 0 from if_neg hr];refine lq (ι:=Nat×Value) (fun(m,u)=>[(3,u),(4,.int .i64 (m:Int))]) (fun(m,u)=>[⟨u,9,1,m,((p.users.take m).map (·.name)).flatMap aX⟩]) (fun(m,u) _=>m≤p.users.length∧aJ (A9 p) p.users.length 0=aJ (A9 p) (p.users.length-m) m) (fun(m,u)=>p.users.length-m) (0,.slice none 0 0) (an ⟨⟨rfl,rfl,trivial⟩,fun M=>⟨M.bM 9 1,axw _,by rw[Nat.sub_zero]⟩⟩ ?_);rintro⟨m,u⟩ w M ⟨hm,hinv⟩;refine lb 0<|an rfl<|an (fun h2=>?_) fun h2 M=>⟨ri (by rw[hinv,show m=p.users.length by simp at h2;omega,cI]),M.below⟩
 have hlt:m<p.users.length:=by simp at h2;omega
 obtain⟨y,hy⟩:∃ y,p.users[m]?=some y:=⟨_,axp hlt⟩;have qB:=hok.users y (axx hy);obtain⟨b,o,e,hc⟩:=SliceAt.elt hp.users (fun _=>rfl) (by decide) hy hlt;have hcf:A9 p m=OO p.roles.length p.bf.length p.cats.length ((p.users.take m).map (·.name)) y:=by unfold A9;rw[hy]
 have out:∀ v:Int,OO p.roles.length p.bf.length p.cats.length ((p.users.take m).map (·.name)) y=v→v≠0→aJ (A9 p) p.users.length 0=v:=fun v h1 h2=>by rw[hinv,cL hlt (by rw[hcf,h1];exact h2),hcf,h1]
 unfold OO at hcf out;refine lb 0<|an rfl<|ia<|an ⟨e,rfl,hlt⟩<|lc<|an (dH M.below hc)<|ei<|an aad fun g2 w2 M2=>lb 0<|an ⟨rfl,rfl⟩ fun w3 M3=>lb 0<|an rfl<|fun g3 w4 M4=>cl<|an (fE _ _ _ [y.name] ((p.users.take m).map (·.name)) (M4.slice 0 rfl rfl rfl (by simp[maxLen])) (je (M4.r 0 rfl) (by simp;omega) rfl) (by simpa using qB.name)) fun w5 M5=>an (fun h3 M=>⟨ri (out _ (if_neg (by simpa using h3)) (by simpa using h3)),M.below⟩) fun h3=>?_
 replace h3:bU [y.name] ((p.users.take m).map (·.name))=0:=by simpa using h3
 rw[if_pos h3] at hcf out;refine lb 1<|an rfl<|fun g4 w6 M6=>ap 0 id rfl (M6.slice 0 rfl rfl rfl (by simp[maxLen])) ⟨by unfold maxLen;omega,by omega⟩ fun v5 w7 M7=>lb 3<|an rfl<|lb 2<|an rfl<|cl<|an (jC _ _ _ _ _ _ _ _ _ _ _ _ _ _ _ _ _ _ p (hp.keep M7.below) hok y.roles qB.roles) fun w8 M8=>an (fun h4 M=>⟨ri (out 3 (if_pos (by simpa using h4)) (by decide)),M.below⟩) fun h4=>?_
 rw[if_neg (by simpa using h4)] at hcf out;refine lb 3<|an rfl<|lb 2<|an rfl<|cl<|an (wU _ _ _ _ _ _ _ _ _ _ _ _ _ _ _ _ _ _ p (hp.keep M8.below) y.rng qB.rng) fun w9 M9=>lb 3<|an (fun _=>rfl)<|lb 2<|an (fun _=>rfl)<|cl<|an (fun _=>xq _ _ _ _ _ _ _ _ _ _ _ _ _ _ _ _ _ _ p (hp.keep M9.below) y.dflt qB.dflt) fun rz nI=>lb 2<|an (fun _=>rfl)<|lb 2<|an (fun _=>rfl)<|cl<|an (fun _=>vu _ y.rng.high y.dflt qB.rng.high qB.dflt) fun Dp M11=>lb 2<|an (fun _=>rfl)<|lb 2<|an (fun _=>rfl)<|cl<|an (fun _=>vu _ y.dflt y.rng.low qB.dflt qB.rng.low) fun Ie EW=>an (fun h5 M=>⟨ri (out 18 ?_ (by decide)),M.below⟩) fun h5=>an (by omega)<|bk (m+1,v5) ⟨rfl,rfl,trivial⟩ (fun M=>⟨(M.only (.cons _ (.cons _ (.cons _ (.refl _)))) (.refl _)).cast rfl (by dsimp only;rw[rF hy]),by omega,hinv.trans (bS hlt ?_)⟩) (by dsimp only;omega)
 all_goals first|(rw[hcf];clear hcf out)|clear hcf out
 all_goals cases h6:tg p.bf.length p.cats.length y.rng<;>cases h7:xu p.bf.length p.cats.length y.dflt<;>cases h8:xX y.rng.high y.dflt<;>cases h9:xX y.dflt y.rng.low<;>simp_all
def SF(nU nR nT:Nat)(cl:List mI)(y:pF):Int:=
 if kO cl y.cls y.perms=false then 3 else if ¬ y.val=decide (y.perms=0) then 2 else gF nU nR nT y.val y.expr
def KE(p:aF)(i:Nat):Int:=match p.cons[i]? with
 | some y=>SF p.users.length p.roles.length p.types.length p.classes y
 | none=>0
def zm(p:aF):Int:=if 64<p.cons.length then 4 else aJ (KE p) p.cons.length 0
theorem zS(w:World)(c0 c1 c2 c3 c4 c5 c6 c7 c8 c9 aR aO aN aQ aM aL aP:Value)(p:aF)(hp:aK w c0 c1 c2 c3 c4 c5 c6 c7 c8 c9 aR aO aN aQ aM aL aP p)(hok:p.Ok):Calls Tryz.prog 49 #[.agg #[c0,c1,c2,c3,c4,c5,c6,c7,c8,c9,aR,aO,aN,aQ,aM,aL,aP]] w fun e w'=>e=.returned (.int .i64 (zm p))∧axq w.heap.size w w':=by
 obtain⟨_,_,_,_,_,_,_,_,_,_,_,_,_,_,_,_,_,_,_,_,_,_,_,_,_,_,_,_,_,_,_,_,_,_,rfl,rfl,rfl,rfl,rfl,rfl,rfl,rfl,rfl,rfl,rfl,rfl,rfl,rfl,rfl,rfl,rfl⟩:=hp.open;refine dD [] (fn:=Tryz.f49) Tryz.func49 rfl Tryz.ntmps49 rfl<|fun g1 w1 M1=>lb 0<|an rfl<|an (fun h M=>⟨ri (by unfold zm;rw[if_pos (by simp at h;omega)]),M.below⟩) fun h=>?_
 have hr:¬ 64<p.cons.length:=by simp at h;omega
 rw[show zm p=aJ (KE p) p.cons.length 0 from if_neg hr];refine lr (ι:=Nat) (fun m=>[(3,.int .i64 (m:Int))]) (fun m _=>m≤p.cons.length∧aJ (KE p) p.cons.length 0=aJ (KE p) (p.cons.length-m) m) (fun m=>p.cons.length-m) 0 (an ⟨⟨rfl,trivial⟩,fun M=>⟨M,axw _,by rw[Nat.sub_zero]⟩⟩ ?_);rintro m w2 M ⟨hm,hinv⟩;refine lb 0<|an rfl<|an (fun h2=>?_) fun h2 M=>⟨ri (by rw[hinv,show m=p.cons.length by simp at h2;omega,cI]),M.below⟩
 have hlt:m<p.cons.length:=by simp at h2;omega
 obtain⟨y,hy⟩:∃ y,p.cons[m]?=some y:=⟨_,axp hlt⟩;have qB:=hok.cons y (axx hy);obtain⟨b,o,_,e,⟨_,rfl,hE⟩,hc⟩:=aC.elt hp.cons (by decide) hy;obtain⟨nv,kv,rfl,hn,hk⟩:=hE.open;obtain⟨_,_,rfl,-⟩:=aU.get hn;obtain⟨_,_,rfl,-⟩:=aC.form hk (by decide);have hcf:KE p m=SF p.users.length p.roles.length p.types.length p.classes y:=by unfold KE;rw[hy]
 have out:∀ v:Int,SF p.users.length p.roles.length p.types.length p.classes y=v→v≠0→aJ (KE p) p.cons.length 0=v:=fun v h1 h2=>by rw[hinv,cL hlt (by rw[hcf,h1];exact h2),hcf,h1]
 unfold SF at hcf out;refine lb 0<|an rfl<|ia<|an ⟨e,rfl,hlt⟩<|lc<|an (dH M.below hc)<|ei<|an Qp fun g2 w2 M2=>lb 0<|an ⟨rfl,rfl⟩ fun w3 M3=>lb 1<|an rfl<|lb 0<|an rfl<|lb 0<|an rfl<|cl<|an (A8 _ _ _ _ _ _ _ _ _ _ _ _ _ _ _ _ _ _ p (hp.keep M3.below) y.cls y.perms qB.perms) fun w4 M4=>an (fun h3 M=>⟨ri (out 3 (if_pos (by simpa using h3)) (by decide)),M.below⟩) fun h3=>?_
 rw[if_neg (by simpa using h3)] at hcf out;refine lb 0<|an rfl<|lb 0<|an rfl<|an (fun h4 M=>⟨ri (out 2 (if_pos (by simpa using h4)) (by decide)),M.below⟩) fun h4=>?_
 rw[if_neg (by simpa using h4)] at hcf out;exact lb 1<|an rfl<|lb 0<|an rfl<|lb 0<|an rfl<|cl<|an (Dk y.expr qB.expr _ _ _ _ _ _ _ _ _ _ _ _ _ _ _ _ _ _ _ p (hp.keep M4.below) hok (hE.keep M4.below) y.val) fun w5 M5=>an (fun h5 M=>⟨ri (out _ rfl (by simpa using h5)),M.below⟩) fun h5=>an (by omega)<|bk (m+1) ⟨rfl,trivial⟩ (fun M=>⟨M.only (.cons _ (.refl _)) (.refl _),by omega,hinv.trans (bS hlt (by rw[hcf];simpa using h5))⟩) (by dsimp only;omega)
def oO(p:aF):Int:=
 if 16<p.bools.length then 4
 else if ¬ bU (p.bools.map (·.name)) []=0 then bU (p.bools.map (·.name)) []
 else if 16<p.bf.length then 4
 else if ¬ bU p.bf []=0 then bU p.bf []
 else if 64<p.cats.length then 4
 else bU p.cats []
theorem Mz(w:World)(c0 c1 c2 c3 c4 c5 c6 c7 c8 c9 aR aO aN aQ aM aL aP:Value)(p:aF)(hp:aK w c0 c1 c2 c3 c4 c5 c6 c7 c8 c9 aR aO aN aQ aM aL aP p)(hok:p.Ok):Calls Tryz.prog 45 #[.agg #[c0,c1,c2,c3,c4,c5,c6,c7,c8,c9,aR,aO,aN,aQ,aM,aL,aP]] w fun e w'=>e=.returned (.int .i64 (oO p))∧axq w.heap.size w w':=by
 obtain⟨_,_,_,_,_,_,_,_,_,_,_,_,_,_,_,_,_,_,_,_,_,_,_,_,_,_,_,_,_,_,_,_,_,_,rfl,rfl,rfl,rfl,rfl,rfl,rfl,rfl,rfl,rfl,rfl,rfl,rfl,rfl,rfl,rfl,rfl⟩:=hp.open;refine dD [] (fn:=Tryz.f45) Tryz.func45 rfl Tryz.ntmps45 rfl<|fun g1 w1 M1=>lb 0<|an rfl<|an (fun h M=>⟨ri (if_pos (by simp at h;omega)),M.below⟩) fun h=>?_
 have hr:¬ 16<p.bools.length:=by simp at h;omega
 refine lq (ι:=Nat×Value) (fun(m,u)=>[(3,u),(4,.int .i64 (m:Int))]) (fun(m,u)=>[⟨u,9,1,m,((p.bools.take m).map (·.name)).flatMap aX⟩]) (fun(m,u) _=>m≤p.bools.length) (fun(m,u)=>p.bools.length-m) (0,.slice none 0 0) (an ⟨⟨rfl,rfl,trivial⟩,fun M=>⟨M.bM 9 1,axw _⟩⟩ ?_);rintro⟨m,u⟩ w2 M hm;refine lb 0<|an rfl<|an (fun h2=>?_) fun h2=>?_
 ·have hlt:m<p.bools.length:=by simp at h2;omega
  obtain⟨y,hy⟩:∃ y,p.bools[m]?=some y:=⟨_,axp hlt⟩;obtain⟨b,o,e,hc⟩:=SliceAt.elt hp.bools (fun _=>rfl) (by decide) hy hlt;exact lb 0<|an rfl<|ia<|an ⟨e,rfl,hlt⟩<|lc<|an (dH M.below hc 0 _ rfl)<|fun g2 w2 M2=>ap 0 id rfl (M2.slice 0 rfl rfl rfl (by simp[maxLen])) ⟨by unfold maxLen;omega,by omega⟩ fun v3 w3 M3=>an (by omega)<|bk (m+1,v3) ⟨rfl,rfl,trivial⟩ (fun M=>⟨(M.only (.cons _ (.refl _)) (.refl _)).cast rfl (by dsimp only;rw[rF hy]),by omega⟩) (by dsimp only;omega)
 obtain rfl:m=p.bools.length:=by simp at h2;omega
 have hM:oO p=if ¬ bU (p.bools.map (·.name)) []=0 then bU (p.bools.map (·.name)) [] else if 16<p.bf.length then 4 else if ¬ bU p.bf []=0 then bU p.bf [] else if 64<p.cats.length then 4 else bU p.cats []:=if_neg hr
 refine cl<|an (fE _ _ _ (p.bools.map (·.name)) [] (je (M.r 0 rfl) (by simp) (by rw[axK])) (SliceAt.nil _ _) (fun s hs=>by obtain⟨y,hy,rfl⟩:=axJ.1 hs;exact(hok.bools y hy).name)) fun w4 M4=>an (fun h3 M=>⟨ri (by rw[hM,if_pos (by simpa using h3)]),M.below⟩) fun h3=>?_
 rw[if_neg (by simpa using h3)] at hM;refine lb 0<|an rfl<|an (fun h4 M=>⟨ri (by rw[hM,if_pos (by simp at h4;omega)]),M.below⟩) fun h4=>?_
 rw[if_neg (by simp at h4;omega)] at hM;refine lb 0<|an rfl<|cl<|an (fE _ _ _ p.bf [] (hp.bf.keep M4.below) (SliceAt.nil _ _) hok.bf) fun w5 M5=>an (fun h5 M=>⟨ri (by rw[hM,if_pos (by simpa using h5)]),M.below⟩) fun h5=>?_
 rw[if_neg (by simpa using h5)] at hM;refine lb 0<|an rfl<|an (fun h6 M=>⟨ri (by rw[hM,if_pos (by simp at h6;omega)]),M.below⟩) fun h6=>?_
 rw[if_neg (by simp at h6;omega)] at hM;exact lb 0<|an rfl<|cl<|an (fE _ _ _ p.cats [] (hp.cats.keep M5.below) (SliceAt.nil _ _) hok.cats) fun w6 M6 M=>⟨ri hM,M.below⟩
def qX(p:aF):Int:=
 if oW [ku p,p8 p,qv p]=0 then oW [wH p,oO p,jh p,qj p,fF p,zm p,jX p,qY p] else oW [ku p,p8 p,qv p]
theorem WA{w:World}{l:List Int}{n:Nat}{u:Value}{w0:World}(h:DZ w0 42 n (l.map iH) u w)(hn:n=l.length)(hm:l.length≤maxLen:=by simp[maxLen]):Calls Tryz.prog 40 #[u] w fun e w'=>e=.returned (.int .i64 (oW l))∧axq w.heap.size w w':=by
 subst hn;obtain⟨g,rfl,hW,-⟩:=h;exact(Sl _ _ l (SliceAt.BL hW (by simp) (by simp[iH,Value.oneCell']) hm)).mono fun _ _ ⟨h1,h2⟩=>⟨h1,h2▸Below.refl _ _⟩
theorem SL(w0:World)(c0 c1 c2 c3 c4 c5 c6 c7 c8 c9 aR aO aN aQ aM aL aP:Value)(p:aF)(hp:aK w0 c0 c1 c2 c3 c4 c5 c6 c7 c8 c9 aR aO aN aQ aM aL aP p)(hok:p.Ok)(jk:p.Few):Calls Tryz.prog 12 #[.agg #[c0,c1,c2,c3,c4,c5,c6,c7,c8,c9,aR,aO,aN,aQ,aM,aL,aP]] w0 (RI w0 (qX p)):=by
 refine dD [] (fn:=Tryz.f12) Tryz.func12 rfl Tryz.ntmps12 rfl<|fun g1 w1 M1=>dr (by kernel_rfl)<|lb 0<|an rfl<|cl<|an (fun w' hb M=>KG _ _ _ _ _ _ _ _ _ _ _ _ _ _ _ _ _ _ p (hp.keep M.below) hok)<|lb 0<|an rfl<|cl<|an (fun w' hb M=>QE _ _ _ _ _ _ _ _ _ _ _ _ _ _ _ _ _ _ p (hp.keep M.below) hok jk)<|lb 0<|an rfl<|cl<|an (fun w' hb M=>Q_ _ _ _ _ _ _ _ _ _ _ _ _ _ _ _ _ _ _ p (hp.keep M.below) hok)<|br (DZ w1 42 3 ([ku p,p8 p,qv p].map iH))<|an lY<|an (fun w1 a o' hb M' hop oF=>bK (p:=fun _=>True) (kk:=1) (b:=8) (by kernel_rfl) rfl rfl (by decide) (by decide) (by simp[Value.cells]) rfl w1 a o' hb trivial hop oF)<|cu<|an (fun u _ w' hb' M' hR=>WA hR rfl)<|fun w2 hb2 M2=>an (fun h M=>⟨ri (if_neg (by simpa using h)),M.below⟩) fun h=>?_
 rw[show qX p=oW [wH p,oO p,jh p,qj p,fF p,zm p,jX p,qY p] from if_pos (by simpa using h)];exact dr (by kernel_rfl)<|lb 0<|an rfl<|cl<|an (fun w' hb M=>QC _ _ _ _ _ _ _ _ _ _ _ _ _ _ _ _ _ _ p (hp.keep M.below) hok)<|lb 0<|an rfl<|cl<|an (fun w' hb M=>Mz _ _ _ _ _ _ _ _ _ _ _ _ _ _ _ _ _ _ p (hp.keep M.below) hok)<|lb 0<|an rfl<|cl<|an (fun w' hb M=>Q6 _ _ _ _ _ _ _ _ _ _ _ _ _ _ _ _ _ _ p (hp.keep M.below) hok)<|lb 0<|an rfl<|cl<|an (fun w' hb M=>QF _ _ _ _ _ _ _ _ _ _ _ _ _ _ _ _ _ _ p (hp.keep M.below) hok)<|lb 0<|an rfl<|cl<|an (fun w' hb M=>KI _ _ _ _ _ _ _ _ _ _ _ _ _ _ _ _ _ _ p (hp.keep M.below) hok)<|lb 0<|an rfl<|cl<|an (fun w' hb M=>zS _ _ _ _ _ _ _ _ _ _ _ _ _ _ _ _ _ _ p (hp.keep M.below) hok)<|lb 0<|an rfl<|cl<|an (fun w' hb M=>Ng _ _ _ _ _ _ _ _ _ _ _ _ _ _ _ _ _ _ p (hp.keep M.below) hok)<|lb 0<|an rfl<|cl<|an (fun w' hb M=>KR _ _ _ _ _ _ _ _ _ _ _ _ _ _ _ _ _ _ p (hp.keep M.below) hok)<|br (DZ w2 42 8 ([wH p,oO p,jh p,qj p,fF p,zm p,jX p,qY p].map iH))<|an lY<|an (fun w1 a o' hb M' hop oF=>bK (p:=fun _=>True) (kk:=1) (b:=8) (by kernel_rfl) rfl rfl (by decide) (by decide) (by simp[Value.cells]) rfl w1 a o' hb trivial hop oF)<|cu<|an (fun u _ w' hb' M' hR=>WA hR rfl)<|fun w3 sG M3 M=>⟨rfl,M.below⟩
structure Tm (p:aF):Prop where
 small:p.Dg
 rules:p.rules.length≤20
 bools:p.bools.length≤4
 check:qX p=0
theorem F7(w0:World)(c0 c1 c2 c3 c4 c5 c6 c7 c8 c9 aR aO aN aQ aM aL aP:Value)(p:aF)(hp:aK w0 c0 c1 c2 c3 c4 c5 c6 c7 c8 c9 aR aO aN aQ aM aL aP p)(hok:p.Ok):Calls Tryz.prog 20 #[.agg #[c0,c1,c2,c3,c4,c5,c6,c7,c8,c9,aR,aO,aN,aQ,aM,aL,aP]] w0 (fun(e:Ending) (w':World)=>∃ v,e=.returned v∧((∃ b:Bool,v=.bool b∧(b=true→Tm p))∧axq w0.heap.size w0 w')):=by
 obtain⟨_,_,_,_,_,_,_,_,_,_,_,_,_,_,_,_,_,_,_,_,_,_,_,_,_,_,_,_,_,_,_,_,_,_,rfl,rfl,rfl,rfl,rfl,rfl,rfl,rfl,rfl,rfl,rfl,rfl,rfl,rfl,rfl,rfl,rfl⟩:=hp.open;refine dD [] (fn:=Tryz.f20) Tryz.func20 rfl Tryz.ntmps20 rfl<|fun g1 w1 M1=>lb 0<|an rfl<|cg<|an (QV _ _ _ _ _ _ _ _ _ _ _ _ _ _ _ _ _ _ p (hp.keep M1.below) hok) fun v w2 ⟨b1,hv,afD,hB⟩=>⟨_,_,M1.keep hB,?_⟩
 subst hv;have M2:=M1.keep hB;refine lb 0<|an (fun _=>rfl)<|lb 0<|an (fun _=>rfl)<|lb 0<|an (fun _=>rfl)<|cg (R:=fun v w'=>(∃ x:Int,v=.int .i64 x∧(b1=true→x=qX p))∧axq w2.heap.size w2 w')<|an (fun h=>?_)<|an (fun h=>⟨.int .i64 (qX p),⟨_,rfl,fun _=>rfl⟩,axq.refl _ _⟩) fun v w3 hR=>⟨_,_,M2.keep hR.2,?_⟩
 ·simp only[axC] at h;exact(SL _ _ _ _ _ _ _ _ _ _ _ _ _ _ _ _ _ _ p (hp.keep M2.below) hok (afD h.1.1).few).mono fun _ _ ⟨e,hb⟩=>⟨_,e,⟨_,rfl,fun _=>rfl⟩,hb⟩
 obtain⟨⟨x,rfl,hx⟩,-⟩:=hR;refine fun M=>⟨_,rfl,⟨_,rfl,fun h=>?_⟩,M.below⟩
 simp only[axC,decide_eq_true_eq] at h;obtain⟨⟨⟨h1,h2⟩,h3⟩,h4⟩:=h;exact⟨afD h1,by omega,by omega,by rw[← hx h1];exact h4⟩
theorem Xp{x y i:Nat}(hy:y<18446744073709551616)(hi:i<64):(rX x y).testBit i=(x.testBit i&&!y.testBit i):=by
 unfold rX;rw[Nat.testBit_and,show 18446744073709551615-y=2^64-(y+1) by omega,Nat.testBit_two_pow_sub_succ (by simpa using hy),decide_eq_true hi,Bool.true_and]
theorem RE{a b:ay}(hb:b.Ok){k:Nat}(hk:k<256):(a.minus b).has k=(a.has k&&!b.has k):=by
 unfold ay.has;rw[ay.AV a b (by omega),Xp (ay.iJ hb _) (Nat.mod_lt _ (by decide))]
theorem KV{k:Nat}(hk:k<256):∀ n,n≤256→(yp n).has k=decide (k<n)
 | 0,_=>by rw[yp,ay.J_];rfl
 | n+1,h=>by
  have e:(yp (n+1))=(yp n).add n:=by
   rw[yp]
   unfold ay.with
   rw[if_pos ⟨by omega,by omega⟩,Int.toNat_natCast]
  rw[e,ay.has_add _ (by omega) hk,KV hk n (by omega),← Bool.decide_or];exact decide_eq_decide.2 (by omega)
theorem D3{a:ay}{T k:Nat}(h:a.within (ay.all T)=true)(hT:T≤256)(hk:k<256)(ha:a.has k=true):k<T:=by
 unfold ay.within at h;have h2:=of_decide_eq_true h;have h3:=RE (a:=a) (b:=ay.all T) (C_ T) hk;rw[h2,ay.J_,ha] at h3;unfold ay.all at h3;rw[Nat.min_eq_left hT,KV hk T hT] at h3;by_cases hlt:k<T
 ·exact hlt
 ·rw[decide_eq_false hlt] at h3;cases h3
theorem Rj{r:aj}{T:Nat}(hT:T≤256)(h1:r.src.within (ay.all T)=true)(h2:r.tgt.within (ay.all T)=true):∀ p∈r.pairs,p.1<T∧p.2<T:=fun p hp=>by
 obtain⟨hs,ht⟩:=iT hp;obtain⟨h3,h4⟩:=(bX (r:=r) (s:=p.1) (o:=p.2) hs ht).1 hp;have ha:=D3 h1 hT hs h3;refine⟨ha,?_⟩;rw[Bool.or_eq_true,axC,decide_eq_true_eq] at h4;rcases h4 with h4|⟨-,h4⟩
 ·exact D3 h2 hT ht h4
 ·omega
theorem KC{n:Nat}:∀ e:aA,kM n e=0→nj n e
 | .node op a rel b names set kids,h=>by
  have ih:∀ k∈kids,kM n k=0→nj n k:=fun k hk=>KC k
  rw[qV] at h
  cases hb:kW (.node op a rel b names set kids) with
  | true=>rw[hb] at h;simp at h
  | false=>
   rw[hb,if_neg (by decide)] at h
   cases h1:(decide (op=1)&&!bA a (n:Int)) with
   | true=>rw[show(decide ((aA.node op a rel b names set kids).op=1)&&!bA (aA.node op a rel b names set kids).a (n:Int))=true from h1] at h;simp at h
   | false=>
    rw[show(decide ((aA.node op a rel b names set kids).op=1)&&!bA (aA.node op a rel b names set kids).a (n:Int))=false from h1,if_neg (by decide)] at h;replace h:mw n kids=0:=h;unfold kW at hb;simp only[Bool.or_eq_false_iff,decide_eq_false_iff_not,Bool.not_eq_false',decide_eq_true_eq,aA.op,aA.kids] at hb;have hop:¬ op=8∧¬ op=9:=⟨of_decide_eq_false hb.1.1.1.1.1.1.1,of_decide_eq_false hb.1.1.1.1.1.1.2⟩;have hkl:ou op=(kids.length:Int):=of_decide_eq_true hb.1.1.1.1.1.2
    have two:3≤op→op≤7→nj n (.node op a rel b names set kids):=fun h3 h7=>by
     have hk2:ou op=2:=by
      have e:op=3∨op=4∨op=5∨op=6∨op=7:=by omega
      rcases e with rfl|rfl|rfl|rfl|rfl<;>rfl
     rw[hk2] at hkl
     match kids,h,hkl,ih with
     | [k,l],h,_,ih=>
      unfold mw at h;split at h
      ·rename_i hk;unfold mw at h;split at h
       ·rename_i hl;exact .bin h3 h7 (ih k (by simp) hk) (ih l (by simp) hl)
       ·rename_i hl;exact absurd h hl
      ·rename_i hk;exact absurd h hk
    by_cases e1:op=1
    ·subst e1;have hk0:kids=[]:=List.eq_nil_of_length_eq_zero (by have:ou 1=0:=rfl;omega);subst hk0;rw[decide_eq_true rfl,Bool.true_and,Bool.not_eq_false'] at h1;unfold bA at h1;rw[axC,decide_eq_true_eq,decide_eq_true_eq] at h1;exact .bool h1.1 h1.2
    by_cases e2:op=2
    ·subst e2;have hk1:ou 2=1:=rfl;rw[hk1] at hkl
     match kids,h,hkl,ih with
     | [k],h,_,ih=>
      unfold mw at h;split at h
      ·rename_i hk;exact .not (ih k (by simp) hk)
      ·rename_i hk;exact absurd h hk
    by_cases e3:3≤op∧op≤7
    ·exact two e3.1 e3.2
    exfalso
    have hm:ou op<0:=by
     unfold ou;rw[if_neg e1,if_neg hop.1,if_neg hop.2,if_neg e2,if_neg (by omega),if_neg (by omega),if_neg (by omega),if_neg (by omega),if_neg (by omega)];decide
    omega
 termination_by e=>SizeOf.sizeOf e
 decreasing_by
  have:=List.sizeOf_lt_of_mem hk;simp only[aA.node.sizeOf_spec];omega
theorem CG{p:aF}(h:Tm p)(hok:p.Ok):pO p∧vM p:=by
 have hc:=h.check;unfold qX at hc;split at hc
 case isFalse hne=>exact absurd hc hne
 rw[qI] at hc;have hr:jh p=0:=hc _ (by simp);have ht:qj p=0:=hc _ (by simp);have hT:p.types.length≤256:=axv h.small.sizes.types (by decide);have hCl:p.classes.length≤256:=axv h.small.sizes.classes (by decide);unfold jh at hr;split at hr
 ·cases hr
 split at hr
 case isFalse _ hne=>exact absurd hr hne
 rename_i _ ze;split at hr
 ·cases hr
 rw[iW] at hr ze
 have R:∀ r∈p.rules,Ef p.types.length p.conds.length p.classes r=0:=fun r hr'=>by
  obtain⟨i,hi⟩:=List.getElem?_of_mem hr';have:=hr i (axw _) (by have:=(axo.1 hi).1;omega);unfold yP at this
  rwa [hi] at this
 have C:∀ e∈p.conds,nj p.bools.length e:=fun e he=>by
  obtain⟨i,hi⟩:=List.getElem?_of_mem he;have:=ze i (axw _) (by have:=(axo.1 hi).1;omega);unfold mY at this;rw[hi] at this;replace this:eU p.bools.length e=0:=this;unfold eU at this;split at this
  ·cases this
  ·exact KC e this
 have RD:∀ r∈p.rules,RV p.types.length p.classes.length r∧(r.kind=4→r.cond=0)∧-(p.conds.length:Int)≤r.cond∧r.cond≤p.conds.length:=fun r hr'=>by
  have h0:=R r hr';unfold Ef at h0;split at h0
  ·cases h0
  rename_i k1;split at h0
  ·cases h0
  rename_i k4;split at h0
  ·cases h0
  rename_i ho;split at h0
  ·cases h0
  rename_i ha;simp only[Bool.not_eq_true] at ho ha;unfold Ad at ho;unfold Fz at ha;simp only[Bool.or_eq_false_iff,Bool.not_eq_false'] at ho ha;obtain⟨⟨⟨o1,o2⟩,o3⟩,o4⟩:=ho
  have hcls:0≤r.cls∧r.cls<p.classes.length:=by
   cases hb:bA r.cls (p.classes.length:Int) with
   | false=>rw[yF hb] at o3;cases o3
   | true=>unfold bA at hb;simpa using hb
  unfold vA at o4;rw[axC,decide_eq_true_eq,decide_eq_true_eq] at o4;refine⟨⟨⟨by omega,by omega⟩,hcls,(hok.rules r hr').perms,Rj hT o1 o2⟩,fun h4=>?_,o4⟩;have:=ha.2;rw[h4] at this;simpa using this
 have TD:∀ y∈p.trans,-(p.conds.length:Int)≤y.cond∧y.cond≤p.conds.length:=fun y hy=>by
  unfold qj at ht;split at ht
  case isFalse=>cases ht
  rw[iW] at ht;obtain⟨i,hi⟩:=List.getElem?_of_mem hy;have h0:=ht i (axw _) (by have:=(axo.1 hi).1;omega);unfold yH at h0;rw[hi] at h0;replace h0:D8 p.types.length p.classes.length p.conds.length y=0:=h0;unfold D8 at h0
  cases hb:vA p.conds.length y.cond with
  | true=>
   unfold vA at hb
   rwa [axC,decide_eq_true_eq,decide_eq_true_eq] at hb
  | false=>
   rw[hb,if_pos rfl] at h0
   repeat' (split at h0;·cases h0)
   cases h0
 exact⟨⟨axv h.bools (by decide),fun r hr'=>(RD r hr').1,fun r hr'=>(RD r hr').2.1,C,fun r hr'=>(RD r hr').2.2,TD⟩,axv h.bools (by decide),axv h.small.sizes.conds (by decide),hT,hCl,fun r hr'=>⟨(RD r hr').1,hok.rules r hr'⟩⟩
theorem Nj(w0:World):Calls Tryz.prog 128 #[] w0 (fun(r:Ending) (w':World)=>r=.returned (.agg #[.int .i64 0,.int .i64 1,.int .i64 0,.int .i64 0,.int .u64 0,.int .i64 0,.int .u64 0])∧axq w0.heap.size w0 w'):=by
 have bJ:=hrC Tryz.prog Tryz.f128 (fun(r:Ending) (w':World)=>r=.returned (.agg #[.int .i64 0,.int .i64 1,.int .i64 0,.int .i64 0,.int .u64 0,.int .i64 0,.int .u64 0])∧axq w0.heap.size w0 w') 2 0 74 rfl u74 rfl Ye;refine en Tryz.func128 rfl Tryz.ntmps128 rfl (vs:=[]) rfl fun _ F=>?_
 have M:=Mm.start w0;refine axr fun K1 gU=>ah<|JU (on rfl) rfl aez rfl F rfl M fun g1 _ _ F M=>axt<|gU _ _ ?_
 refine axr fun K2 iy=>ah<|
  kz F rf (vm rfl (pv:=#[(1,.int .i64 1),(2,.int .i64 0)]) (by simp[BigFrame.eval_const]) (cells:=#[.int .i64 0,.int .i64 1,.int .i64 0,.int .i64 0,.int .u64 0,.int .i64 0,.int .u64 0]) (by kernel_rfl)) fun _ F=>
  Ld (on rfl) rfl (F.u rf) (F.u rf) F M 0 rfl Ye rfl rfl rfl fun _ M=>
  axt<|
  iy _ _ ?_
 refine wp_ret<|bJ _ _ _ _ _ _ F rfl (M.b 0 rfl) rfl ?_;exact⟨rfl,M.below⟩
theorem CF(w0:World):Calls Tryz.prog 129 #[] w0 (fun(r:Ending) (w':World)=>r=.returned (.agg #[.int .i64 0,.int .i64 0,.int .i64 2,.int .i64 0,.int .u64 0,.int .i64 0,.int .u64 0])∧axq w0.heap.size w0 w'):=by
 have bJ:=hrC Tryz.prog Tryz.f129 (fun(r:Ending) (w':World)=>r=.returned (.agg #[.int .i64 0,.int .i64 0,.int .i64 2,.int .i64 0,.int .u64 0,.int .i64 0,.int .u64 0])∧axq w0.heap.size w0 w') 2 0 74 rfl u74 rfl Ye;refine en Tryz.func129 rfl Tryz.ntmps129 rfl (vs:=[]) rfl fun _ F=>?_
 have M:=Mm.start w0;refine axr fun K1 gU=>ah<|JU (on rfl) rfl aez rfl F rfl M fun g1 _ _ F M=>axt<|gU _ _ ?_
 refine axr fun K2 iy=>ah<|
  kz F rf (vm rfl (pv:=#[(2,.int .i64 2)]) (by simp[BigFrame.eval_const]) (cells:=#[.int .i64 0,.int .i64 0,.int .i64 2,.int .i64 0,.int .u64 0,.int .i64 0,.int .u64 0]) (by kernel_rfl)) fun _ F=>
  Ld (on rfl) rfl (F.u rf) (F.u rf) F M 0 rfl Ye rfl rfl rfl fun _ M=>
  axt<|
  iy _ _ ?_
 refine wp_ret<|bJ _ _ _ _ _ _ F rfl (M.b 0 rfl) rfl ?_;exact⟨rfl,M.below⟩
theorem uD{w0 w:World}{B:Nat}{bs:List Bx}{rs:List Rw}(M:aW B w0 w bs rs)(i:Nat){l:List Int}{x:Int}{g:Nat}{t:TypeId}(hb:bs[i]?=some (g,t,(l.flatMap anyI).toArray))(hx:L7 l=x)(hl:∀ y∈l,0≤y∧y<64:=by simp)(hn:l.length≤100:=by decide)(ht:Nat.blt t 9000=true:=by rfl):
 Calls Tryz.prog 127 #[.slice (some ⟨g,0,none⟩) l.length l.length] w fun r w'=>r=.returned (.agg #[.int .u64 x,.int .u64 0,.int .u64 0,.int .u64 0])∧axq w.heap.size w w':=by
 subst hx
 have hlen:(l.flatMap anyI).length=l.length*1:=by
  clear hb hl hn
  induction l with
  | nil=>rfl
  | cons x r ih=>rw[List.flatMap_cons,axA,ih,List.length_cons];simp[anyI];omega
 refine Ym w _ l (M.slice i hb (by simpa using hlen) ?_ (by unfold maxLen;omega) ht) hl;rw[axM];intro u hu;obtain⟨y,-,hy⟩:=List.mem_flatMap.1 (by simpa using hu);simp only[anyI,axz] at hy;rw[hy];rfl
def Both{α:Type}(R:List Value→α→Prop):List (List Value)→List α→Prop
 | [],[]=>True
 | x::r,y::s=>R x y∧Both R r s
 | _,_=>False
theorem O6{α:Type}{R:List Value→α→Prop}:∀ {es:List (List Value)} {l:List α},Both R es l→∀ (i:Nat) x y,es[i]?=some x→l[i]?=some y→R x y
 | [],_,_,i,x,y,h,_=>by simp at h
 | x::r,[],h,_,_,_,_,_=>h.elim
 | x::r,y::s,h,0,_,_,h1,h2=>by simp at h1 h2;rw[← h1,← h2];exact h.1
 | x::r,y::s,h,i+1,_,_,h1,h2=>O6 h.2 i _ _ (by simpa using h1) (by simpa using h2)
theorem YO{α:Type}{k:Nat}{R:List Value→α→Prop}{w:World}:aC k R w (.slice none 0 0) []:=⟨[],rfl,by simp,SliceAt.nil _ k,by simp⟩
def Ac:aF:={
 classes:=[⟨⟨#[112,114,111,99,101,115,115]⟩,[⟨#[102,111,114,107]⟩,⟨#[116,114,97,110,115,105,116,105,111,110]⟩,⟨#[100,121,110,116,114,97,110,115,105,116,105,111,110]⟩,⟨#[115,101,110,100]⟩]⟩,⟨⟨#[102,105,108,101]⟩,[⟨#[114,101,97,100]⟩,⟨#[119,114,105,116,101]⟩,⟨#[99,114,101,97,116,101]⟩,⟨#[117,110,108,105,110,107]⟩,⟨#[101,120,101,99,117,116,101]⟩,⟨#[101,110,116,114,121,112,111,105,110,116]⟩,⟨#[114,101,108,97,98,101,108,102,114,111,109]⟩,⟨#[114,101,108,97,98,101,108,116,111]⟩]⟩,⟨⟨#[100,105,114]⟩,[⟨#[114,101,97,100]⟩,⟨#[119,114,105,116,101]⟩,⟨#[99,114,101,97,116,101]⟩,⟨#[117,110,108,105,110,107]⟩,⟨#[97,100,100]⟩,⟨#[114,101,109,111,118,101]⟩,⟨#[114,101,108,97,98,101,108,102,114,111,109]⟩,⟨#[114,101,108,97,98,101,108,116,111]⟩]⟩],
 types:=[⟨⟨#[105,110,105,116,95,116]⟩,[],false⟩,⟨⟨#[117,115,101,114,95,116]⟩,[],false⟩,⟨⟨#[102,105,108,101,95,116]⟩,[],false⟩,⟨⟨#[115,104,101,108,108,95,116]⟩,[],false⟩],
 attrs:=[⟨⟨#[100,111,109,97,105,110]⟩,⟨3,0,0,0⟩⟩],
 roles:=[⟨⟨#[111,98,106,101,99,116,95,114]⟩,⟨0,0,0,0⟩,⟨0,0,0,0⟩⟩,⟨⟨#[115,121,115,116,101,109]⟩,⟨3,0,0,0⟩,⟨0,0,0,0⟩⟩],
 users:=[⟨⟨#[114,111,111,116]⟩,⟨2,0,0,0⟩,⟨0,0⟩,⟨⟨0,0⟩,⟨0,0⟩⟩⟩],
 bools:=[⟨⟨#[115,104,97,114,101]⟩,false⟩],
 bf:=[⟨#[115,48]⟩],
 cats:=[],
 conds:=[.node 1 0 0 0 [] ⟨0,0,0,0⟩ []],
 rules:=[⟨1,⟨3,0,0,0⟩,⟨0,0,0,0⟩,true,0,9,0⟩,⟨1,⟨1,0,0,0⟩,⟨12,0,0,0⟩,false,1,17,0⟩,⟨1,⟨1,0,0,0⟩,⟨2,0,0,0⟩,false,0,2,0⟩,⟨1,⟨2,0,0,0⟩,⟨8,0,0,0⟩,false,1,32,0⟩,⟨1,⟨2,0,0,0⟩,⟨4,0,0,0⟩,false,1,1,1⟩],
 trans:=[⟨1,⟨1,0,0,0⟩,⟨8,0,0,0⟩,0,ByteArray.empty,1,0⟩],
 aT:=[],
 ranges:=[],
 cons:=[],
 bL:=[⟨⟨#[107,101,114,110,101,108]⟩,⟨0,1,0,⟨⟨0,0⟩,⟨0,0⟩⟩⟩⟩,⟨⟨#[114,111,111,116]⟩,⟨0,0,2,⟨⟨0,0⟩,⟨0,0⟩⟩⟩⟩,⟨⟨#[117,110,108,97,98,101,108,101,100]⟩,⟨0,0,2,⟨⟨0,0⟩,⟨0,0⟩⟩⟩⟩],
 files:=[],
 asserts:=[] }
def SB(g2 g3 g4 g5 g6 g9 g12 g15 g16 g17 g18 XO XM XL:Nat):List Bx:=[(XL,125,#[.string (⟨#[107,101,114,110,101,108]⟩),.int .i64 0,.int .i64 1,.int .i64 0,.int .i64 0,.int .u64 0,.int .i64 0,.int .u64 0,.string (⟨#[114,111,111,116]⟩),.int .i64 0,.int .i64 0,.int .i64 2,.int .i64 0,.int .u64 0,.int .i64 0,.int .u64 0,.string (⟨#[117,110,108,97,98,101,108,101,100]⟩),.int .i64 0,.int .i64 0,.int .i64 2,.int .i64 0,.int .u64 0,.int .i64 0,.int .u64 0]),
 (XM,84,#[.int .i64 1,.int .u64 1,.int .u64 0,.int .u64 0,.int .u64 0,.int .u64 8,.int .u64 0,.int .u64 0,.int .u64 0,.int .i64 0,.string ByteArray.empty,.int .i64 1,.int .i64 0]),
 (XO,56,#[.int .i64 1,.int .u64 3,.int .u64 0,.int .u64 0,.int .u64 0,.int .u64 0,.int .u64 0,.int .u64 0,.int .u64 0,.bool true,.int .i64 0,.int .u32 9,.int .i64 0,.int .i64 1,.int .u64 1,.int .u64 0,.int .u64 0,.int .u64 0,.int .u64 12,.int .u64 0,.int .u64 0,.int .u64 0,.bool false,.int .i64 1,.int .u32 17,.int .i64 0,.int .i64 1,.int .u64 1,.int .u64 0,.int .u64 0,.int .u64 0,.int .u64 2,.int .u64 0,.int .u64 0,.int .u64 0,.bool false,.int .i64 0,.int .u32 2,.int .i64 0,.int .i64 1,.int .u64 2,.int .u64 0,.int .u64 0,.int .u64 0,.int .u64 8,.int .u64 0,.int .u64 0,.int .u64 0,.bool false,.int .i64 1,.int .u32 32,.int .i64 0,.int .i64 1,.int .u64 2,.int .u64 0,.int .u64 0,.int .u64 0,.int .u64 4,.int .u64 0,.int .u64 0,.int .u64 0,.bool false,.int .i64 1,.int .u32 1,.int .i64 1]),
 (g18,89,#[.int .i64 1,.int .i64 0,.int .i64 0,.int .i64 0,.slice none 0 0,.int .u64 0,.int .u64 0,.int .u64 0,.int .u64 0,.slice none 0 0]),
 (g17,9,#[.string (⟨#[115,48]⟩)]),
 (g16,197,#[.string (⟨#[115,104,97,114,101]⟩),.bool false]),
 (g15,192,#[.string (⟨#[114,111,111,116]⟩),.int .u64 2,.int .u64 0,.int .u64 0,.int .u64 0,.int .i64 0,.int .u64 0,.int .i64 0,.int .u64 0,.int .i64 0,.int .u64 0]),
 (g12,188,#[.string (⟨#[111,98,106,101,99,116,95,114]⟩),.int .u64 0,.int .u64 0,.int .u64 0,.int .u64 0,.int .u64 0,.int .u64 0,.int .u64 0,.int .u64 0,.string (⟨#[115,121,115,116,101,109]⟩),.int .u64 3,.int .u64 0,.int .u64 0,.int .u64 0,.int .u64 0,.int .u64 0,.int .u64 0,.int .u64 0]),
 (g9,184,#[.string (⟨#[100,111,109,97,105,110]⟩),.int .u64 3,.int .u64 0,.int .u64 0,.int .u64 0]),
 (g6,86,#[.string (⟨#[105,110,105,116,95,116]⟩),.slice none 0 0,.bool false,.string (⟨#[117,115,101,114,95,116]⟩),.slice none 0 0,.bool false,.string (⟨#[102,105,108,101,95,116]⟩),.slice none 0 0,.bool false,.string (⟨#[115,104,101,108,108,95,116]⟩),.slice none 0 0,.bool false]),
 (g5,180,#[.string (⟨#[112,114,111,99,101,115,115]⟩),.slice (some ⟨g4,0,none⟩) 4 4,.string (⟨#[102,105,108,101]⟩),.slice (some ⟨g2,0,none⟩) 8 8,.string (⟨#[100,105,114]⟩),.slice (some ⟨g3,0,none⟩) 8 8]),
 (g4,9,#[.string (⟨#[102,111,114,107]⟩),.string (⟨#[116,114,97,110,115,105,116,105,111,110]⟩),.string (⟨#[100,121,110,116,114,97,110,115,105,116,105,111,110]⟩),.string (⟨#[115,101,110,100]⟩)]),
 (g3,9,#[.string (⟨#[114,101,97,100]⟩),.string (⟨#[119,114,105,116,101]⟩),.string (⟨#[99,114,101,97,116,101]⟩),.string (⟨#[117,110,108,105,110,107]⟩),.string (⟨#[97,100,100]⟩),.string (⟨#[114,101,109,111,118,101]⟩),.string (⟨#[114,101,108,97,98,101,108,102,114,111,109]⟩),.string (⟨#[114,101,108,97,98,101,108,116,111]⟩)]),
 (g2,9,#[.string (⟨#[114,101,97,100]⟩),.string (⟨#[119,114,105,116,101]⟩),.string (⟨#[99,114,101,97,116,101]⟩),.string (⟨#[117,110,108,105,110,107]⟩),.string (⟨#[101,120,101,99,117,116,101]⟩),.string (⟨#[101,110,116,114,121,112,111,105,110,116]⟩),.string (⟨#[114,101,108,97,98,101,108,102,114,111,109]⟩),.string (⟨#[114,101,108,97,98,101,108,116,111]⟩)])]
theorem Ma{B:Nat}{w0 w:World}{rs:List Rw}{g2 g3 g4 g5 g6 g9 g12 g15 g16 g17 g18 XO XM XL:Nat}(M:aW B w0 w (SB g2 g3 g4 g5 g6 g9 g12 g15 g16 g17 g18 XO XM XL) rs):aK w (.slice (some ⟨g5,0,none⟩) 3 3) (.slice (some ⟨g6,0,none⟩) 4 4) (.slice (some ⟨g9,0,none⟩) 1 1) (.slice (some ⟨g12,0,none⟩) 2 2) (.slice (some ⟨g15,0,none⟩) 1 1) (.slice (some ⟨g16,0,none⟩) 1 1) (.slice (some ⟨g17,0,none⟩) 1 1) (.slice none 0 0) (.slice (some ⟨g18,0,none⟩) 1 1) (.slice (some ⟨XO,0,none⟩) 5 5) (.slice (some ⟨XM,0,none⟩) 1 1) (.slice none 0 0) (.slice none 0 0) (.slice none 0 0) (.slice (some ⟨XL,0,none⟩) 3 3) (.slice none 0 0) (.slice none 0 0) Ac:=
 ⟨⟨[[.string (⟨#[112,114,111,99,101,115,115]⟩),.slice (some ⟨g4,0,none⟩) 4 4],[.string (⟨#[102,105,108,101]⟩),.slice (some ⟨g2,0,none⟩) 8 8],[.string (⟨#[100,105,114]⟩),.slice (some ⟨g3,0,none⟩) 8 8]],rfl,by simp,(M.slice 10 rfl rfl rfl (by simp[maxLen])),O6 ⟨⟨_,rfl,(M.slice 11 rfl rfl rfl (by simp[maxLen]))⟩,⟨_,rfl,(M.slice 13 rfl rfl rfl (by simp[maxLen]))⟩,⟨_,rfl,(M.slice 12 rfl rfl rfl (by simp[maxLen]))⟩,trivial⟩⟩,
  ⟨[[.string (⟨#[105,110,105,116,95,116]⟩),.slice none 0 0,.bool false],[.string (⟨#[117,115,101,114,95,116]⟩),.slice none 0 0,.bool false],[.string (⟨#[102,105,108,101,95,116]⟩),.slice none 0 0,.bool false],[.string (⟨#[115,104,101,108,108,95,116]⟩),.slice none 0 0,.bool false]],rfl,by simp,(M.slice 9 rfl rfl rfl (by simp[maxLen])),O6 ⟨⟨_,rfl,(SliceAt.nil _ 1)⟩,⟨_,rfl,(SliceAt.nil _ 1)⟩,⟨_,rfl,(SliceAt.nil _ 1)⟩,⟨_,rfl,(SliceAt.nil _ 1)⟩,trivial⟩⟩,
  (M.slice 8 rfl rfl rfl (by simp[maxLen])),
  (M.slice 7 rfl rfl rfl (by simp[maxLen])),
  (M.slice 6 rfl rfl rfl (by simp[maxLen])),
  (M.slice 5 rfl rfl rfl (by simp[maxLen])),
  (M.slice 4 rfl rfl rfl (by simp[maxLen])),
  (SliceAt.nil _ 1),
  ⟨[[.int .i64 1,.int .i64 0,.int .i64 0,.int .i64 0,.slice none 0 0,.int .u64 0,.int .u64 0,.int .u64 0,.int .u64 0,.slice none 0 0]],rfl,by simp,(M.slice 3 rfl rfl rfl (by simp[maxLen])),O6 ⟨bB.node (names:=[]) (kids:=[]) (set:=⟨0,0,0,0⟩) (SliceAt.nil _ 1) (es:=[]) rfl (by simp) (SliceAt.nil _ 10) (by simp),trivial⟩⟩,
  (M.slice 2 rfl rfl rfl (by simp[maxLen])),
  (M.slice 1 rfl rfl rfl (by simp[maxLen])),
  (SliceAt.nil _ 10),
  (SliceAt.nil _ 13),
  YO,
  (M.slice 0 rfl rfl rfl (by simp[maxLen])),
  (SliceAt.nil _ 9),
  (SliceAt.nil _ 10)⟩
theorem Mb(w0:World):Calls Tryz.prog 65 #[] w0 fun r w'=>∃ v,r=.returned v∧∃ g2 g3 g4 g5 g6 g9 g12 g15 g16 g17 g18 XO XM XL:Nat,v=.agg #[.slice (some ⟨g5,0,none⟩) 3 3,.slice (some ⟨g6,0,none⟩) 4 4,.slice (some ⟨g9,0,none⟩) 1 1,.slice (some ⟨g12,0,none⟩) 2 2,.slice (some ⟨g15,0,none⟩) 1 1,.slice (some ⟨g16,0,none⟩) 1 1,.slice (some ⟨g17,0,none⟩) 1 1,.slice none 0 0,.slice (some ⟨g18,0,none⟩) 1 1,.slice (some ⟨XO,0,none⟩) 5 5,.slice (some ⟨XM,0,none⟩) 1 1,.slice none 0 0,.slice none 0 0,.slice none 0 0,.slice (some ⟨XL,0,none⟩) 3 3,.slice none 0 0,.slice none 0 0]∧aW w0.heap.size w0 w' (SB g2 g3 g4 g5 g6 g9 g12 g15 g16 g17 g18 XO XM XL) []:=by
 refine dD [] (fn:=Tryz.f65) Tryz.func65 rfl Tryz.ntmps65 rfl<|ei<|an lJ fun g1 w1 M1=>fun g2 w2 M2=>fun g3 w3 M3=>fun g4 w4 M4=>
  ei (x:=.agg #[.string (⟨#[112,114,111,99,101,115,115]⟩),.slice (some ⟨g4,0,none⟩) 4 4])<|an (bd (by kernel_rfl))<|
  ei (x:=.agg #[.string (⟨#[102,105,108,101]⟩),.slice (some ⟨g2,0,none⟩) 8 8])<|an (bd (by kernel_rfl))<|
  ei (x:=.agg #[.string (⟨#[100,105,114]⟩),.slice (some ⟨g3,0,none⟩) 8 8])<|an (bd (by kernel_rfl))<|
  fun g5 w5 M5=>
  ei (x:=.agg #[.string (⟨#[105,110,105,116,95,116]⟩),.slice none 0 0,.bool false])<|an (bd (by kernel_rfl))<|
  ei (x:=.agg #[.string (⟨#[117,115,101,114,95,116]⟩),.slice none 0 0,.bool false])<|an (bd (by kernel_rfl))<|
  ei (x:=.agg #[.string (⟨#[102,105,108,101,95,116]⟩),.slice none 0 0,.bool false])<|an (bd (by kernel_rfl))<|
  ei (x:=.agg #[.string (⟨#[115,104,101,108,108,95,116]⟩),.slice none 0 0,.bool false])<|an (bd (by kernel_rfl))<|
  fun g6 w6 M6=>
  fun g7 w7 M7=>
  cl<|an (uD M7 0 (l:=[0,1]) (x:=3) rfl rfl) fun w8 M8=>
  ei (x:=.agg #[.string (⟨#[100,111,109,97,105,110]⟩),.int .u64 3,.int .u64 0,.int .u64 0,.int .u64 0])<|an (bd (by kernel_rfl))<|
  fun g9 w9 M9=>
  ei (x:=.agg #[.string (⟨#[111,98,106,101,99,116,95,114]⟩),.int .u64 0,.int .u64 0,.int .u64 0,.int .u64 0,.int .u64 0,.int .u64 0,.int .u64 0,.int .u64 0])<|an (bd (by kernel_rfl))<|
  fun g10 rz nI=>
  cl<|an (uD nI 0 (l:=[0,1]) (x:=3) rfl rfl) fun Dp M11=>
  ei (x:=.agg #[.string (⟨#[115,121,115,116,101,109]⟩),.int .u64 3,.int .u64 0,.int .u64 0,.int .u64 0,.int .u64 0,.int .u64 0,.int .u64 0,.int .u64 0])<|an (bd (by kernel_rfl))<|
  fun g12 Ie EW=>
  fun g13 LK zC=>
  cl<|an (uD zC 0 (l:=[1]) (x:=2) rfl rfl) fun XH Lg=>
  ei (x:=.agg #[.string (⟨#[114,111,111,116]⟩),.int .u64 2,.int .u64 0,.int .u64 0,.int .u64 0,.int .i64 0,.int .u64 0,.int .i64 0,.int .u64 0,.int .i64 0,.int .u64 0])<|an (bd (by kernel_rfl))<|
  fun g15 Qz Ij=>
  ei (x:=.agg #[.string (⟨#[115,104,97,114,101]⟩),.bool false])<|an (bd (by kernel_rfl))<|
  fun g16 w16 Og=>
  fun g17 w17 Z6=>
  ei (x:=.agg #[.int .i64 1,.int .i64 0,.int .i64 0,.int .i64 0,.slice none 0 0,.int .u64 0,.int .u64 0,.int .u64 0,.int .u64 0,.slice none 0 0])<|an (bd (by kernel_rfl))<|
  fun g18 w18 Z5=>
  fun g19 w19 M19=>
  cl<|an (uD M19 0 (l:=[0,1]) (x:=3) rfl rfl) fun w20 M20=>
  ei (x:=.agg #[.int .i64 1,.int .u64 3,.int .u64 0,.int .u64 0,.int .u64 0,.int .u64 0,.int .u64 0,.int .u64 0,.int .u64 0,.bool true,.int .i64 0,.int .u32 9,.int .i64 0])<|an (bd (by kernel_rfl))<|
  fun g21 w21 M21=>
  cl<|an (uD M21 0 (l:=[0]) (x:=1) rfl rfl) fun w22 M22=>
  fun g23 w23 M23=>
  cl<|an (uD M23 0 (l:=[2,3]) (x:=12) rfl rfl) fun w24 M24=>
  ei (x:=.agg #[.int .i64 1,.int .u64 1,.int .u64 0,.int .u64 0,.int .u64 0,.int .u64 12,.int .u64 0,.int .u64 0,.int .u64 0,.bool false,.int .i64 1,.int .u32 17,.int .i64 0])<|an (bd (by kernel_rfl))<|
  fun g25 w25 M25=>
  cl<|an (uD M25 0 (l:=[0]) (x:=1) rfl rfl) fun w26 M26=>
  fun g27 w27 M27=>
  cl<|an (uD M27 0 (l:=[1]) (x:=2) rfl rfl) fun w28 M28=>
  ei (x:=.agg #[.int .i64 1,.int .u64 1,.int .u64 0,.int .u64 0,.int .u64 0,.int .u64 2,.int .u64 0,.int .u64 0,.int .u64 0,.bool false,.int .i64 0,.int .u32 2,.int .i64 0])<|an (bd (by kernel_rfl))<|
  fun g29 w29 M29=>
  cl<|an (uD M29 0 (l:=[1]) (x:=2) rfl rfl) fun w30 M30=>
  fun g31 w31 M31=>
  cl<|an (uD M31 0 (l:=[3]) (x:=8) rfl rfl) fun w32 M32=>
  ei (x:=.agg #[.int .i64 1,.int .u64 2,.int .u64 0,.int .u64 0,.int .u64 0,.int .u64 8,.int .u64 0,.int .u64 0,.int .u64 0,.bool false,.int .i64 1,.int .u32 32,.int .i64 0])<|an (bd (by kernel_rfl))<|
  fun g33 w33 M33=>
  cl<|an (uD M33 0 (l:=[1]) (x:=2) rfl rfl) fun w34 M34=>
  fun g35 w35 M35=>
  cl<|an (uD M35 0 (l:=[2]) (x:=4) rfl rfl) fun w36 M36=>
  ei (x:=.agg #[.int .i64 1,.int .u64 2,.int .u64 0,.int .u64 0,.int .u64 0,.int .u64 4,.int .u64 0,.int .u64 0,.int .u64 0,.bool false,.int .i64 1,.int .u32 1,.int .i64 1])<|an (bd (by kernel_rfl))<|
  fun XO w37 M37=>
  fun g38 w38 M38=>
  cl<|an (uD M38 0 (l:=[0]) (x:=1) rfl rfl) fun w39 M39=>
  fun g40 w40 M40=>
  cl<|an (uD M40 0 (l:=[3]) (x:=8) rfl rfl) fun w41 M41=>
  ei (x:=.agg #[.int .i64 1,.int .u64 1,.int .u64 0,.int .u64 0,.int .u64 0,.int .u64 8,.int .u64 0,.int .u64 0,.int .u64 0,.int .i64 0,.string ByteArray.empty,.int .i64 1,.int .i64 0])<|an (bd (by kernel_rfl))<|
  fun XM w42 M42=>
  cl<|an (Nj w42) fun w43 M43=>
  ei (x:=.agg #[.string (⟨#[107,101,114,110,101,108]⟩),.int .i64 0,.int .i64 1,.int .i64 0,.int .i64 0,.int .u64 0,.int .i64 0,.int .u64 0])<|an (bd (by kernel_rfl))<|
  cl<|an (CF w43) fun w44 M44=>
  ei (x:=.agg #[.string (⟨#[114,111,111,116]⟩),.int .i64 0,.int .i64 0,.int .i64 2,.int .i64 0,.int .u64 0,.int .i64 0,.int .u64 0])<|an (bd (by kernel_rfl))<|
  cl<|an (CF w44) fun w45 M45=>
  ei (x:=.agg #[.string (⟨#[117,110,108,97,98,101,108,101,100]⟩),.int .i64 0,.int .i64 0,.int .i64 2,.int .i64 0,.int .u64 0,.int .i64 0,.int .u64 0])<|an (bd (by kernel_rfl))<|
  fun XL w46 M46=>
  ei (x:=.agg #[.slice (some ⟨g5,0,none⟩) 3 3,.slice (some ⟨g6,0,none⟩) 4 4,.slice (some ⟨g9,0,none⟩) 1 1,.slice (some ⟨g12,0,none⟩) 2 2,.slice (some ⟨g15,0,none⟩) 1 1,.slice (some ⟨g16,0,none⟩) 1 1,.slice (some ⟨g17,0,none⟩) 1 1,.slice none 0 0,.slice (some ⟨g18,0,none⟩) 1 1,.slice (some ⟨XO,0,none⟩) 5 5,.slice (some ⟨XM,0,none⟩) 1 1,.slice none 0 0,.slice none 0 0,.slice none 0 0,.slice (some ⟨XL,0,none⟩) 3 3,.slice none 0 0,.slice none 0 0])<|an (bd (by kernel_rfl))<|
  lb 28<|an ⟨rfl,rfl⟩ fun w M=>?_
 exact ei (x:=28)<|an rfl fun M=>⟨_,rfl,g2,g3,g4,g5,g6,g9,g12,g15,g16,g17,g18,XO,XM,XL,rfl,M.only (.cons_cons _<|(.cons_cons _<|(.cons _<|(.cons _<|(.cons_cons _<|(.cons _<|(.cons _<|(.cons _<|(.cons _<|(.cons _<|(.cons _<|(.cons _<|(.cons _<|(.cons _<|(.cons_cons _<|(.cons_cons _<|(.cons_cons _<|(.cons_cons _<|(.cons _<|(.cons_cons _<|(.cons _<|(.cons_cons _<|(.cons _<|(.cons_cons _<|(.cons_cons _<|(.cons_cons _<|(.cons_cons _<|(.cons_cons _<|(.cons _<|.refl []))))))))))))))))))))))))))))) (.refl _)⟩
def eu:aF:={ Ac with rules:=[⟨1,⟨1,0,0,0⟩,⟨2,0,0,0⟩,false,1,1,0⟩,⟨1,⟨1,0,0,0⟩,⟨2,0,0,0⟩,false,1,2,0⟩,⟨1,⟨1,0,0,0⟩,⟨4,0,0,0⟩,false,1,3,0⟩,⟨1,⟨1,0,0,0⟩,⟨4,0,0,0⟩,false,1,1,1⟩] }
def Hx:aF:={ eu with rules:=eu.rules.take 3 }
def Db:aF:={ eu with rules:=[⟨1,⟨1,0,0,0⟩,⟨6,0,0,0⟩,false,1,3,0⟩] }
def Hy:aF:={ Db with conds:=[] }
theorem SZ:j8 eu=[3]:=by kernel_rfl
theorem Z0:bw eu=eu:=by kernel_rfl
theorem Qc:mK (bw eu) (eM (bw eu))=Hx:=by kernel_rfl
theorem ZY:dQ Hx=Db:=by kernel_rfl
theorem ZX:tB eu=Hy:=by kernel_rfl
theorem ZW:yM eu Hy=true:=by kernel_rfl
instance (n:Nat):Decidable (pU n):=inferInstanceAs (Decidable (_≤_))
instance (s:ByteArray):Decidable (dV s):=inferInstanceAs (Decidable (_≤_))
instance (n:Int):Decidable (iX n):=inferInstanceAs (Decidable (_∧_))
instance (n:Int):Decidable (Qk n):=inferInstanceAs (Decidable (_∧_))
instance (n:Nat):Decidable (zV n):=inferInstanceAs (Decidable (_<_))
theorem vJ:eu.Ok:=by
 repeat' (first|decide|refine List.forall_mem_cons.2 ⟨?_,?_⟩|exact List.forall_mem_nil _|constructor)
theorem KW:nh eu:=by
 repeat' (first|decide|refine List.forall_mem_cons.2 ⟨?_,?_⟩|exact List.forall_mem_nil _|constructor)
theorem S8:Hx.Ok:=by
 repeat' (first|decide|refine List.forall_mem_cons.2 ⟨?_,?_⟩|exact List.forall_mem_nil _|constructor)
theorem S7:nh Hx:=by
 repeat' (first|decide|refine List.forall_mem_cons.2 ⟨?_,?_⟩|exact List.forall_mem_nil _|constructor)
theorem Te:Db.Ok:=by
 repeat' (first|decide|refine List.forall_mem_cons.2 ⟨?_,?_⟩|exact List.forall_mem_nil _|constructor)
theorem S_:nh Db:=by
 repeat' (first|decide|refine List.forall_mem_cons.2 ⟨?_,?_⟩|exact List.forall_mem_nil _|constructor)
theorem S9:Hy.Ok:=by
 repeat' (first|decide|refine List.forall_mem_cons.2 ⟨?_,?_⟩|exact List.forall_mem_nil _|constructor)
theorem KX(p:aF)(hb:p.bools=Ac.bools)(hc:p.conds=Ac.conds):∀ e∈p.conds,∃ d,d≤12∧iZ d (cQ p.bools e)∧(dJ (cQ p.bools e)).length≤5:=by
 rw[hb,hc];intro e he;obtain rfl:=axz.1 he;exact⟨1,by decide,.name (by kernel_rfl) (by decide),by decide +kernel⟩
theorem Xx:Om eu:=⟨vJ,KW,by decide,by decide,by repeat' (first|decide|refine List.forall_mem_cons.2 ⟨?_,?_⟩|exact List.forall_mem_nil _|constructor),by repeat' (first|decide|refine List.forall_mem_cons.2 ⟨?_,?_⟩|exact List.forall_mem_nil _|constructor),KX _ rfl rfl,by decide,by decide⟩
theorem Tf:Om Db:=⟨Te,S_,by decide,by decide,by repeat' (first|decide|refine List.forall_mem_cons.2 ⟨?_,?_⟩|exact List.forall_mem_nil _|constructor),by repeat' (first|decide|refine List.forall_mem_cons.2 ⟨?_,?_⟩|exact List.forall_mem_nil _|constructor),KX _ rfl rfl,by decide,by decide⟩
theorem yj(l:List Int):∀ u∈l.map iH,u.oneCell'=true:=fun u hu=>by
 obtain⟨y,-,rfl⟩:=axJ.1 hu;rfl
theorem ofC{w0 w:World}{B:Nat}{bs:List Bx}{rs:List Rw}(M:aW B w0 w bs rs)(i:Nat){l:List Int}{s:ay}{g:Nat}{t:TypeId}(hb:bs[i]?=some (g,t,(l.map iH).toArray))(hx:ofs l=s)(hn:l.length≤100:=by decide)(ht:Nat.blt t 9000=true:=by rfl):
 Calls Tryz.prog 66 #[.slice (some ⟨g,0,none⟩) l.length l.length] w fun r w'=>r=.returned (.agg #[.int .u64 s.a,.int .u64 s.b,.int .u64 s.c,.int .u64 s.d])∧axq w.heap.size w w':=by
 subst hx;exact U_ w _ l (M.slice i hb (by simp) (by rw[axM];exact fun u hu=>yj l u (by simpa using hu)) (by unfold maxLen;omega) ht)
theorem ofK{w w':World}{u:Value}{l:List Int}{s:ay}(h:DZ w 3 l.length (l.map iH) u w')(hx:ofs l=s)(hn:l.length≤100:=by decide):
 Calls Tryz.prog 66 #[u] w' fun r w''=>r=.returned (.agg #[.int .u64 s.a,.int .u64 s.b,.int .u64 s.c,.int .u64 s.d])∧axq w'.heap.size w' w'':=by
 subst hx;obtain⟨g,rfl,hW,-⟩:=h;exact U_ w' _ l (SliceAt.BL hW (by simp) (by rw[axM];exact fun u hu=>yj l u (by simpa using hu)) (by unfold maxLen;omega))
theorem ZO{w w':World}{u:Value}{l:List Int}(h:DZ w 3 l.length (l.map iH) u w')(hn:l.length≤100:=by decide):SliceAt w' u 1 l.length (l.flatMap anyI):=by
 obtain⟨g,rfl,hW,-⟩:=h
 have e:l.flatMap anyI=l.map iH:=by
  clear hW hn
  induction l with
  | nil=>rfl
  | cons x r ih=>rw[List.flatMap_cons,ih];rfl
 rw[e];exact SliceAt.BL hW (by simp) (by rw[axM];exact fun u hu=>yj l u (by simpa using hu)) (by unfold maxLen;omega)
theorem RowsIn.tail{B:Nat}{w:World}{r:Rw}{T:List Rw}(h:RowsIn B w (r::T)):RowsIn B w T:=⟨fun x hx=>h.1 x (axF _ hx),(List.pairwise_cons.1 h.2).2⟩
theorem Ci(w0:World)(v v':Value)(a b:List Int)(ha:SliceAt w0 v 1 a.length (a.flatMap anyI))(hb:SliceAt w0 v' 1 b.length (b.flatMap anyI)):Calls Tryz.prog 28 #[v,v'] w0 fun r w'=>r=.returned (.bool (decide (a=b)))∧axq w0.heap.size w0 w':=by
 obtain⟨la,ka,rfl,-,hm,-⟩:=SliceAt.form ha (by decide);obtain⟨lb',kb,rfl,-⟩:=SliceAt.form hb (by decide);have no:a≠b→Ending.returned (kQ [Value.bool false])=.returned (.bool (decide (a=b))):=fun h=>by rw[decide_eq_false h];rfl
 refine dD [] (fn:=Tryz.f28) Tryz.func28 rfl Tryz.ntmps28 rfl<|an (fun h M=>⟨no fun e=>by rw[e] at h;simp at h,M.below⟩) fun h=>lr (ι:=Nat) (fun m=>[(5,.int .i64 (m:Int))]) (fun m _=>m≤a.length∧a.take m=b.take m) (fun m=>a.length-m) 0 (an ⟨⟨rfl,trivial⟩,fun M=>⟨M,axw _,rfl⟩⟩ ?_)
 have hll:a.length=b.length:=Int.ofNat_inj.1 (by simpa using h);intro m w M ⟨hmm,ht⟩;refine an (fun h2=>?_) fun h2 M=>⟨?_,M.below⟩
 ·simp only[decide_eq_true_eq] at h2;obtain⟨x,y,b1,o1,b2,o2,hx,hy,⟨rfl,hc⟩,rfl,hc'⟩:=dS (f:=anyI) (fun _=>rfl) (by decide) ha hb rfl rfl (m:=m) (by omega) hll M.below;refine dr (by kernel_rfl)<|ia<|an ⟨rfl,rfl,by omega⟩<|lc<|an (hc 0 _ rfl)<|ia<|an ⟨rfl,rfl,by omega⟩<|lc<|an (hc' 0 _ rfl) fun w2 hb2 M2=>an (fun h3 M=>⟨no fun e=>?_,M.below⟩) fun h3=>an (by omega)<|bk (m+1) ⟨rfl,trivial⟩ (fun M=>⟨M,by omega,jd ht hx hy (by simpa using h3)⟩) (by dsimp only;omega)
  subst e;rw[hx] at hy;obtain rfl:=axN hy;simp at h3
 ·simp only[decide_eq_false_iff_not] at h2;rw[decide_eq_true (ql ht hll (by omega))];rfl
theorem yq{B:Nat}{w0 w:World}{rs:List Rw}{rg h2 h3 h4 h5 h6 h9 h12 Cw Cv NI NH h37 h42 h46:Nat}(M:aW B w0 w ((rg,56,(eu.rules.flatMap aj.cells).toArray)::SB h2 h3 h4 h5 h6 h9 h12 Cw Cv NI NH h37 h42 h46) rs):aK w (.slice (some ⟨h5,0,none⟩) 3 3) (.slice (some ⟨h6,0,none⟩) 4 4) (.slice (some ⟨h9,0,none⟩) 1 1) (.slice (some ⟨h12,0,none⟩) 2 2) (.slice (some ⟨Cw,0,none⟩) 1 1) (.slice (some ⟨Cv,0,none⟩) 1 1) (.slice (some ⟨NI,0,none⟩) 1 1) (.slice none 0 0) (.slice (some ⟨NH,0,none⟩) 1 1) (.slice (some ⟨rg,0,none⟩) 4 4) (.slice (some ⟨h42,0,none⟩) 1 1) (.slice none 0 0) (.slice none 0 0) (.slice none 0 0) (.slice (some ⟨h46,0,none⟩) 3 3) (.slice none 0 0) (.slice none 0 0) eu:=
 have h:=Ma (M.only (.cons _ (.refl _)) (.refl _))
 ⟨h.classes,h.types,h.attrs,h.roles,h.users,h.bools,h.bf,h.cats,h.conds,M.slice 0 rfl rfl rfl (by simp[maxLen]),h.trans,h.aT,h.ranges,h.cons,h.bL,h.files,h.asserts⟩
theorem Xv:RdH (bw eu):=by rw[Z0];exact⟨vJ,KW,by decide,by decide,by decide⟩
theorem Xu:RuH (mK (bw eu) (eM (bw eu))):=by rw[Qc];exact⟨S8,S7,by decide⟩
theorem Xw:Om (dQ (mK (bw eu) (eM (bw eu)))):=by rw[Qc,ZY];exact Tf
theorem jL(w0:World):Calls Tryz.prog 21 #[] w0 fun r w'=>r=.returned (.bool true)∧axq w0.heap.size w0 w':=by
 refine dD [] (fn:=Tryz.f21) Tryz.func21 rfl Tryz.ntmps21 rfl<|cg<|an ((Mb w0).mono fun _ _ h=>h) fun v w1 hS=>?_
 obtain⟨h2,h3,h4,h5,h6,h9,h12,Cw,Cv,NI,NH,h37,h42,h46,rfl,hS⟩:=hS
 refine⟨_,_,hS,ei<|an lJ fun q w2 M2=>lb 0<|an ⟨rfl,rfl⟩ fun w3 M3=>fun g4 w4 M4=>cl<|an (ofC M4 0 (l:=[0]) (s:=⟨1,0,0,0⟩) rfl rfl) fun w5 M5=>fun g6 w6 M6=>cl<|an (ofC M6 0 (l:=[1]) (s:=⟨2,0,0,0⟩) rfl rfl) fun w7 M7=>
  ei (x:=.agg #[.int .i64 1,.int .u64 1,.int .u64 0,.int .u64 0,.int .u64 0,.int .u64 2,.int .u64 0,.int .u64 0,.int .u64 0,.bool false,.int .i64 1,.int .u32 1,.int .i64 0])<|an (bd (by kernel_rfl))<|
  fun g8 w8 M8=>
  cl<|an (ofC M8 0 (l:=[0]) (s:=⟨1,0,0,0⟩) rfl rfl) fun w9 M9=>
  fun g10 rz nI=>
  cl<|an (ofC nI 0 (l:=[1]) (s:=⟨2,0,0,0⟩) rfl rfl) fun Dp M11=>
  ei (x:=.agg #[.int .i64 1,.int .u64 1,.int .u64 0,.int .u64 0,.int .u64 0,.int .u64 2,.int .u64 0,.int .u64 0,.int .u64 0,.bool false,.int .i64 1,.int .u32 2,.int .i64 0])<|an (bd (by kernel_rfl))<|
  fun g12 Ie EW=>
  cl<|an (ofC EW 0 (l:=[0]) (s:=⟨1,0,0,0⟩) rfl rfl) fun LK zC=>
  fun g14 XH Lg=>
  cl<|an (ofC Lg 0 (l:=[2]) (s:=⟨4,0,0,0⟩) rfl rfl) fun Qz Ij=>
  ei (x:=.agg #[.int .i64 1,.int .u64 1,.int .u64 0,.int .u64 0,.int .u64 0,.int .u64 4,.int .u64 0,.int .u64 0,.int .u64 0,.bool false,.int .i64 1,.int .u32 3,.int .i64 0])<|an (bd (by kernel_rfl))<|
  fun g16 w16 Og=>
  cl<|an (ofC Og 0 (l:=[0]) (s:=⟨1,0,0,0⟩) rfl rfl) fun w17 Z6=>
  fun g18 w18 Z5=>
  cl<|an (ofC Z5 0 (l:=[2]) (s:=⟨4,0,0,0⟩) rfl rfl) fun w19 M19=>
  ei (x:=.agg #[.int .i64 1,.int .u64 1,.int .u64 0,.int .u64 0,.int .u64 0,.int .u64 4,.int .u64 0,.int .u64 0,.int .u64 0,.bool false,.int .i64 1,.int .u32 1,.int .i64 1])<|an (bd (by kernel_rfl))<|
  fun g20 w20 M20=>
  lb 9<|an ⟨rfl,rfl⟩ fun w M=>?_⟩
 have hP:=yq (M.only (.cons_cons _<|.cons _<|.cons _<|.cons _<|.cons _<|.cons _<|.cons _<|.cons _<|.cons _<|.cons _<|.refl _) (.refl _));refine lb 9<|an rfl<|cg<|an (uP _ _ _ _ _ _ _ _ _ _ _ _ _ _ _ _ _ _ eu hP Xx Xv Xu Xw) fun v2 w4 hO=>?_
 obtain⟨hG,hb⟩:=hO;rw[ZX] at hG;obtain⟨x0,n0,x1,n1,x2,n2,x3,n3,x4,n4,x5,n5,x6,n6,x7,n7,x8,n8,x9,n9,x10,n10,pH,n11,pG,n12,IE,n13,IC,n14,IB,n15,Iz,n16,T,rfl,hT,hPO⟩:=hG;refine⟨_,T,M.eA hb hT,ei<|an lJ fun q2 w5 M5=>lb 0<|an ⟨rfl,rfl⟩ fun w6 M6=>?_⟩;have afI:=jR w6 _ _ _ _ _ _ _ _ _ _ _ _ _ _ _ _ _ eu (yq (M6.only (.cons _ (.cons_cons _<|.cons _<|.cons _<|.cons _<|.cons _<|.cons _<|.cons _<|.cons _<|.cons _<|.cons _<|.refl _)) (.refl _))) vJ (by decide) (by decide) (by decide);rw[SZ] at afI;refine lb 10<|an rfl<|cw M6 afI fun u w7 M7=>?_
 obtain⟨ua,uc,rfl,-⟩:=M7.shape 0 rfl;have hO7:=hPO _ _ (RowsIn.tail M7.dW);obtain⟨ob,oo,rfl,hoc⟩:=SliceAt.elt hO7.rules (fun _=>rfl) (by decide) (i:=0) rfl (by decide)
 refine dr (by kernel_rfl)<|lb 0<|an rfl<|lb 0<|an (fun _=>rfl)<|ia (i:=0)<|an (fun _=>⟨rfl,rfl,by decide⟩)<|lc<|an (fun _=>hoc)<|
  br (DZ w7 3 1 [iH 0])<|an lY<|an (fun _ w1 a o' hb M' hop oF=>bK (p:=fun _=>True) (kk:=1) (b:=8) (by kernel_rfl) rfl rfl (by decide) (by decide) (by simp[Value.cells]) rfl w1 a o' hb trivial hop oF)<|
  cu<|an (fun u h w' hb' M' hR=>ofK (l:=[0]) (s:=⟨1,0,0,0⟩) (hR h) rfl)<|
  br (DZ w7 3 2 [iH 1,iH 2])<|an lY<|an (fun _ w1 a o' hb M' hop oF=>bK (p:=fun _=>True) (kk:=1) (b:=8) (by kernel_rfl) rfl rfl (by decide) (by decide) (by simp[Value.cells]) rfl w1 a o' hb trivial hop oF)<|
  cu<|an (fun u h w' hb' M' hR=>ofK (l:=[1,2]) (s:=⟨6,0,0,0⟩) (hR h) rfl)<|
  ei (x:=.agg #[.int .i64 1,.int .u64 1,.int .u64 0,.int .u64 0,.int .u64 0,.int .u64 6,.int .u64 0,.int .u64 0,.int .u64 0,.bool false,.int .i64 1,.int .u32 3,.int .i64 0])<|an (fun _=>bd (by kernel_rfl))<|
  ei<|an (fun _=>⟨adB,fun w=>WL ⟨1,⟨1,0,0,0⟩,⟨6,0,0,0⟩,false,1,3,0⟩ ⟨1,⟨1,0,0,0⟩,⟨6,0,0,0⟩,false,1,3,0⟩ w⟩)<|
  lb 0<|an (fun _=>rfl)<|
  br (DZ w7 3 1 [iH 3])<|an lY<|an (fun _ w1 a o' hb M' hop oF=>bK (p:=fun _=>True) (kk:=1) (b:=8) (by kernel_rfl) rfl rfl (by decide) (by decide) (by simp[Value.cells]) rfl w1 a o' hb trivial hop oF)<|
  cu<|an (fun u h w' hb' M' hR=>Ci w' _ _ [3] [3] (by have h2:=SliceAt.bC (M'.r 0 rfl) (uW [3]);exact h2) (ZO (l:=[3]) (hR h)))<|
  lb 10<|an (fun _=>rfl)<|lb 0<|an (fun _=>rfl)<|cl<|an (fun _ w' hb' M'=>UH w' _ _ _ _ _ _ _ _ _ _ _ _ _ _ _ _ _ _ _ _ _ _ _ _ _ _ _ _ _ _ _ _ _ _ eu Hy (yq (M'.only (.cons _ (.cons_cons _<|.cons _<|.cons _<|.cons _<|.cons _<|.cons _<|.cons _<|.cons _<|.cons _<|.cons _<|.refl _)) (.refl _))) (hPO _ _ (RowsIn.tail M'.dW)) vJ S9 (by decide) (by decide) (by decide) (by decide) (by decide) (by decide) (by decide) (by decide)) fun rz xJ nI=>?_
 exact fun M=>⟨by rw[ZW];rfl,M.below⟩
theorem F2(x y:ay)(i:Nat):(x.or y).has i=(x.has i||y.has i):=by
 unfold ay.has;rw[← Nat.testBit_or];congr 1;unfold ay.word ay.or;split
 ·rfl
 ·split
  ·rfl
  ·split<;>rfl
theorem tM{a b c:aj}(ha:fS a.perms)(hb:fS b.perms)(h:aD a b=some c):(c.kind=a.kind∧c.cls=a.cls∧c.cond=a.cond)∧(b.kind=a.kind∧b.cls=a.cls∧b.cond=a.cond)∧fS c.perms∧(∀ s t,s<256→t<256→(s,t)∈c.pairs→(s,t)∈a.pairs∨(s,t)∈b.pairs) ∧
 ∀ s t k,s<256→t<256→(((s,t)∈c.pairs∧ib c.perms k=true)↔((s,t)∈a.pairs∧ib a.perms k=true)∨((s,t)∈b.pairs∧ib b.perms k=true)):=by
 unfold aD at h;split at h
 ·cases h
 rename_i h1;simp only[Bool.or_eq_true,Bool.not_eq_true',decide_eq_false_iff_not,not_or,Decidable.not_not,Bool.not_eq_false,beq_iff_eq] at h1;obtain⟨⟨⟨e1,e2⟩,e3⟩,e4⟩:=h1;refine(fun(hc:_∧_∧_)=>⟨hc.1,⟨e1.symm,e2.symm,e3.symm⟩,hc.2⟩) ?_;split at h
 ·rename_i h2;simp only[axC,decide_eq_true_eq] at h2;obtain rfl:=axN h;refine⟨⟨rfl,rfl,rfl⟩,lK .or _ _,fun s t _ _ h=>.inl h,fun s t k hs ht=>?_⟩;rw[bX hs ht,bX hs ht,bX hs ht];simp only[oR .or ha hb];rw[← h2.1,← h2.2,← e4];cases a.src.has s<;>cases a.tgt.has t<;>cases a.self<;>cases ib a.perms k<;>cases ib b.perms k<;>simp
 ·split at h
  ·rename_i h2;simp only[axC,decide_eq_true_eq] at h2;obtain rfl:=axN h;refine⟨⟨rfl,rfl,rfl⟩,ha,fun s t hs ht h=>?_,fun s t k hs ht=>?_⟩
   ·rw[bX hs ht] at h;rw[bX hs ht,bX hs ht];simp only[F2] at h;rw[← h2.2,← e4]
    revert h
    cases a.src.has s<;>cases a.tgt.has t<;>cases b.tgt.has t<;>cases a.self<;>simp
   rw[bX hs ht,bX hs ht,bX hs ht];simp only[F2];rw[← h2.1,← h2.2,← e4];cases a.src.has s<;>cases a.tgt.has t<;>cases b.tgt.has t<;>cases a.self<;>cases ib a.perms k<;>simp
  ·split at h
   ·rename_i h2;simp only[axC,decide_eq_true_eq] at h2;obtain rfl:=axN h;refine⟨⟨rfl,rfl,rfl⟩,ha,fun s t hs ht h=>?_,fun s t k hs ht=>?_⟩
    ·rw[bX hs ht] at h;rw[bX hs ht,bX hs ht];simp only[F2] at h;rw[← h2.2,← e4]
     revert h
     cases a.src.has s<;>cases b.src.has s<;>cases a.tgt.has t<;>cases a.self<;>simp
    rw[bX hs ht,bX hs ht,bX hs ht];simp only[F2];rw[← h2.1,← h2.2,← e4];cases a.src.has s<;>cases b.src.has s<;>cases a.tgt.has t<;>cases a.self<;>cases ib a.perms k<;>simp
   ·cases h
theorem zi{α:Type}{J:α→α→Option α}{a:α}:∀ {l:List α} {z:α×List α},eT J a l=some z→∃ m b r,l=m++b::r∧J a b=some z.1∧z.2=m++r
 | [],_,h=>by cases h
 | b::r,z,h=>by
  unfold eT at h
  cases e:J a b with
  | some c=>rw[e] at h;obtain rfl:=axN h;exact⟨[],b,r,rfl,e,rfl⟩
  | none=>
   rw[e] at h
   cases e2:eT J a r with
   | none=>rw[e2] at h;cases h
   | some y=>
    rw[e2] at h;obtain rfl:=axN h;obtain⟨m,b',r',h1,h2,h3⟩:=zi e2;exact⟨b::m,b',r',by rw[h1];rfl,h2,by show b::y.2=_;rw[h3];rfl⟩
theorem tC{α:Type}{J:α→α→Option α}:∀ {l l':List α},cH J l=some l'→∃ p a m b r c,l=p++a::(m++b::r)∧J a b=some c∧l'=p++c::(m++r)
 | [],_,h=>by cases h
 | x::l,l',h=>by
  unfold cH at h
  cases e:eT J x l with
  | some z=>
   rw[e] at h;obtain rfl:=axN h;obtain⟨m,b,r,h1,h2,h3⟩:=zi e;exact⟨[],x,m,b,r,z.1,by rw[h1];rfl,h2,by rw[h3];rfl⟩
  | none=>
   rw[e] at h
   cases e2:cH J l with
   | none=>rw[e2] at h;cases h
   | some y=>
    rw[e2] at h;obtain rfl:=axN h;obtain⟨p,a,m,b,r,c,h1,h2,h3⟩:=tC e2;exact⟨x::p,a,m,b,r,c,by rw[h1];rfl,h2,by rw[h3];rfl⟩
theorem JT(o:Int):ou o≤2:=by
 unfold ou
 repeat' split
 all_goals decide
theorem CX{n:Nat}:∀ {l:List aA},mw n l=0→∀ k∈l,kM n k=0
 | [],_,_,hk=>by cases hk
 | x::l,h,k,hk=>by
  unfold mw at h;split at h
  ·rename_i hx;rcases axy.1 hk with rfl|hk
   ·exact hx
   ·exact CX h k hk
  ·rename_i hx;exact absurd h hx
theorem CM{a b c n:Nat}:∀ {l:List aA},qL a b c n l=0→∀ k∈l,kL a b c n k=0
 | [],_,_,hk=>by cases hk
 | x::l,h,k,hk=>by
  unfold qL at h;split at h
  ·rename_i hx;rcases axy.1 hk with rfl|hk
   ·exact hx
   ·exact CM h k hk
  ·rename_i hx;exact absurd h hx
theorem Bn{n:Nat}:∀ e:aA,kM n e=0→mH e
 | .node op a rel b names set kids,h=>by
  have ih:∀ k∈kids,kM n k=0→mH k:=fun k hk=>Bn k
  rw[qV] at h
  cases hb:kW (.node op a rel b names set kids) with
  | true=>rw[hb] at h;simp at h
  | false=>
   rw[hb,if_neg (by decide)] at h;split at h
   ·cases h
   unfold kW at hb;simp only[Bool.or_eq_false_iff,Bool.not_eq_false',decide_eq_true_eq,aA.op,aA.kids,aA.names] at hb;have hk:ou op=(kids.length:Int):=of_decide_eq_true hb.1.1.1.1.1.2;have hn:¬ (0<(names.length:Int)):=of_decide_eq_false hb.1.1.2;have:=JT op;exact .node (by omega) (by omega) fun k hkm=>ih k hkm (CX h k hkm)
 termination_by e=>SizeOf.sizeOf e
 decreasing_by
  have:=List.sizeOf_lt_of_mem hk;simp only[aA.node.sizeOf_spec];omega
theorem Sm{e:aA}(h:jY e=true):e.names.length=0∧e.kids.length≤2∧(e.op=8→e.kids=[]):=by
 unfold jY at h;have:=JT e.op;split at h
 ·rename_i ho;simp only[axC,decide_eq_true_eq] at h;obtain⟨⟨⟨⟨⟨h1,-⟩,-⟩,-⟩,h2⟩,-⟩:=h;exact⟨by omega,by omega,fun h8=>by omega⟩
 ·split at h
  ·simp only[axC,decide_eq_true_eq] at h;obtain⟨⟨h1,h2⟩,-⟩:=h;exact⟨by omega,by omega,fun _=>List.eq_nil_of_length_eq_zero (by omega)⟩
  ·split at h
   ·simp only[axC,decide_eq_true_eq] at h;obtain⟨⟨⟨h1,-⟩,-⟩,h2⟩:=h;exact⟨by omega,by omega,fun _=>List.eq_nil_of_length_eq_zero (by omega)⟩
   ·cases h
theorem sW{nU nR nT N:Nat}:∀ e:aA,kL nU nR nT N e=0→mH e
 | .node op a rel b names set kids,h=>by
  have ih:∀ k∈kids,kL nU nR nT N k=0→mH k:=fun k hk=>sW k
  have hf:jY (.node op a rel b names set kids)=true:=by
   cases hf:jY (.node op a rel b names set kids) with
   | true=>rfl
   | false=>
    rw[tQ (r:=2) (by unfold jl;rw[if_pos hf])] at h;cases h
  obtain⟨hn,hk,h8⟩:=Sm hf;replace hn:names.length=0:=hn;replace hk:kids.length≤2:=hk;refine .node (by omega) (by omega) fun k hkm=>?_
  have n8:op≠8:=fun e=>by
   have:kids=[]:=h8 e;rw[this] at hkm;cases hkm
  cases hs:jl nU nR nT N (.node op a rel b names set kids) with
  | none=>
   rw[CK hs] at h;exact ih k hkm (CM h k hkm)
  | some r=>
   rw[tQ hs] at h;subst h;unfold jl at hs;rw[if_neg (by rw[hf];decide),if_neg (show ¬ (aA.node op a rel b names set kids).op=8 from n8)] at hs
   repeat' (split at hs)
   all_goals cases hs
 termination_by e=>SizeOf.sizeOf e
 decreasing_by
  have:=List.sizeOf_lt_of_mem hk;simp only[aA.node.sizeOf_spec];omega
theorem NQ{p:aF}(h:Tm p):nh p:=by
 have hc:=h.check;unfold qX at hc;split at hc
 case isFalse hne=>exact absurd hc hne
 rename_i hc3;rw[qI] at hc hc3;have hcl:ku p=0:=hc3 _ (by simp);have XJ:zm p=0:=hc _ (by simp);have hr:jh p=0:=hc _ (by simp);unfold ku at hcl;split at hcl
 ·cases hcl
 unfold zm at XJ;split at XJ
 ·cases XJ
 unfold jh at hr;split at hr
 ·cases hr
 split at hr
 case isFalse _ hne=>exact absurd hr hne
 rename_i _ ze;rw[iW] at hcl XJ ze;have z:=h.small.sizes
 have C:∀ x∈p.classes,x.perms.length≤1000000:=fun x hx=>by
  obtain⟨i,hi⟩:=List.getElem?_of_mem hx;have h1:=hcl i (axw _) (by have:=(axo.1 hi).1;omega);unfold qW at h1;rw[hi] at h1;replace h1:yc ((p.classes.take i).map (·.name)) x=0:=h1;unfold yc at h1;split at h1
  ·split at h1
   ·cases h1
   ·omega
  ·rename_i hne;exact absurd h1 hne
 have E:∀ e∈p.conds,mH e:=fun e he=>by
  obtain⟨i,hi⟩:=List.getElem?_of_mem he;have h1:=ze i (axw _) (by have:=(axo.1 hi).1;omega);unfold mY at h1;rw[hi] at h1;replace h1:eU p.bools.length e=0:=h1;unfold eU at h1;split at h1
  ·cases h1
  ·exact Bn e h1
 have K:∀ x∈p.cons,mH x.expr:=fun x hx=>by
  obtain⟨i,hi⟩:=List.getElem?_of_mem hx;have h1:=XJ i (axw _) (by have:=(axo.1 hi).1;omega);unfold KE at h1;rw[hi] at h1;replace h1:SF p.users.length p.roles.length p.types.length p.classes x=0:=h1;unfold SF at h1;split at h1
  ·cases h1
  split at h1
  ·cases h1
  unfold gF at h1;split at h1
  ·cases h1
  split at h1
  ·exact sW _ h1
  ·exact sW _ h1
 exact⟨axv z.classes (by decide),C,axv z.types (by decide),fun x hx=>axv (h.small.pq x hx) (by decide),axv z.attrs (by decide),axv z.roles (by decide),axv z.users (by decide),axv z.bools (by decide),axv z.bf (by decide),axv z.cats (by decide),axv z.conds (by decide),E,axv z.rules (by decide),axv z.trans (by decide),axv z.aT (by decide),axv z.ranges (by decide),axv z.cons (by decide),K,axv z.bL (by decide),axv z.files (by decide),axv z.asserts (by decide)⟩
end Go.Proofs.YtdcofoaihmongaaGreat
namespace Go.Proofs.YtdcofoaihmongaaGreat
open Go Go.RowKit Go.Sort
section
variable {α:Type} {J:α→α→Option α} {Q:α→Prop} (hJ:∀ a b c,Q a→Q b→J a b=some c→Q c)
include hJ
theorem CA{a:α}(ha:Q a):∀ {l:List α} {z:α×List α},(∀ x∈l,Q x)→eT J a l=some z→Q z.1∧∀ x∈z.2,Q x
 | [],_,_,h=>by cases h
 | b::r,z,hl,h=>by
  unfold eT at h
  cases e:J a b with
  | some c=>rw[e] at h;obtain rfl:=axN h;exact⟨hJ a b c ha (hl b (axB ..)) e,fun x hx=>hl x (axF _ hx)⟩
  | none=>
   rw[e] at h
   cases e2:eT J a r with
   | none=>rw[e2] at h;cases h
   | some y=>
    rw[e2] at h;obtain rfl:=axN h;have h3:=CA ha (fun x hx=>hl x (axF _ hx)) e2;refine⟨h3.1,fun x hx=>?_⟩;rcases axy.1 hx with rfl|hx
    ·exact hl x (axB ..)
    ·exact h3.2 x hx
theorem wZ:∀ {l l':List α},(∀ x∈l,Q x)→cH J l=some l'→∀ x∈l',Q x
 | [],_,_,h=>by cases h
 | a::r,l',hl,h=>by
  unfold cH at h
  cases e:eT J a r with
  | some z=>
   rw[e] at h;obtain rfl:=axN h;have h3:=CA hJ (hl a (axB ..)) (fun x hx=>hl x (axF _ hx)) e;intro x hx;rcases axy.1 hx with rfl|hx
   ·exact h3.1
   ·exact h3.2 x hx
  | none=>
   rw[e] at h
   cases e2:cH J r with
   | none=>rw[e2] at h;cases h
   | some y=>
    rw[e2] at h;obtain rfl:=axN h;intro x hx;rcases axy.1 hx with rfl|hx
    ·exact hl x (axB ..)
    ·exact wZ (fun x hx=>hl x (axF _ hx)) e2 x hx
theorem Pr:∀ (n:Nat) {l:List α},(∀ x∈l,Q x)→∀ x∈MO J n l,Q x
 | 0,_,hl=>hl
 | n+1,l,hl=>by
  unfold MO
  cases e:cH J l with
  | none=>exact hl
  | some l'=>exact Pr n (wZ hJ hl e)
theorem Aj{l:List α}(hl:∀ x∈l,Q x):∀ x∈tF J l,Q x:=Pr hJ _ hl
end
end Go.Proofs.YtdcofoaihmongaaGreat
namespace Go.Proofs.YtdcofoaihmongaaGreat
open Go Go.RowKit
theorem Cg{a b c:aj}(ha:a.oC)(hb:b.oC)(h:aD a b=some c):c.oC:=by
 unfold aD at h;split at h
 ·cases h
 ·split at h
  ·obtain rfl:=axN h;exact⟨ha.kind,ha.src,ha.tgt,ha.cls,lK .or _ _,ha.cond⟩
  ·split at h
   ·obtain rfl:=axN h;exact⟨ha.kind,ha.src,Eo ha.tgt hb.tgt,ha.cls,ha.perms,ha.cond⟩
   ·split at h
    ·obtain rfl:=axN h;exact⟨ha.kind,Eo ha.src hb.src,ha.tgt,ha.cls,ha.perms,ha.cond⟩
    ·cases h
theorem uS{α:Type}(J:α→α→Option α)(l:List α):(tF J l).length≤l.length:=by
 have key:∀ (n:Nat) (l:List α),(MO J n l).length≤l.length:=by
  intro n
  induction n with
  | zero=>exact fun l=>Nat.le_refl _
  | succ n ih=>
   intro l;unfold MO
   cases e:cH J l with
   | none=>exact Nat.le_refl _
   | some l'=>have:=jE J e;have:=ih l';show(MO J n l').length≤_;omega
 exact key _ l
theorem aaq{p:aF}(h:p.Ok):(dQ p).Ok:={ h with rules:=Aj (J:=aD) (Q:=fun r=>r.oC) (fun _ _ _ ha hb h=>Cg ha hb h) h.rules,wQ:=axv (uS _ _) h.wQ }
theorem aap{p:aF}(h:nh p):nh (dQ p):={ h with rules:=axv (uS _ _) h.rules }
theorem DX.o{wb w:World}{p:aF}{v:Value}(h:DX wb p v w):vN p v w:=by
 obtain⟨x0,n0,x1,n1,x2,n2,x3,n3,x4,n4,x5,n5,x6,n6,x7,n7,x8,n8,x9,n9,x10,n10,pH,n11,pG,n12,IE,n13,IC,n14,IB,n15,Iz,n16,T,rfl,hT,hP⟩:=h;exact⟨_,_,_,_,_,_,_,_,_,_,_,_,_,_,_,_,_,rfl,hP _ _ hT⟩
theorem vN.same{w:World}{p q:aF}{u v:Value}(h:vN p u w)(k:vN q v w):Calls Tryz.prog 23 #[u,v] w fun r w'=>r=.returned (.bool (gJ p q))∧axq w.heap.size w w':=by
 obtain⟨_,_,_,_,_,_,_,_,_,_,_,_,_,_,_,_,_,rfl,hP⟩:=h;obtain⟨_,_,_,_,_,_,_,_,_,_,_,_,_,_,_,_,_,rfl,hQ⟩:=k;exact n_ _ _ _ _ _ _ _ _ _ _ _ _ _ _ _ _ _ _ _ _ _ _ _ _ _ _ _ _ _ _ _ _ _ _ _ p q hP hQ
def LU(o:List Nat):List Int:=o.map fun(k:Nat)=>(k:Int)
theorem Yb(o:List Nat)(k:Nat):(LU o).contains (k:Int)=o.contains k:=by
 rw[Bool.eq_iff_iff];unfold LU;simp only[List.contains_eq_mem,decide_eq_true_iff,axJ];constructor
 ·rintro⟨a,h,e⟩;obtain rfl:a=k:=by omega
  exact h
 ·exact fun h=>⟨k,h,rfl⟩
theorem OH{α:Type}(l:List α)(o:List Nat):nk l (LU o) l.length=gA l o:=by
 unfold nk gA;congr 1
 funext k
 rw[Yb]
theorem pW{p:aF}{o:List Int}:∀ r∈(mK p o).rules,r∈p.rules:=fun r hr=>by
 unfold mK nk at hr;obtain⟨k,-,h⟩:=List.mem_filterMap.1 hr;split at h
 ·cases h
 ·exact axx h
theorem pO.wo{p:aF}(h:pO p)(o:List Int):pO (mK p o):=⟨h.bools,fun r hr=>h.rv r (pW r hr),fun r hr=>h.four r (pW r hr),h.conds,fun r hr=>h.zo r (pW r hr),h.CV⟩
theorem vM.wo{p:aF}(h:vM p)(o:List Int):vM (mK p o):={ h with rules:=fun r hr=>h.rules r (pW r hr) }
end Go.Proofs.YtdcofoaihmongaaGreat
namespace Go.Proofs.YtdcofoaihmongaaGreat
open Go Go.RowKit Go.Sort
theorem QN(l:List (List UInt8)):(l.mergeSort fun x y=>decide (x≤y)).Pairwise fun x y=>x≤y:=by
 have h:=List.pairwise_mergeSort (le:=fun x y:List UInt8=>decide (x≤y)) (fun a b c h1 h2=>by
  simp only[decide_eq_true_eq] at *
  exact List.le_trans h1 h2) (fun a b=>by
  simp only[Bool.or_eq_true,decide_eq_true_eq];exact List.le_total a b) l
 exact h.imp fun h=>of_decide_eq_true h
theorem DS{l:List (List UInt8)}(hs:l.Pairwise fun x y=>x≤y):(Lib.compact l).Nodup:=by
 have hget:∀ i j (hi:i<l.length) (hj:j<l.length),i<j→l[i]≤l[j]:=fun i j hi hj h=>List.pairwise_iff_getElem.1 hs i j hi hj h
 have key:∀ m,m≤l.length→(Lib.compactUpTo l.toArray m).Nodup:=by
  intro m
  induction m with
  | zero=>intro _;exact List.nodup_nil
  | succ m ih=>
   intro hm;rw[Lib.compactUpTo_succ];by_cases hk:Lib.keeps l.toArray m=true
   ·rw[if_pos hk];refine List.nodup_append.2 ⟨ih (by omega),List.nodup_cons.2 ⟨by simp,List.nodup_nil⟩,?_⟩;intro x hx y hy e;rw[axz] at hy;subst hy;obtain⟨j,hj,hjx⟩:=(kH _ _ m).1 hx;have hk2:m=0∨l.toArray[m]!≠l.toArray[m-1]!:=of_decide_eq_true hk;rcases hk2 with h0|hne
    ·omega
    ·have g:∀ i (h:i<l.length),l.toArray[i]! = l[i]:=fun i h=>by rw[getElem!_pos l.toArray i (by simpa using h)];simp
     rw[g m (by omega)] at e hne;rw[g (m-1) (by omega)] at hne;rw[g j (by omega)] at hjx;refine hne (List.le_antisymm ?_ (hget (m-1) m (by omega) (by omega) (by omega)));rw[← e,← hjx];by_cases hjm:j=m-1
     ·subst hjm;exact List.le_refl _
     ·exact hget j (m-1) (by omega) (by omega) (by omega)
   ·rw[if_neg hk,List.append_nil];exact ih (by omega)
 exact key _ (Nat.le_refl _)
theorem FR(e:aA):(dJ e).Nodup:=by
 unfold dJ mD;refine List.Pairwise.map X6 ?_ (DS ?_)
 ·intro a b hne h;have h2:=congrArg dN h;exact hne (by simpa[dN,X6] using h2)
 ·unfold uy;rw[List.map_map]
  have:((l:List (List UInt8))→l.map (dN∘X6)=l):=fun l=>by
   induction l with
   | nil=>rfl
   | cons a l ih=>rw[List.map_cons,ih];rfl
  rw[this];exact QN _
theorem RA{e:aA}{l:List ByteArray}(h:∀ s∈bN e,s∈l):(dJ e).length≤l.length:=by
 have hs:dJ e ⊆ l:=fun s hs=>h s ((tG e s).1 hs)
 exact List.Nodup.length_le_of_subset (FR e) hs
end Go.Proofs.YtdcofoaihmongaaGreat
namespace Go.Proofs.YtdcofoaihmongaaGreat
open Go Go.RowKit
theorem Ev(f:Nat→Int):∀ n i,i<n→f i≤lW f n
 | n+1,i,h=>by
  by_cases e:i=n
  ·subst e;exact Int.le_max_right _ _
  ·exact Int.le_trans (Ev f n i (by omega)) (Int.le_max_left _ _)
theorem RM(m:Nat)(e:aA):1≤bF (m+1) e:=by
 show 1≤lW (fun i=>match e.kids[i]? with|some k=>bF m k|none=>0) e.kids.length+1;have:=jT (fun i=>match e.kids[i]? with|some k=>bF m k|none=>0) e.kids.length;omega
theorem xg{m:Nat}{e k:aA}(hk:k∈e.kids):bF m k+1≤bF (m+1) e:=by
 obtain⟨i,hi⟩:=List.getElem?_of_mem hk;have hlt:=(axo.1 hi).1;have h:=Ev (fun i=>match e.kids[i]? with|some k=>bF m k|none=>0) e.kids.length i hlt;show bF m k+1≤lW (fun i=>match e.kids[i]? with|some k=>bF m k|none=>0) e.kids.length+1;simp only[hi] at h;omega
theorem Vb{bl:List iP}(hn:∀ b∈bl,nD b.name=true∧dV b.name){e:aA}(h:nj bl.length e):∀ (d:Nat),bF (d+1) e≤d→iZ d (cQ bl e)∧∀ s∈bN (cQ bl e),s∈bl.map (·.name):=by
 induction h with
 | @bool a rel b ns s h0 h1=>
  intro d hd
  have hp:0<d:=by
   have:=RM d (.node 1 a rel b ns s []);omega
  obtain⟨d,rfl⟩:∃ k,d=k+1:=⟨d-1,by omega⟩;obtain⟨x,hx⟩:∃ x,bl[a.toNat]?=some x:=⟨_,axp (by omega)⟩;have hm:=axx hx
  have e:cQ bl (.node 1 a rel b ns s [])=.node 1 0 0 0 [x.name] ay.zero []:=by
   rw[cQ,if_pos (by unfold isNum;simp[h0,h1]),hx];rfl
  rw[e];refine⟨.name (hn x hm).1 (hn x hm).2,fun s hs=>?_⟩;rw[iU] at hs;simp only[aA.names,aA.kids,bQ,List.append_nil,axz] at hs;subst hs;exact axJ.2 ⟨x,hm,rfl⟩
 | @not a rel b ns s k hk ih=>
  intro d hd;have h1:=xg (m:=d) (e:=.node 2 a rel b ns s [k]) (k:=k) (axz.2 rfl);have h0:=(jV d k).1;obtain⟨d,rfl⟩:∃ k,d=k+1:=⟨d-1,by omega⟩;obtain⟨i1,i2⟩:=ih d (by omega)
  have e:cQ bl (.node 2 a rel b ns s [k])=.node 2 0 0 0 [] ay.zero [cQ bl k]:=by
   rw[cQ,if_neg (by unfold isNum;simp),uQ];rfl
  rw[e];refine⟨.not i1,fun s hs=>i2 s ?_⟩;rw[iU] at hs;simpa[aA.names,aA.kids,bQ] using hs
 | @bin op a rel b ns s k l h3 h7 hk hl ihk ihl=>
  intro d hd;have h1:=xg (m:=d) (e:=.node op a rel b ns s [k,l]) (k:=k) (axB ..);have h2:=xg (m:=d) (e:=.node op a rel b ns s [k,l]) (k:=l) (by simp[aA.kids]);have h0:=(jV d k).1;obtain⟨d,rfl⟩:∃ k,d=k+1:=⟨d-1,by omega⟩;obtain⟨i1,i2⟩:=ihk d (by omega);obtain⟨j1,j2⟩:=ihl d (by omega)
  have e:cQ bl (.node op a rel b ns s [k,l])=.node op 0 0 0 [] ay.zero [cQ bl k,cQ bl l]:=by
   rw[cQ,if_neg (by unfold isNum;simp;omega),uQ];rfl
  rw[e];refine⟨.bin h3 h7 i1 j1,fun s hs=>?_⟩;rw[iU] at hs;simp only[aA.names,aA.kids,bQ,List.append_nil,List.nil_append,axG] at hs;exact hs.elim (i2 s) (j2 s)
theorem Sn{p:aF}(h:Tm p)(hok:p.Ok):∀ b∈p.bools,nD b.name=true∧dV b.name:=by
 have hc:=h.check;unfold qX at hc;split at hc
 case isFalse hne=>exact absurd hc hne
 rw[qI] at hc;have ho:oO p=0:=hc _ (by simp);unfold oO at ho;split at ho
 ·cases ho
 split at ho
 ·rename_i hne;exact absurd ho hne
 rename_i hz;have hz:=Decidable.not_not.1 hz;unfold bU at hz;rw[iW] at hz;intro b hb;obtain⟨i,hi⟩:=List.getElem?_of_mem hb;have h1:=hz i (axw _) (by rw[axH];have:=(axo.1 hi).1;omega);rw[Et (s:=b.name) (by rw[axD,hi];rfl)] at h1;refine⟨?_,(hok.bools b hb).name⟩;split at h1
 ·assumption
 ·cases h1
theorem WB{p:aF}(h:Tm p)(hok:p.Ok):Om p:=by
 obtain⟨tp,-⟩:=CG h hok;have z:=h.small.sizes;have zc:=z.conds;refine⟨hok,NQ h,axv h.bools (by decide),axv zc (by decide),fun y hy=>?_,fun y hy=>?_,fun e he=>?_,axv z.rules (by decide),axv z.trans (by decide)⟩
 ·have:=tp.zo y hy;omega
 ·have:=tp.CV y hy;omega
 ·have hl:=h.small.conds e he;obtain⟨h1,h2⟩:=Vb (Sn h hok) (tp.conds e he) 12 (by show bF 13 e≤12;omega);exact⟨12,Nat.le_refl _,h1,axv (RA h2) (by rw[axH];exact axv h.bools (by decide))⟩
theorem abg{p:aF}(h:Om p)(o:List Int):Om (mK p o):=by
 have rl:(mK p o).rules.length≤p.rules.length:=wF _;exact⟨{ h.ok with rules:=fun y hy=>h.ok.rules y (pW y hy),wQ:=axv rl h.ok.wQ },{ h.sm with rules:=axv rl h.sm.rules },h.bools,h.conds,fun y hy=>h.zo y (pW y hy),h.CV,h.be,axv rl h.rules,h.trans⟩
end Go.Proofs.YtdcofoaihmongaaGreat
namespace Go.Proofs.YtdcofoaihmongaaGreat
open Go
theorem aY{a b:Bool}(ha:a=true)(hb:b=true):(a&&b)=true:=by rw[ha,hb];rfl
theorem jp2:(mapsRowed Tryz.prog)=true:=by kernel_rfl
theorem jp6:((Tryz.prog.stops == []))=true:=by kernel_rfl
theorem jp8:((Tryz.prog.stopKnobs == []))=true:=by kernel_rfl
theorem acr:(Tryz.prog.stopsHeard)=true:=by kernel_rfl
theorem acq:(Tryz.prog.mayEnter)=true:=by kernel_rfl
end Go.Proofs.YtdcofoaihmongaaGreat
namespace Go.Proofs.YtdcofoaihmongaaGreat
open Go Go.RowKit Go.Shelf Go.Sort
theorem aS.len(x:aS):x.cells.length=7:=rfl
theorem aS.one(x:aS):∀ v∈x.cells,v.oneCell'=true:=fun v hv=>by simp[aS.cells] at hv;rcases hv with rfl|rfl|rfl|rfl|rfl|rfl|rfl<;>rfl
end Go.Proofs.YtdcofoaihmongaaGreat
namespace Go.Proofs.YtdcofoaihmongaaGreat
open Go Go.RowKit Go.Sort Go.WideMaps
theorem U5{w w':World}{base:Nat}{e:TypeId}{k n:Nat}{v:Value}{xs:List Value}(h:w.ownsRow base e k v n xs)(hb:∀ g,v.ownBlock=some g→w'.heap[g]?=w.heap[g]?):w'.ownsRow base e k v n xs:=
 ⟨h.1,h.2.imp id fun⟨g,cap,cur,hv,hg,hh,r⟩=>⟨g,cap,cur,hv,hg,(hb g (by rw[hv];rfl)).trans hh,r⟩⟩
theorem U6{w:World}{base:Nat}{e:TypeId}{k n:Nat}{v:Value}{xs:List Value}(h:w.ownsRow base e k v n xs){g:Nat}(hg:v.ownBlock=some g):base≤g∧∃ cur,w.heap[g]?=some (.cells cur e (0,0)):=by
 rcases h.2 with⟨rfl,_⟩|⟨g',cap,cur,rfl,hb,hh,_⟩
 ·simp[Value.ownBlock] at hg
 ·have e1:g'=g:=by simpa[Value.ownBlock] using hg
  subst e1;exact⟨hb,cur,hh⟩
theorem Below.Pp{w w':World}{r B:Nat}(h:w.grownBy w' (some r))(hr:B≤r)(hB:B≤w.heap.size)(hs:w'.heap.size=w.heap.size):Below B w w':=
 ⟨h.os,h.tape,h.output,by omega,fun k hk=>h.block k (by omega) (fun e=>by cases e;omega)⟩
theorem En(E:List (bO×bh))(p:bO×bh):mL (E++[p])=mL E++(if nz p then [mkE p.1 p.2] else []):=by
 unfold mL;rw[List.filter_append,axI];congr 1;cases h:nz p<;>simp[h]
theorem BF(E:List (bO×bh)):(mL E).length≤E.length:=by unfold mL;rw[axH];exact List.length_filter_le _ _
structure KY (w wr:World) (mb r:Nat) (D E:List (bO×bh)) (left:List (Value×Value)) (u:Value):Prop where
 perm:(D.map gB).Perm (left++E.map gB)
 row:wr.ownsRow w.heap.size 94 7 u (mL E).length ((mL E).flatMap aS.cells)
 rng:dO wr Tryz.prog 113 mb r (D.map gB) left
 sR:Below w.heap.size w wr
 mlt:mb<w.heap.size
 rle:w.heap.size≤r
structure Ib (w wr:World) (mb r:Nat) (D E:List (bO×bh)) (p:bO×bh) (left:List (Value×Value)) (u:Value):Prop where
 perm:(D.map gB).Perm (left++(E++[p]).map gB)
 row:wr.ownsRow w.heap.size 94 7 u (mL E).length ((mL E).flatMap aS.cells)
 rng:dO wr Tryz.prog 113 mb r (D.map gB) left
 sR:Below w.heap.size w wr
 mlt:mb<w.heap.size
 rle:w.heap.size≤r
theorem dO.iter{P:Program}{k:TypeId}{w:World}{b r:Nat}{D left:List (Value×Value)}(h:dO w P k b r D left):∃ x y z t,w.heap[r]?=some (.mapIter x y z t):=by
 obtain⟨es,clock,since,seen,c0,_,_,_,_,hr,_⟩:=h;exact⟨_,_,_,_,hr⟩
theorem KY.small{w wr:World}{mb r:Nat}{D E:List (bO×bh)}{left:List (Value×Value)}{u:Value}(h:KY w wr mb r D E left u):(mL E).length≤D.length:=by
 have:=h.perm.length_eq;simp at this;have:=BF E;omega
theorem Ib.small{w wr:World}{mb r:Nat}{D E:List (bO×bh)}{p:bO×bh}{left:List (Value×Value)}{u:Value}(h:Ib w wr mb r D E p left u):(mL E).length+1≤D.length:=by
 have:=h.perm.length_eq;simp at this;have:=BF E;omega
theorem KY.next{w wr wn:World}{mb r:Nat}{D E:List (bO×bh)}{p:bO×bh}{left left':List (Value×Value)}{u:Value}(h:KY w wr mb r D E left u)(hp:left.Perm (gB p::left'))
 (hr:dO wn Tryz.prog 113 mb r (D.map gB) left') (hg:wr.grownBy wn (some r)) (hs:wn.heap.size=wr.heap.size):Ib w wn mb r D E p left' u:=by
 refine⟨?_,U5 h.row fun g hg'=>?_,hr,h.sR.trans (Below.Pp hg h.rle h.sR.size hs),h.mlt,h.rle⟩
 ·refine h.perm.trans ((hp.append_right _).trans ?_);rw[axI,List.map_singleton,← List.append_assoc];exact(List.perm_append_singleton _ _).symm
 ·obtain⟨_,cur,hh⟩:=U6 h.row hg';refine hg.block g (Array.getElem?_eq_some_iff.1 hh).1 (fun e=>?_);cases e;obtain⟨x,y,z,t,hi⟩:=h.rng.iter;rw[hi] at hh;cases hh
theorem Ib.own{w wn w6:World}{mb r:Nat}{D E:List (bO×bh)}{p:bO×bh}{left:List (Value×Value)}{u:Value}(h:Ib w wn mb r D E p left u)(hb:Below wn.heap.size wn w6):w6.ownsRow w.heap.size 94 7 u (mL E).length ((mL E).flatMap aS.cells):=gu hb h.row (Nat.le_refl _)
theorem Ib.skip{w wn w6:World}{mb r:Nat}{D E:List (bO×bh)}{p:bO×bh}{left:List (Value×Value)}{u:Value}(h:Ib w wn mb r D E p left u)(hz:nz p=false)(hb:Below wn.heap.size wn w6):KY w w6 mb r D (E++[p]) left u:=
 ⟨h.perm,by rw[En,hz];simpa using h.own hb,h.rng.kept (hb.block _ h.rng.map.lt) (hb.block _ h.rng.lt),h.sR.trans (hb.mono h.sR.size),h.mlt,h.rle⟩
theorem Ib.more{w wn w6 w7:World}{mb r:Nat}{D E:List (bO×bh)}{p:bO×bh}{left:List (Value×Value)}{u u':Value}{o:Obj}(h:Ib w wn mb r D E p left u)(hz:nz p=true)(hb:Below wn.heap.size wn w6)
 (hown:w7.ownsRow w.heap.size 94 7 u' ((mL E).length+1) ((mL E).flatMap aS.cells++aS.cells (mkE p.1 p.2))) (hg:(w6.alloc o).grownBy w7 u.ownBlock):KY w w7 mb r D (E++[p]) left u':=by
 have hrow:=h.own hb;have hb1:=hb.alloc (axv (Nat.le_refl _) hb.size) o;have hR:=h.rng.kept (hb1.block _ h.rng.map.lt) (hb1.block _ h.rng.lt);have hbw:Below w.heap.size w (w6.alloc o):=h.sR.trans (hb1.mono h.sR.size)
 have hne:∀ g,u.ownBlock=some g→w.heap.size≤g∧g≠r:=fun g hg'=>by
  obtain⟨h1,cur,hh⟩:=U6 (jD hrow o) hg';refine⟨h1,fun e=>?_⟩;subst e;obtain⟨x,y,z,t,hi⟩:=hR.iter;rw[hi] at hh;cases hh
 refine⟨h.perm,?_,hR.kept (hg.block _ hR.map.lt fun e=>?_) (hg.block _ hR.lt fun e=>(hne _ e.symm).2 rfl),hbw.grown hg (by have:=hb.size;have:=h.sR.size;simp;omega) (fun q hq=>(hne q hq).1),h.mlt,h.rle⟩
 ·rw[En,hz];simpa using hown
 ·have:=(hne _ e.symm).1;have:=h.mlt;omega
def kvs(l:List aS):List (bO×bh):=l.map fun e=>(e.key,e.X0)
def agV(l:List aS):bO→bh:=accum (kvs l)
structure Qm (w wr:World) (mb i:Nat) (l:List aS):Prop where
 map:jr wr mb i (agV (l.take i))
 sR:Below w.heap.size w wr
 new:w.heap.size≤mb
theorem Qm.start(w w':World)(l:List aS)(mb:Nat)(hm:jr w' mb 0 (fun _=>bh.zero))(hb:Below w.heap.size w w')(h:w.heap.size≤mb):Qm w w' mb 0 l:=⟨by simpa[agV,kvs,ET] using hm,hb,h⟩
structure aj.Wf (r:aj):Prop where
 ok:r.Ok
 kind:iX r.kind
 cls:iX r.cls
 cond:iX r.cond
 perms:Qk r.perms
def nw(r:aj)(p:Nat×Nat):bO:=⟨p.1,p.2,r.cls,r.cond⟩
def ji(r:aj)(P:List (Nat×Nat)):List (bO×bh):=P.map fun p=>(nw r p,gh r.kind r.perms)
def nJ(l:List aj):List (bO×bh):=l.flatMap fun r=>ji r r.pairs
theorem JQ{l:List aj}{i:Nat}{r:aj}(h:l[i]?=some r):nJ (l.take (i+1))=nJ (l.take i)++ji r r.pairs:=by
 unfold nJ;rw[bn h,axL,List.flatMap_singleton]
theorem U4{r:aj}{p:Nat×Nat}(h:p∈r.pairs):p.1<256∧p.2<256:=by
 unfold aj.pairs aj.bZ at h;obtain⟨s,hs,hp⟩:=List.mem_flatMap.1 h;obtain⟨t,ht,rfl⟩:=axJ.1 hp;simp[elems,cA] at hs ht;exact⟨hs.1,ht.1⟩
theorem aj.Wf.key{r:aj}(h:r.Wf){p:Nat×Nat}(hp:p∈r.pairs):(nw r p).Ok:=by
 have:=U4 hp;exact⟨⟨by show _≤(p.1:Int);omega,by show(p.1:Int)<_;omega⟩,⟨by show _≤(p.2:Int);omega,by show(p.2:Int)<_;omega⟩,h.cls,h.cond⟩
theorem aj.Wf.vec{r:aj}(h:r.Wf):(gh r.kind r.perms).Ok:=by
 have h0:Qk 0:=⟨by decide,by decide⟩;unfold gh;split
 ·exact⟨h.perms,h0,h0⟩
 ·split
  ·exact⟨h0,h.perms,h0⟩
  ·split
   ·exact⟨h0,h0,h.perms⟩
   ·exact⟨h0,h0,h0⟩
theorem jr.more{w:World}{mb n m:Nat}{f:bO→bh}(h:jr w mb n f)(hm:n≤m):jr w mb m f:=by
 obtain⟨D,h1,h2,h3,h4⟩:=h.ex;exact⟨D,h1,h2,h3,by omega⟩
theorem Oa{L M:List (bO×bh)}(hM:∀ p∈M,p.2=bh.zero)(hL:∀ k,(accum L k).Ok):accum (L++M)=accum L:=by
 induction M generalizing L with
 | nil=>simp
 | cons p M ih=>
  have e:L++p::M=(L++[p])++M:=by simp
  have h1:accum (L++[p])=accum L:=by
   rw[Dd]
   funext x
   unfold Fg;split
   ·rename_i hx;subst hx;rw[hM p (by simp),bh.or_zero (hL _)]
   ·rfl
  rw[e,ih (fun q hq=>hM q (by simp[hq])) (by rw[h1];exact hL),h1]
theorem Oc(L:List (bO×bh))(k:bO)(v:bh):accum (L++[(k,v)])=fun x=>if x=k then (accum L k).or v else accum L x:=by rw[Dd];rfl
theorem ZL{w:World}{b o:Nat}{u:Value}(h:w.cell? ⟨b,o,none⟩=some u):b<w.heap.size:=by
 obtain⟨c,e,fr,h1,-⟩:=cells_of_cell? h;exact(Array.getElem?_eq_some_iff.1 h1).1
structure Expand (w wr:World) (mb:Nat) (M:List (bO×bh)):Prop where
 map:jr wr mb M.length (accum M)
 sR:axq w.heap.size w wr
 new:w.heap.size≤mb
theorem Expand.keep{w wr w':World}{mb:Nat}{M:List (bO×bh)}(h:Expand w wr mb M)(hb:axq wr.heap.size wr w'):Expand w w' mb M:=
 ⟨h.map.kept (hb.block _ h.map.lt),h.sR.trans (hb.mono h.sR.size),h.new⟩
theorem Expand.skip{w wr w':World}{mb i:Nat}{l:List aj}{r:aj}(h:Expand w wr mb (nJ (l.take i)))(hr:l[i]?=some r)(hz:gh r.kind r.perms=bh.zero)(hb:axq wr.heap.size wr w'):Expand w w' mb (nJ (l.take (i+1))):=by
 obtain⟨h1,h2,h3⟩:=h.keep hb;refine⟨?_,h2,h3⟩;rw[JQ hr,Oa (fun p hp=>?_) (fun k=>h1.val k)]
 ·exact h1.more (by simp)
 ·obtain⟨q,-,rfl⟩:=axJ.1 hp;exact hz
structure KZ (w wr:World) (mb rb vb:Nat) (r:aj) (V:bh) (pa:Option Addr) (pn pc:Nat) (L:List (bO×bh)) (j:Nat):Prop where
 exp:Expand w wr mb (L++ji r (r.pairs.take j))
 rule:Whole wr rb 56 #[.int .i64 r.kind,.int .u64 r.src.a,.int .u64 r.src.b,.int .u64 r.src.c,.int .u64 r.src.d,.int .u64 r.tgt.a,.int .u64 r.tgt.b,.int .u64 r.tgt.c,.int .u64 r.tgt.d,.bool r.self,.int .i64 r.cls,.int .u32 r.perms,.int .i64 r.cond]
 vec:Whole wr vb 107 #[.int .u32 V.allow,.int .u32 V.bq,.int .u32 V.dont]
 cell:∀ i,i<r.pairs.length→∃ b off,pa=some ⟨b,off,none⟩∧∀ j u,(eE r.pairs)[i*2+j]?=some u→wr.cell? ⟨b,off+i*2+j,none⟩=some u
 rne:rb≠mb
 vne:vb≠mb
 pne:∀ b off,pa=some ⟨b,off,none⟩→b≠mb
theorem KZ.step{w wq w6 wx w7:World}{mb rb vb m:Nat}{r:aj}{V:bh}{pa:Option Addr}{pn pc:Nat}{L:List (bO×bh)}{j:Nat}{y:Nat×Nat}{f:bO→bh}(h:KZ w wq mb rb vb r V pa pn pc L j)(hf:f=accum (L++ji r (r.pairs.take j))∧V=gh r.kind r.perms)(hm:m=(L++ji r (r.pairs.take j)).length)
 (hb:axq wq.heap.size wq w6) (hb2:axq w6.heap.size w6 wx) (hM:jr w7 mb (m+1) (fun x=>if x=nw r y then (f (nw r y)).or V else f x)) (hg:wx.grownBy w7 (some mb)) (hs:w7.heap.size=wx.heap.size) (hy:r.pairs[j]?=some y):KZ w w7 mb rb vb r V pa pn pc L (j+1):=by
 obtain⟨rfl,rfl⟩:=hf;have sG:axq wq.heap.size wq wx:=hb.trans (hb2.mono hb.size)
 have e:L++ji r (r.pairs.take (j+1))=(L++ji r (r.pairs.take j))++[(nw r y,gh r.kind r.perms)]:=by
  unfold ji;rw[bn hy,axI,List.map_singleton,List.append_assoc]
 have k:=h.exp.keep sG;refine⟨⟨?_,?_,k.new⟩,?_,?_,?_,h.rne,h.vne,h.pne⟩
 ·rw[e,Oc,axA,List.length_singleton,← hm];exact hM
 ·exact k.sR.trans (Below.Pp hg k.new k.sR.size hs)
 ·exact(Whole.under sG h.rule h.rule.lt).grown hg (fun e=>h.rne (by cases e;rfl))
 ·exact(Whole.under sG h.vec h.vec.lt).grown hg (fun e=>h.vne (by cases e;rfl))
 ·intro i hi;obtain⟨b,off,hpa,hc⟩:=h.cell i hi;refine⟨b,off,hpa,fun j u hu=>?_⟩;have h1:=cell_later sG (hc j u hu);have hlt:=ZL (hc j u hu);rw[← h1];exact World.cell?_of_block (hg.block b (by have:=sG.size;exact Nat.lt_of_lt_of_le hlt this) (fun e=>h.pne b off hpa (by cases e;rfl)))
end Go.Proofs.YtdcofoaihmongaaGreat
namespace Go.Proofs.YtdcofoaihmongaaGreat
open Go Go.RowKit
theorem aj.oC.wf{r:aj}(h:r.oC):r.Wf:=⟨⟨h.src,h.tgt⟩,h.kind,h.cls,h.cond,h.perms⟩
def GN(l:List aj)(kind cls:Int)(s t b:Nat):Prop:=∃ r∈l,r.kind=kind∧r.cls=cls∧(s,t)∈r.pairs∧ib r.perms b=true
def jN(l l':List aj):Prop:=∀ (kind cls:Int) (s t b:Nat),s<256→t<256→(GN l kind cls s t b↔GN l' kind cls s t b)
theorem jN.trans{a b c:List aj}(h:jN a b)(k:jN b c):jN a c:=fun _ _ _ _ _ hs ht=>(h _ _ _ _ _ hs ht).trans (k _ _ _ _ _ hs ht)
end Go.Proofs.YtdcofoaihmongaaGreat

import Derived.Laws.Bits64b
import Derived.Laws.BitsLemmas
import Derived.Shelf.SlicesE.Clone
import Derived.Test.YtdcofoaihmongaaGreatProg
import Derived.Test.YtdcofoaihmongaaGreatS2
open Bool renaming and_eq_true→avM
open Go renaming wp_seq_k→avo,wpList_nil→avp,wp_cond_split→avq,wp_block→avt,cell_later→avv
open Go.RowKit renaming Below→avn
open List renaming mem_of_getElem?→avs,getElem?_eq_getElem→avw,mem_singleton→avy,take_length→avA,mem_append→avB,mem_cons→avC,mem_map→avD,length_map→avE,getElem?_map→avF,getElem?_eq_some_iff→avG,all_eq_true→avH,map_append→avI,length_append→avJ,flatMap_append→avK,filterMap_append→avL,getD_eq_getElem?_getD→avN
open Nat renaming le_trans→avr,zero_le→avu,mul_le_mul_right→avz
open Option.some renaming inj→avx
set_option maxRecDepth 100000
set_option maxHeartbeats 8000000
namespace Go.Proofs.YtdcofoaihmongaaGreat
open Go Go.RowKit
def aG(n:Nat):Int:=2^(2^n)-1
theorem five{n:Nat}(h:n≤5):n=0∨n=1∨n=2∨n=3∨n=4∨n=5:=by omega
theorem nt1{n:Nat}(h:n≤5):IntKind.i64.wrap (1*2^((n:Nat):Int).toNat)=((2^n:Nat):Int):=by
 rcases five h with rfl|rfl|rfl|rfl|rfl|rfl<;>rfl
theorem nt2{n:Nat}(h:n≤5):IntKind.i64.wrap ((((2^n:Nat):Int)).tdiv 64)=0:=by
 rcases five h with rfl|rfl|rfl|rfl|rfl|rfl<;>rfl
theorem nt3{n:Nat}(h:n≤5):IntKind.u64.wrap (1*2^((n:Nat):Int).toNat)=((2^n:Nat):Int):=by
 rcases five h with rfl|rfl|rfl|rfl|rfl|rfl<;>rfl
theorem nt4{n:Nat}(h:n≤5):IntKind.u64.wrap (1*2^(((2^n:Nat):Int)).toNat)=aG n+1:=by
 rcases five h with rfl|rfl|rfl|rfl|rfl|rfl<;>rfl
theorem nt5{n:Nat}(h:n≤5):IntKind.u64.wrap (aG n+1-1)=aG n:=by
 rcases five h with rfl|rfl|rfl|rfl|rfl|rfl<;>rfl
theorem nt6{n:Nat}(h:n≤5):2^n≤32:=by
 rcases five h with rfl|rfl|rfl|rfl|rfl|rfl<;>decide
def rK(w:World)(tp mb:Nat)(c0 c1 c2 c3 c4 c5 c6 c7 c8 c9 aQ aL aK aP aO aN aM:Value)(u:Int):Prop:=Whole w tp 304 #[c0,c1,c2,c3,c4,c5,c6,c7,c8,c9,aQ,aL,aK,aP,aO,aN,aM,.int .i64 1,.int .u64 u,.map (some mb)]
def bR(w:World)(base:Nat)(v:Value)(x:Int):Prop:=∃ g,v=.slice (some ⟨g,0,none⟩) 1 1∧Whole w g 52 #[.int .u64 x]∧base≤g
theorem bR.keep{w w':World}{base:Nat}{v:Value}{x:Int}(h:bR w base v x)(hb:avn w.heap.size w w'):bR w' base v x:=by
 obtain⟨g,e,hw,hl⟩:=h;exact⟨g,e,Whole.under hb hw hw.lt,hl⟩
def jY(i:Int)(k:Nat):Bool:=decide (bits .and .i64 (((0*64)+(k:Int))/2^(i:Int).toNat) 1=1)
def eP(i:Int):Nat→Int
 | 0=>0
 | k+1=>if jY i k=true then bits .or .u64 (eP i k) (IntKind.u64.wrap (1*2^((k:Int):Int).toNat)) else eP i k
def zI(u i:Int):Int:=bits .and .u64 (eP i 64) u
def notM(u x:Int):Int:=bits .and .u64 (bits .xor .u64 18446744073709551615 x) u
def qM(op:Int):Int:=if op=1 then 0 else if op=2 then 1 else 2
def Ei(u op x y:Int):Int:=if op=3 then bits .and .u64 x y else if op=4 then bits .or .u64 x y else if op=6 then bits .and .u64 (bits .xor .u64 18446744073709551615 (bits .xor .u64 x y)) u else bits .xor .u64 x y
def dG(n:Nat)(op a:Int)(k:Nat):Bool:=((!decide ((k:Int)=qM op))||(decide (op=1)&&(decide (a<0)||decide ((n:Int)≤a))))
def Me(u:Int)(n:Nat)(op a:Int)(l:List Int):Int:=
 if dG n op a l.length=true then 0 else if op=1 then zI u a else if op=2 then notM u (l.getD 0 0) else Ei u op (l.getD 0 0) (l.getD 1 0)
mutual
def bJ(u:Int)(n:Nat):ak→Int
 | .node op a _ _ _ _ kids=>Me u n op a (og u n kids)
def og(u:Int)(n:Nat):List ak→List Int
 | []=>[]
 | k::l=>bJ u n k::og u n l
end
theorem uL(u:Int)(n:Nat)(e:ak):bJ u n e=Me u n e.op e.a (og u n e.kids):=by cases e;rw[bJ];rfl
theorem qv(u:Int)(n:Nat):∀ l:List ak,(og u n l).length=l.length
 | []=>by rw[og];rfl
 | k::l=>by rw[og,List.length_cons,List.length_cons,qv u n l]
theorem uM(u:Int)(n:Nat):∀ (l:List ak) (i:Nat) {y:ak},l[i]?=some y→(og u n l).getD i 0=bJ u n y
 | [],_,_,h=>by simp at h
 | k::l,0,y,h=>by
  rw[og];obtain rfl:k=y:=by simpa using h
  rfl
 | k::l,i+1,y,h=>by
  rw[og];simpa using uM u n l i (by simpa using h)
theorem Dw{i:Int}{k:Nat}(h:jY i k=true):eP i (k+1)=bits .or .u64 (eP i k) (IntKind.u64.wrap (1*2^((k:Int):Int).toNat)):=if_pos h
theorem Fl{i:Int}{k:Nat}(h:jY i k=false):eP i (k+1)=eP i k:=if_neg (by rw[h];decide)
theorem nN(w0:World)(c0 c1 c2 c3 c4 c6 c7 c8 c9 aQ aL aK aP aO aN aM:Value)(iz:Option Addr)(nB iy:Nat)(hn:nB≤5):Calls Tryz.prog 148 #[.agg #[c0,c1,c2,c3,c4,.slice iz nB iy,c6,c7,c8,c9,aQ,aL,aK,aP,aO,aN,aM]] w0 (fun(r:Ending) (w':World)=>∃ v,r=.returned v∧((∃ tp mb,v=.pointer (some ⟨tp,0,none⟩)∧rK w' tp mb c0 c1 c2 c3 c4 (.slice iz nB iy) c6 c7 c8 c9 aQ aL aK aP aO aN aM (aG nB)∧aU w' Tryz.prog 3 mb (List.map ival [])∧w0.heap.size≤tp∧w0.heap.size≤mb)∧avn w0.heap.size w0 w')):=by
 have hn6:=nt6 hn;have ct:=hr1 Tryz.prog Tryz.f148 (fun(r:Ending) (w':World)=>∃ v,r=.returned v∧((∃ tp mb,v=.pointer (some ⟨tp,0,none⟩)∧rK w' tp mb c0 c1 c2 c3 c4 (.slice iz nB iy) c6 c7 c8 c9 aQ aL aK aP aO aN aM (aG nB)∧aU w' Tryz.prog 3 mb (List.map ival [])∧w0.heap.size≤tp∧w0.heap.size≤mb)∧avn w0.heap.size w0 w')) 28 2 rfl;refine en Tryz.func148 rfl Tryz.ntmps148 rfl (vs:=[.agg #[c0,c1,c2,c3,c4,.slice iz nB iy,c6,c7,c8,c9,aQ,aL,aK,aP,aO,aN,aM]]) rfl fun _ F=>?_
 have M:=Mm.start w0;refine avo fun K1 jq=>ah<|PZ (on rfl) rfl (F.u rf) rfl F rfl M fun g1 _ _ F M=>xA (v:=(.pointer none)) F rf rf rf fun _ F=>avp<|jq _ _ ?_
 refine avo fun K2 jW=>ah<|xF 5 F rf rf rf O_ rf ahW rf fun _ F=>xL F (M.b 0 rfl) rf rf rf u27 rf rf fun _ F=>kz F rf (h_ rfl (F.u rf) u27) fun _ F=>
  ke (on rfl) (ado rfl (F.u rf) rfl) rfl F rfl (congrArg (Value.int .i64) (if_neg (by omega))) fun _ F=>
  xA F rf rf rf fun _ F=>
  avp<|
  jW _ _ ?_
 refine avo fun K3 pR=>?_
 refine rd 9 [9,10,11,12,13,14,15,16,4] [kU (.agg #[c0,c1,c2,c3,c4,.slice iz nB iy,c6,c7,c8,c9,aQ,aL,aK,aP,aO,aN,aM]),kU (.int .i64 (nB:Int)),kU (.int .i64 ((2^nB:Nat):Int)),kU (.int .i64 0),kU (.int .i64 1),(IC M.wd),(Lr M.wd #[c0,c1,c2,c3,c4,.slice iz nB iy,c6,c7,c8,c9,aQ,aL,aK,aP,aO,aN,aM,.int .i64 1,.int .u64 18446744073709551615]),(DP M.wd 304 #[c0,c1,c2,c3,c4,.slice iz nB iy,c6,c7,c8,c9,aQ,aL,aK,aP,aO,aN,aM,.int .i64 1,.int .u64 18446744073709551615]),(DP M.wd 304 #[c0,c1,c2,c3,c4,.slice iz nB iy,c6,c7,c8,c9,aQ,aL,aK,aP,aO,aN,aM,.int .i64 1,.int .u64 18446744073709551615])] (by kernel_rfl) (by kernel_rfl) (by kernel_rfl) rfl (by decide) rfl rfl F ⟨bg _,bg _,bg _,bg _,bg _,RY _,J2 _ _,zx _ _ _,zx _ _ _,trivial⟩ ⟨?_,?_,?_,?_,?_,?_,?_,?_,?_,trivial⟩ ?_
 ·exact fun a w Q' hf hi H G hK=>dv (on rfl) (AY rfl (G 1 _ rfl (F.g 1 rfl)).ev O_ rfl ((M.keep hi).b 0 rfl) BO rfl) rfl hf rfl hK rfl
 ·exact fun a w Q' hf hi H G hK=>dv (on rfl) (eO rfl (G 3 _ rfl (F.g 3 rfl)).ev) rfl hf rfl hK rfl
 ·exact fun a w Q' hf hi H G hK=>dv (on rfl) (ku rfl rfl (iA (H 1 ⟨.data,by simp,rfl⟩ _ _ rfl rfl)).ev (by omega) (show _≤((64:Nat):Int) by omega)) rfl hf rfl hK (Eq.symm (congrArg (Value.int .i64) (nt1 hn)))
 ·exact fun a w Q' hf hi H G hK=>dv (on rfl) (Xc rfl (iA (H 2 ⟨.data,by simp,rfl⟩ _ _ rfl rfl)).ev rfl (by decide)) rfl hf rfl hK (Eq.symm (congrArg (Value.int .i64) (nt2 hn)))
 ·exact fun a w Q' hf hi H G hK=>dv (on rfl) (Di rfl rfl (iA (H 3 ⟨.data,by simp,rfl⟩ _ _ rfl rfl)).ev) rfl hf rfl hK (Eq.symm rfl)
 ·exact fun a w Q' hf hi H G hK=>dmk (on rfl) rfl FK rfl hf rfl hi hK
 ·intro a w Q' hf hi H G hK;obtain⟨_,h14,mb2,rfl,ai2,ain⟩:=H 5 ⟨.data,by simp,rfl⟩ _ _ rfl rfl;exact dv (on rfl) (vS rfl (pv:=#[(0,.agg #[c0,c1,c2,c3,c4,.slice iz nB iy,c6,c7,c8,c9,aQ,aL,aK,aP,aO,aN,aM]),(1,.int .i64 1),(2,.int .u64 18446744073709551615),(3,(.map (some mb2)))]) (by simp[(iA (H 0 ⟨.data,by simp,rfl⟩ _ _ rfl rfl)).ev,(iA (H 4 ⟨.data,by simp,rfl⟩ _ _ rfl rfl)).ev,h14.ev,BigFrame.eval_const]) (cells:=#[c0,c1,c2,c3,c4,.slice iz nB iy,c6,c7,c8,c9,aQ,aL,aK,aP,aO,aN,aM,.int .i64 1,.int .u64 18446744073709551615,.map (some mb2)]) (by kernel_rfl)) rfl hf rfl hK ⟨mb2,rfl,ai2,ain⟩
 ·intro a w Q' hf hi H G hK;obtain⟨_,h15,mbx,rfl,EX,lmx⟩:=H 6 ⟨.data,by simp,rfl⟩ _ _ rfl rfl;exact dn (f:=fun n=>.pointer (some ⟨n,0,none⟩)) (on rfl) (Qn rfl h15.ev) rfl hf rfl hK (fun b w' n=>⟨b,mbx,rfl,n.whole,EX.kept (n.below.block _ EX.lt),n.at_▸hi.size,lmx⟩)
 ·intro a w Q' hf hi H G hK;obtain⟨_,h16,tpx,mbx,rfl,htx,EX,ltx,lmx⟩:=H 7 ⟨.data,by simp,rfl⟩ _ _ rfl rfl;exact dv (on rfl) (oO rfl h16.ev) rfl hf rfl hK ⟨tpx,mbx,rfl,htx,EX,ltx,lmx⟩
 (repeat clear F);intro _ _ LG F D
 have M0:=M;have ajm:=LG;obtain⟨_,h,tpx,mbx,rfl,htx,EX,ltx,lmx⟩:=D 8 _ _ rfl rfl;have F:=F.add h;have M:=M.keep LG;clear D LG;have M:=M0.Gc ajm (b1:=(tpx,304,#[c0,c1,c2,c3,c4,.slice iz nB iy,c6,c7,c8,c9,aQ,aL,aK,aP,aO,aN,aM,.int .i64 1,.int .u64 18446744073709551615,(.map (some mbx))])) (.inl ⟨rfl,htx⟩) ltx (b2:=(mbx,9003,eC [])) (nh EX) lmx (gW htx EX);refine pR _ _ ?_
 refine avo fun K4 p9=>avo fun K5 q5=>ah<|xM F rf rf rf fun _ F=>
  ke (on rfl) (ku rfl rfl (F.u rf) (by omega) (show _≤((64:Nat):Int) by omega)) rfl F rfl (congrArg (Value.int .i64) (nt1 hn)) fun _ F=>
  kz F rf (kO rfl (F.u rf) rfl) fun _ F=>
  avp<|
  q5 _ _ ?_
 refine avq (F.e 19 rfl) (fun hc3=>?_) (fun hc3=>?_)
 ·have Wo:=of_decide_eq_true hc3
  refine ah<|xM F rf rf rf fun _ F=>xM F rf rf rf fun _ F=>
   ke (on rfl) (ku rfl rfl (F.u rf) (by omega) (show _≤((64:Nat):Int) by omega)) rfl F rfl (congrArg (Value.int .u64) (nt3 hn)) fun _ F=>
   ke (on rfl) (ku rfl rfl (F.u rf) (Int.natCast_nonneg _) (Int.ofNat_le.2 (avr hn6 (by decide)))) rfl F rfl (congrArg (Value.int .u64) (nt4 hn)) fun _ F=>
   ke (on rfl) (Qi rfl (F.u rf) rfl) rfl F rfl (congrArg (Value.int .u64) (nt5 hn)) fun _ F=>
   kz F rf (dJ rfl (F.u rf)) fun _ F=>
   xF 18 F rf rf rf zT rf BN rf fun _ F=>
   ks (on rfl) rfl (F.u rf) (F.u rf) F M 0 (cs':=#[c0,c1,c2,c3,c4,.slice iz nB iy,c6,c7,c8,c9,aQ,aL,aK,aP,aO,aN,aM,.int .i64 1,.int .u64 (aG nB),(.map (some mbx))]) rfl rfl rfl BN rfl rfl rfl rfl fun _ M=>
   avp<|
   p9 _ _ ?_
  refine avo fun K6 tu=>ah<|xM F rf rf rf fun _ F=>xA F rf rf rf fun _ F=>avp<|tu _ _ ?_
  refine wp_ret<|ct _ _ _ _ F rfl ?_;exact⟨_,rfl,⟨_,_,rfl,M.b 0 rfl,M.map 1 rfl,M.lo _ (avs (i:=0) rfl),M.lo _ (avs (i:=1) rfl)⟩,M.below⟩
 ·have Wn:=of_decide_eq_false hc3;exfalso;omega
theorem F8(w0:World)(op:Int):Calls Tryz.prog 232 #[.int .i64 op] w0 (fun(e:Ending) (w':World)=>e=.returned (.int .i64 (qM op))∧avn w0.heap.size w0 w'):=by
 exact bP [] (fn:=Tryz.f232) Tryz.func232 rfl Tryz.ntmps232 rfl<|an (fun a=>fun M=>⟨ri (by simp_all [qM]),M.below⟩) fun a=>an (fun b=>fun M=>⟨ri (by simp_all [qM]),M.below⟩) fun b=>fun M=>⟨ri (by simp_all [qM]),M.below⟩
theorem La(w0:World)(tp mb:Nat)(c0 c1 c2 c3 c4 c6 c7 c8 c9 aQ aL aK aP aO aN aM:Value)(iz:Option Addr)(nB iy:Nat)(u:Int)(hT:rK w0 tp mb c0 c1 c2 c3 c4 (.slice iz nB iy) c6 c7 c8 c9 aQ aL aK aP aO aN aM u)(bi:Int)(hb0:0≤bi)(hb1:bi≤60):Calls Tryz.prog 233 #[.pointer (some ⟨tp,0,none⟩),.int .i64 bi] w0 (fun(r:Ending) (w':World)=>∃ v,r=.returned v∧((bR w' w0.heap.size v (zI u bi))∧avn w0.heap.size w0 w')):=by
 have TS:∀ j uu,[c0,c1,c2,c3,c4,.slice iz nB iy,c6,c7,c8,c9,aQ,aL,aK,aP,aO,aN,aM,.int .i64 1,.int .u64 u,(.map (some mb))][j]?=some uu→w0.cell? ⟨tp,0+j,none⟩=some uu:=fun j u hu=>by rw[Nat.zero_add];exact(Whole.cell hT j).trans (by simpa using hu)
 have ct:=hr1 Tryz.prog Tryz.f233 (fun(r:Ending) (w':World)=>∃ v,r=.returned v∧((bR w' w0.heap.size v (zI u bi))∧avn w0.heap.size w0 w')) 50 4 rfl;refine en Tryz.func233 rfl Tryz.ntmps233 rfl (vs:=[.pointer (some ⟨tp,0,none⟩),.int .i64 bi]) rfl fun _ F=>?_
 have M:=Mm.start w0;refine avo fun K1 jq=>ah<|xA (v:=.slice none 0 0) F rf rf rf fun _ F=>avp<|jq _ _ ?_
 refine avo fun K2 jW=>ah<|xM F rf rf rf fun _ F=>kz F rf (dJ rfl (F.u rf)) fun _ F=>xF 17 F rf rf rf zT rf Z9 rf fun _ F=>kz F rf (dB rf (F.u rf) u3 rfl ((bY M.below TS) 17 _ rfl)) fun _ F=>
  kn (f:=fun n=>.slice (some ⟨n,0,none⟩) 1 1) (on rfl) (GV rfl (F.u rf) (F.u rf) BJ Ka TY rfl (by decide)) rfl F rfl M fun g1 _ _ F M=>
  xA F rf rf rf fun _ F=>
  avp<|
  jW _ _ ?_
 refine avo fun K3 pR=>avo fun K4 p9=>ah<|xM F rf rf rf fun _ F=>kz F rf (h_ rfl (F.u rf) BJ) fun _ F=>xM (v:=.int .i64 0) F rf rf rf fun _ F=>avp<|p9 _ _ ?_
 refine avt<|?_;refine gj (ι:=Nat×Int) (fun|(t,x),a,w=>Fs a 50 [(0,.pointer (some ⟨tp,0,none⟩)),(1,.int .i64 bi),(5,.slice (some ⟨g1,0,none⟩) 1 1),(14,.int .i64 1),(15,.int .i64 (t:Int))]∧Mm w0 w [(g1,52,#[.int .u64 x])] []∧t≤1∧(t=0→x=0)∧(t=1→x=zI u bi)) (fun|(t,x)=>1-t) (0,0) ⟨F.sub ⟨rfl,rfl,rfl,rfl,rfl,trivial⟩,M,avu _,⟨fun _=>rfl,fun h=>by cases h⟩⟩ ?_
 (repeat clear F);(repeat clear M)
 rintro⟨t,x⟩ _ _ ⟨F,M,ht,hx⟩;refine avo fun K5 q5=>ah<|kz F rf (kO rfl (F.u rf) (F.u rf)) fun _ F=>avp<|q5 _ _ ?_
 refine avo fun K6 tu=>?_
 refine avq (F.e 16 rfl) (fun hc2=>?_) (fun hc2=>?_)
 ·have hd3:=of_decide_eq_true hc2;refine wp_skip<|tu _ _ ?_;refine avo fun K7 vK=>avt<|avo fun K8 CW=>?_
  have ht0:t=0:=by omega
  have F:=F.eq 15 rfl (congrArg (Value.int .i64) (show((t:Nat):Int)=0 by omega));refine ah<|xM F rf rf rf fun _ F=>xA F rf rf rf fun _ F=>avp<|CW _ _ ?_
  refine avo fun K9 AV=>avo fun X0 nP=>ah<|xM (v:=.int .i64 0) F rf rf rf fun _ F=>avp<|nP _ _ ?_
  refine avt<|?_;refine gj (ι:=Nat×Int) (fun|(k,acc),a,w=>Fs a 50 [(0,.pointer (some ⟨tp,0,none⟩)),(1,.int .i64 bi),(5,.slice (some ⟨g1,0,none⟩) 1 1),(6,.int .i64 0),(14,.int .i64 1),(15,.int .i64 0),(18,.int .i64 (k:Int))]∧Mm w0 w [(g1,52,#[.int .u64 acc])] []∧k≤64∧acc=eP bi k) (fun|(k,acc)=>64-k) (0,x) ⟨F.sub ⟨rfl,rfl,rfl,rfl,rfl,rfl,rfl,trivial⟩,M,avu _,hx.1 ht0⟩ ?_
  (repeat clear F);(repeat clear M)
  rintro⟨k,acc⟩ _ _ ⟨F,M,hk,hacc⟩;refine avo fun K11 ud=>ah<|kz F rf (kO rfl (F.u rf) rfl) fun _ F=>avp<|ud _ _ ?_
  refine avo fun K12 t_=>?_
  refine avq (F.e 19 rfl) (fun Zj=>?_) (fun Zj=>?_)
  ·have Wn:=of_decide_eq_true Zj;refine wp_skip<|t_ _ _ ?_;refine avo fun K13 sH=>avt<|avo fun K14 yq=>ah<|xM F rf rf rf fun _ F=>xA F rf rf rf fun _ F=>avp<|yq _ _ ?_
   refine avo fun K15 vL=>ah<|xM F rf rf rf fun _ F=>
    ke (on rfl) (aa3 rfl (F.u rf) rfl) rfl F rfl (congrArg (Value.int .i64) (wrap_i64 (by omega))) fun _ F=>
    xM F rf rf rf fun _ F=>
    ke (on rfl) (gN rfl (F.u rf) (F.u rf)) rfl F rfl (congrArg (Value.int .i64) (wrap_i64 (by omega))) fun _ F=>
    xM F rf rf rf fun _ F=>
    kz F rf (Qj rfl (F.u rf) (F.u rf) (by omega) (show _≤((64:Nat):Int) by omega)) fun _ F=>
    kz F rf (Xh rfl (F.u rf) rfl) fun _ F=>
    kz F rf (Xf rfl (F.u rf) rfl) fun _ F=>
    avp<|
    vL _ _ ?_
   refine avq (F.e 28 rfl) (fun yj=>?_) (fun yj=>?_)
   ·have hd7:=of_decide_eq_true yj;have hbit:jY bi k=true:=yj;refine rd 8 [29,30,31,32,33,34,35,36] [kU (.slice (some ⟨g1,0,none⟩) 1 1),kU (.int .i64 0),kU (.pointer (some ⟨g1,0,none⟩)),kU (.int .u64 acc),kU (.int .i64 (k:Int)),kU (.int .u64 (IntKind.u64.wrap (1*2^((k:Int):Int).toNat))),kU (.int .u64 (bits .or .u64 acc (IntKind.u64.wrap (1*2^((k:Int):Int).toNat)))),kU (.pointer (some ⟨g1,0,none⟩))] (by kernel_rfl) (by kernel_rfl) (by kernel_rfl) rfl (by decide) rfl rfl F ⟨bg _,bg _,bg _,bg _,bg _,bg _,bg _,bg _,trivial⟩ ⟨?_,?_,?_,?_,?_,?_,?_,?_,trivial⟩ ?_
    ·exact fun a w Q' hf hi H G hK=>dv (on rfl) (eO rfl (G 5 _ rfl (F.g 5 rfl)).ev) rfl hf rfl hK rfl
    ·exact fun a w Q' hf hi H G hK=>dv (on rfl) (eO rfl (G 6 _ rfl (F.g 6 rfl)).ev) rfl hf rfl hK rfl
    ·exact fun a w Q' hf hi H G hK=>dv (on rfl) (cB (i:=0) rfl (iA (H 0 ⟨.data,by simp,rfl⟩ _ _ rfl rfl)).ev (iA (H 1 ⟨.data,by simp,rfl⟩ _ _ rfl rfl)).ev (by omega) BJ BN) rfl hf rfl hK rfl
    ·exact fun a w Q' hf hi H G hK=>dv (on rfl) (dB rfl (iA (H 2 ⟨.data,by simp,rfl⟩ _ _ rfl rfl)).ev u52 rfl (((M.keep hi).b 0 rfl).c1 0)) rfl hf rfl hK rfl
    ·exact fun a w Q' hf hi H G hK=>dv (on rfl) (eO rfl (G 7 _ rfl (F.g 7 rfl)).ev) rfl hf rfl hK rfl
    ·exact fun a w Q' hf hi H G hK=>dv (on rfl) (ku rfl rfl (iA (H 4 ⟨.data,by simp,rfl⟩ _ _ rfl rfl)).ev (by omega) (show _≤((64:Nat):Int) by omega)) rfl hf rfl hK rfl
    ·exact fun a w Q' hf hi H G hK=>dv (on rfl) (agt rfl (iA (H 3 ⟨.data,by simp,rfl⟩ _ _ rfl rfl)).ev (iA (H 5 ⟨.data,by simp,rfl⟩ _ _ rfl rfl)).ev) rfl hf rfl hK rfl
    ·exact fun a w Q' hf hi H G hK=>dv (on rfl) (cB (i:=0) rfl (iA (H 0 ⟨.data,by simp,rfl⟩ _ _ rfl rfl)).ev (iA (H 1 ⟨.data,by simp,rfl⟩ _ _ rfl rfl)).ev (by omega) BJ BN) rfl hf rfl hK rfl
    (repeat clear F);intro _ _ LG F D
    obtain⟨_,h,rfl⟩:=D 6 _ _ rfl rfl;have F:=F.add h;obtain⟨_,h,rfl⟩:=D 7 _ _ rfl rfl;have F:=F.add h;have M:=M.keep LG;clear D LG;intro Qt hQt;refine ks (on rfl) rfl (F.u rf) (F.u rf) F M 0 (cs':=#[.int .u64 (bits .or .u64 acc (IntKind.u64.wrap (1*2^((k:Int):Int).toNat)))]) rfl rfl rfl BN rfl (lF _ _ rfl) rfl rfl fun _ M=>avp (hQt _ _ ?_)
    refine sH _ _ ?_
    refine ah<|
     ke (on rfl) (gN rfl (F.u rf) rfl) rfl F rfl (congrArg (Value.int .i64) (wrap_i64 (by omega))) fun _ F=>
     xM F rf rf rf fun _ F=>
     avp<|?_
    exact⟨(k+1,bits .or .u64 acc (IntKind.u64.wrap (1*2^((k:Int):Int).toNat))),⟨F.sub ⟨rfl,rfl,rfl,rfl,rfl,rfl,rfl,trivial⟩,M,by omega,by rw[Dw hbit,← hacc]⟩,by show 64-(k+1)<64-k;omega⟩
   ·have hd8:=of_decide_eq_false yj;have hbit:jY bi k=false:=yj;refine wp_skip<|sH _ _ ?_
    refine ah<|
     ke (on rfl) (gN rfl (F.u rf) rfl) rfl F rfl (congrArg (Value.int .i64) (wrap_i64 (by omega))) fun _ F=>
     xM F rf rf rf fun _ F=>
     avp<|?_
    exact⟨(k+1,acc),⟨F.sub ⟨rfl,rfl,rfl,rfl,rfl,rfl,rfl,trivial⟩,M,by omega,by rw[Fl hbit,← hacc]⟩,by show 64-(k+1)<64-k;omega⟩
  ·have hd9:=of_decide_eq_false Zj;refine wp_exit<|AV _ _ ?_;refine rd 10 [38,39,40,41,42,43,44,45,46,47] [kU (.slice (some ⟨g1,0,none⟩) 1 1),kU (.int .i64 0),kU (.pointer (some ⟨g1,0,none⟩)),kU (.int .u64 acc),kU (.pointer (some ⟨tp,0,none⟩)),kU (.pointer (some ⟨tp,0,none⟩)),kU (.pointer (some ⟨tp,18,none⟩)),kU (.int .u64 u),kU (.int .u64 (bits .and .u64 acc u)),kU (.pointer (some ⟨g1,0,none⟩))] (by kernel_rfl) (by kernel_rfl) (by kernel_rfl) rfl (by decide) rfl rfl F ⟨bg _,bg _,bg _,bg _,bg _,bg _,bg _,bg _,bg _,bg _,trivial⟩ ⟨?_,?_,?_,?_,?_,?_,?_,?_,?_,?_,trivial⟩ ?_
   ·exact fun a w Q' hf hi H G hK=>dv (on rfl) (eO rfl (G 5 _ rfl (F.g 5 rfl)).ev) rfl hf rfl hK rfl
   ·exact fun a w Q' hf hi H G hK=>dv (on rfl) (eO rfl (G 6 _ rfl (F.g 6 rfl)).ev) rfl hf rfl hK rfl
   ·exact fun a w Q' hf hi H G hK=>dv (on rfl) (cB (i:=0) rfl (iA (H 0 ⟨.data,by simp,rfl⟩ _ _ rfl rfl)).ev (iA (H 1 ⟨.data,by simp,rfl⟩ _ _ rfl rfl)).ev (by omega) BJ BN) rfl hf rfl hK rfl
   ·exact fun a w Q' hf hi H G hK=>dv (on rfl) (dB rfl (iA (H 2 ⟨.data,by simp,rfl⟩ _ _ rfl rfl)).ev u52 rfl (((M.keep hi).b 0 rfl).c1 0)) rfl hf rfl hK rfl
   ·exact fun a w Q' hf hi H G hK=>dv (on rfl) (eO rfl (G 0 _ rfl (F.g 0 rfl)).ev) rfl hf rfl hK rfl
   ·exact fun a w Q' hf hi H G hK=>dv (on rfl) (dJ rfl (iA (H 4 ⟨.data,by simp,rfl⟩ _ _ rfl rfl)).ev) rfl hf rfl hK rfl
   ·exact fun a w Q' hf hi H G hK=>dv (on rfl) (kV rfl (iA (H 5 ⟨.data,by simp,rfl⟩ _ _ rfl rfl)).ev zT rfl BN) rfl hf rfl hK rfl
   ·exact fun a w Q' hf hi H G hK=>dv (on rfl) (dB rfl (iA (H 6 ⟨.data,by simp,rfl⟩ _ _ rfl rfl)).ev u52 rfl ((bY (M.keep hi).below TS) 18 _ rfl)) rfl hf rfl hK rfl
   ·exact fun a w Q' hf hi H G hK=>dv (on rfl) (Xh rfl (iA (H 3 ⟨.data,by simp,rfl⟩ _ _ rfl rfl)).ev (iA (H 7 ⟨.data,by simp,rfl⟩ _ _ rfl rfl)).ev) rfl hf rfl hK rfl
   ·exact fun a w Q' hf hi H G hK=>dv (on rfl) (cB (i:=0) rfl (iA (H 0 ⟨.data,by simp,rfl⟩ _ _ rfl rfl)).ev (iA (H 1 ⟨.data,by simp,rfl⟩ _ _ rfl rfl)).ev (by omega) BJ BN) rfl hf rfl hK rfl
   (repeat clear F);intro _ _ LG F D
   obtain⟨_,h,rfl⟩:=D 8 _ _ rfl rfl;have F:=F.add h;obtain⟨_,h,rfl⟩:=D 9 _ _ rfl rfl;have F:=F.add h;have M:=M.keep LG;clear D LG;intro Qt hQt;refine ks (on rfl) rfl (F.u rf) (F.u rf) F M 0 (cs':=#[.int .u64 (bits .and .u64 acc u)]) rfl rfl rfl BN rfl (lF _ _ rfl) rfl rfl fun _ M=>avp (hQt _ _ ?_)
   refine vK _ _ ?_;have F:=F.eq 15 rfl (congrArg (Value.int .i64) (show(0:Int)=((t:Nat):Int) by omega))
   refine ah<|
    ke (on rfl) (gN rfl (F.u rf) rfl) rfl F rfl (congrArg (Value.int .i64) (wrap_i64 (by omega))) fun _ F=>
    xM F rf rf rf fun _ F=>
    avp<|?_
   exact⟨(t+1,bits .and .u64 acc u),⟨F.sub ⟨rfl,rfl,rfl,rfl,rfl,trivial⟩,M,by omega,⟨fun h=>by omega,fun _=>by rw[show k=64 by omega] at hacc;rw[hacc];rfl⟩⟩,by show 1-(t+1)<1-t;omega⟩
 ·have ajd:=of_decide_eq_false hc2;refine wp_exit<|pR _ _ ?_;refine avo fun K16 Gu=>ah<|xM F rf rf rf fun _ F=>xA F rf rf rf fun _ F=>avp<|Gu _ _ ?_
  refine wp_ret<|ct _ _ _ _ F rfl ?_;exact⟨_,rfl,⟨_,rfl,(by have hW:=M.b 0 rfl;rw[hx.2 (by omega)] at hW;exact hW),M.lo _ (avs (i:=0) rfl)⟩,M.below⟩
theorem cst{B:Nat}{w0 w:World}{bs:List Bx}{rs:List Rw}{X:Prop}{f:FuncId}{args:Array Value}{x:Int}{K:Value→List Bx→List Rw→World→Prop}(M:aV B w0 w bs rs)
 (hc:Calls Tryz.prog f args w fun r w'=>∃ v,r=.returned v∧(bR w' w.heap.size v x∧avn w.heap.size w w')) (h:∀ g w',aV B w0 w' ((g,52,#[.int .u64 x])::bs) rs→K (.slice (some ⟨g,0,none⟩) 1 1) ((g,52,#[.int .u64 x])::bs) rs w') :
 X∨∃ R:Value→World→Prop,(Calls Tryz.prog f args w fun e w'=>∃ v,e=.returned v∧R v w')∧∀ v w',R v w'→∃ bs' rs',aV B w0 w' bs' rs'∧K v bs' rs' w':=
 .inr ⟨_,hc,fun v w' ⟨⟨g,e,hW,hg⟩,hb⟩=>by subst e;exact⟨_,_,M.newAt hb hW hg,h g w' (M.newAt hb hW hg)⟩⟩
theorem mz1{B:Nat}{w0 w:World}{bs:List Bx}{rs:List Rw}{t e ty b:Nat}{z:Value}{x y:Operand}{κ κ':IntKind}{K:Value→List Bx→List Rw→World→Prop}(M:aV B w0 w bs rs)(hu:Tryz.prog.underlying t=some (.slice e))(hi:iV (Tryz.prog.info? e) 1 b=true)(hz:(Tryz.prog.info? e).bind (·.zero)=some z)(h1:z.cells=#[z])(hb:b≤281474976710656)
 (h:∀ g w',aV B w0 w' ((g,e,#[z])::bs) rs→K (.slice (some ⟨g,0,none⟩) 1 1) ((g,e,#[z])::bs) rs w') (he:Nat.blt e 9000=true:=by rfl) :
 ∃ R:Value→World→Prop,(∀ (a:Act) (o':Oper),o'.op=.makeSlice t x y→o'.type=ty→wK a [x,y] [.int κ 1,.int κ' 1]→∃ v w',(execOp a.eval o').run Tryz.prog w=.ok (.value v) w'∧R v w')∧∀ v w',R v w'→∃ bs' rs',aV B w0 w' bs' rs'∧K v bs' rs' w':=by
 refine⟨fun v w'=>v=.slice (some ⟨w.heap.size,0,none⟩) 1 1∧w'=w.alloc (.cells #[z] e),fun a o' ho _ oV=>⟨_,_,GV ho (dU oV) (fE oV) hu hi hz h1 hb,rfl,rfl⟩,?_⟩;rintro v w' ⟨rfl,rfl⟩;have M':=M.newAt (w':=w.alloc (.cells #[z] e)) ((Below.refl _ w).alloc (Nat.le_refl _) _) (Whole.new w e #[z]) (Nat.le_refl _) he;exact⟨_,_,M',h _ _ M'⟩
section
variable {u:Int} {n:Nat} {e:ak}
theorem QU{n:Nat}{op a:Int}{k:Nat}(h:dG n op a k=false):(k:Int)=qM op∧(op=1→0≤a∧a<n):=by
 unfold dG at h;simp only[Bool.or_eq_false_iff,Bool.not_eq_false',decide_eq_true_eq,Bool.and_eq_false_iff,decide_eq_false_iff_not] at h;refine⟨h.1,fun ho=>?_⟩;rcases h.2 with h2|h2
 ·exact absurd ho h2
 ·omega
theorem Ya(h:dG n e.op e.a e.kids.length=true):bJ u n e=0:=by
 rw[uL,Me,qv,if_pos h]
theorem Uy(h:dG n e.op e.a e.kids.length=false)(h1:e.op=1):bJ u n e=zI u e.a:=by
 rw[uL,Me,qv,if_neg (by rw[h];decide),if_pos h1]
theorem X9{y:ak}(h:dG n e.op e.a e.kids.length=false)(h2:e.op=2)(hy:e.kids[0]?=some y):bJ u n e=notM u (bJ u n y):=by
 rw[uL,Me,qv,if_neg (by rw[h];decide),if_neg (by omega),if_pos h2,uM _ _ _ _ hy]
theorem X_{y z:ak}(h:dG n e.op e.a e.kids.length=false)(h1:e.op≠1)(h2:e.op≠2)(hy:e.kids[0]?=some y)(hz:e.kids[1]?=some z):bJ u n e=Ei u e.op (bJ u n y) (bJ u n z):=by
 rw[uL,Me,qv,if_neg (by rw[h];decide),if_neg h1,if_neg h2,uM _ _ _ _ hy,uM _ _ _ _ hz]
end
theorem Az(w0:World)(tp mb:Nat)(c0 c1 c2 c3 c4 c6 c7 c8 c9 aQ aL aK aP aO aN aM:Value)(iz:Option Addr)(nB iy:Nat)(u:Int)(hT:rK w0 tp mb c0 c1 c2 c3 c4 (.slice iz nB iy) c6 c7 c8 c9 aQ aL aK aP aO aN aM u)(sg:Nat)(sx:Int)(hs:Whole w0 sg 52 #[.int .u64 sx]):Calls Tryz.prog 175 #[.pointer (some ⟨tp,0,none⟩),.slice (some ⟨sg,0,none⟩) 1 1] w0 (fun(r:Ending) (w':World)=>∃ v,r=.returned v∧((bR w' w0.heap.size v (notM u sx))∧avn w0.heap.size w0 w')):=by
 refine bP [] (fn:=Tryz.f175) Tryz.func175 rfl Tryz.ntmps175 rfl<|lc (x:=.int .i64 1)<|an (hT.cell 17)<|mz1 (Mm.start w0) BJ Ka TY rfl (by decide) fun g w1 M1=>lp (ι:=Nat×Int) (fun(t,x)=>[(14,.int .i64 (t:Int))]) (fun(t,x)=>[(g,52,#[.int .u64 x])]) (fun _=>[]) (fun(t,x) _=>t≤1∧(t=1→x=notM u sx)) (fun(t,x)=>1-t) (0,0) (an ⟨⟨rfl,trivial⟩,fun M=>⟨M,avu _,fun h=>by cases h⟩⟩ ?_)
 rintro⟨t,x⟩ w M ⟨ht,hx⟩;refine an (fun h=>?_) fun h M=>?_
 ·obtain rfl:t=0:=by simp at h;omega
  refine dr (by kernel_rfl)<|ia (i:=0)<|an ⟨rfl,rfl,by decide⟩<|lc (x:=.int .u64 sx)<|an (avv M.below ((Whole.cell hs) 0))<|ei (x:=.int .u64 (bits .xor .u64 18446744073709551615 sx))<|an (fun a w o ho hv=>Qm ho (dU hv))<|lc (x:=.int .u64 u)<|an (avv M.below (hT.cell 18))<|ei (x:=bits .and .u64 (bits .xor .u64 18446744073709551615 sx) u)<|an rfl<|ia (i:=0)<|an ⟨rfl,rfl,by decide⟩<|fun w hb M=>?_
  exact lb 0<|an ⟨⟨rfl,rfl⟩,Nat.le_refl _⟩ fun w M=>an (by omega)<|bk (1,notM u sx) ⟨rfl,trivial⟩ (fun M=>⟨M,by omega,fun _=>rfl⟩) (by dsimp only;omega)
 ·obtain rfl:=hx (by simp at h;omega);exact⟨_,rfl,⟨_,rfl,M.b 0 rfl,M.lo _ (avs (i:=0) rfl)⟩,M.below⟩
theorem wT:∀ e:ak,∀ (w0:World) (cs:List Value) (tp mb:Nat) (c0 c1 c2 c3 c4 c6 c7 c8 c9 aQ aL aK aP aO aN aM:Value) (iz:Option Addr) (nB iy:Nat) (u:Int) (_:nB≤5),rK w0 tp mb c0 c1 c2 c3 c4 (.slice iz nB iy) c6 c7 c8 c9 aQ aL aK aP aO aN aM u→aZ w0 cs e→Calls Tryz.prog 173 #[.pointer (some ⟨tp,0,none⟩),.agg cs.toArray] w0 (fun(r:Ending) (w':World)=>∃ v,r=.returned v∧((bR w' w0.heap.size v (bJ u nB e))∧avn w0.heap.size w0 w')):=by
 refine ak.ind fun e ih=>?_
 intro w0 cs tp mb c0 c1 c2 c3 c4 c6 c7 c8 c9 aQ aL aK aP aO aN aM iz nB iy u hn hT h;obtain⟨nv,kv,rfl,-,hk⟩:=h.open;obtain⟨_,_,rfl,-,EX,-⟩:=aq.form hk (by decide);refine bP [] (fn:=Tryz.f173) Tryz.func173 rfl Tryz.ntmps173 rfl<|fun g1 w1 M1=>dr (by kernel_rfl)<|lb 0<|an rfl<|lb 0<|an rfl<|cl<|an (fun w' hb M'=>F8 w' e.op)<|lb 0<|an (fun _=>rfl)<|lb 0<|an (fun _=>rfl)<|lb 0<|an (fun _=>rfl)<|lc (x:=.slice iz nB iy)<|an (fun _=>avv M1.below (hT.cell 5))<|fun w2 hb2 M2=>an (fun h1=>?_) fun h1=>?_
 ·exact lc (x:=.int .i64 1)<|an (avv M2.below (hT.cell 17))<|mz1 M2 BJ Ka TY rfl (by decide) fun g w M M=>⟨_,rfl,⟨_,rfl,by have hW:=M.b 0 rfl;rw[Ya h1];exact hW,M.lo _ (avs (i:=0) rfl)⟩,M.below⟩
 have h1:dG nB e.op e.a e.kids.length=false:=h1;obtain⟨hv1,hv2⟩:=QU h1;refine lb 0<|an rfl<|an (fun h2=>?_) fun h2=>?_
 ·have h2:e.op=1:=by simpa using h2
  exact lb 0<|an rfl<|cst M2 (La _ tp mb _ _ _ _ _ _ _ _ _ _ _ _ _ _ _ _ iz nB iy u (Whole.under M2.below hT hT.lt) e.a (by omega) (by omega)) fun g w M M=>⟨_,rfl,⟨_,rfl,by have hW:=M.b 0 rfl;rw[Uy h1 h2];exact hW,M.lo _ (avs (i:=0) rfl)⟩,M.below⟩
 have h2:¬ e.op=1:=by simpa using h2
 have Wi:0<e.kids.length:=by unfold qM at hv1;split at hv1<;>(try split at hv1)<;>omega
 obtain⟨y,hy⟩:∃ y,e.kids[0]?=some y:=⟨_,avw Wi⟩;obtain⟨b,o,_,e1,hE,hc⟩:=aq.elt hk (by decide) hy;obtain⟨nv',kv',rfl,-⟩:=hE.open;refine lb 0<|an rfl<|ia (i:=0)<|an ⟨e1,rfl,Wi⟩<|lc<|an (bY M2.below hc)<|cst M2 (ih y (avs hy) _ _ tp mb _ _ _ _ _ _ _ _ _ _ _ _ _ _ _ _ iz nB iy u hn (Whole.under M2.below hT hT.lt) (hE.keep M2.below)) fun gy w3 M3=>lb 1<|an rfl<|an (fun h3=>?_) fun h3=>?_
 ·exact cst M3 (Az _ tp mb _ _ _ _ _ _ _ _ _ _ _ _ _ _ _ _ iz nB iy u (Whole.under M3.below hT hT.lt) gy _ (M3.b 0 rfl)) fun g w M M=>⟨_,rfl,⟨_,rfl,by have hW:=M.b 0 rfl;rw[X9 h1 (by simpa using h3) hy];exact hW,M.lo _ (avs (i:=0) rfl)⟩,M.below⟩
 have h3:¬ e.op=2:=by simpa using h3
 have hlz:1<e.kids.length:=by unfold qM at hv1;split at hv1<;>(try split at hv1)<;>omega
 obtain⟨z,hz⟩:∃ z,e.kids[1]?=some z:=⟨_,avw hlz⟩;obtain⟨bz,oz,_,e2,hEz,hcz⟩:=aq.elt hk (by decide) hz;obtain⟨nvz,kvz,rfl,-⟩:=hEz.open;refine lb 1<|an rfl<|ia (i:=1)<|an ⟨e2,rfl,hlz⟩<|lc<|an (bY M3.below hcz)<|cst M3 (ih z (avs hz) _ _ tp mb _ _ _ _ _ _ _ _ _ _ _ _ _ _ _ _ iz nB iy u hn (Whole.under M3.below hT hT.lt) (hEz.keep M3.below)) fun gz w4 M4=>lp (ι:=Nat×Int) (fun(t,x)=>[(68,.int .i64 (t:Int))]) (fun(t,x)=>_::(gy,52,#[.int .u64 x])::_) (fun _=>[]) (fun(t,x) _=>t≤1∧(t=0→x=bJ u nB y)∧(t=1→x=Ei u e.op (bJ u nB y) (bJ u nB z))) (fun(t,x)=>1-t) (0,bJ u nB y) (an ⟨⟨rfl,trivial⟩,fun M=>⟨M,by decide,fun _=>rfl,fun h=>by cases h⟩⟩ ?_)
 rintro⟨t,x⟩ w M ⟨ht,hx0,hx1⟩;refine an (fun h=>?_) fun h M=>⟨_,rfl,⟨_,rfl,by have hW:=M.b 1 rfl;rw[X_ h1 h2 h3 hy hz,← hx1 (by simp at h;omega)];exact hW,M.lo _ (avs (i:=1) rfl)⟩,M.below⟩
 obtain rfl:t=0:=by simp at h;omega
 obtain rfl:=hx0 rfl;refine lb 2<|an rfl<|an (fun h4=>?_) fun h4=>an (fun h5=>?_) fun h5=>an (fun h6=>?_) fun h6=>?_
 all_goals simp only[decide_eq_true_eq,decide_eq_false_iff_not] at *
 ·exact dr (by kernel_rfl)<|ia (i:=0)<|an ⟨rfl,rfl,by decide⟩<|lb 1<|an rfl<|ia (i:=0)<|an ⟨rfl,rfl,by decide⟩<|lb 0<|an rfl<|ei (x:=bits .and .u64 (bJ u nB y) (bJ u nB z))<|an rfl<|ia (i:=0)<|an ⟨rfl,rfl,by decide⟩<|fun w hb M=>lb 1<|an ⟨⟨rfl,rfl⟩,Nat.le_refl _⟩ fun w M=>an (by omega)<|bk (1,bits .and .u64 (bJ u nB y) (bJ u nB z)) ⟨rfl,trivial⟩ (fun M=>⟨M,by omega,(fun h=>by cases h),fun _=>by unfold Ei;rw[if_pos h4]⟩) (by dsimp only;omega)
 ·exact dr (by kernel_rfl)<|ia (i:=0)<|an ⟨rfl,rfl,by decide⟩<|lb 1<|an rfl<|ia (i:=0)<|an ⟨rfl,rfl,by decide⟩<|lb 0<|an rfl<|ei (x:=bits .or .u64 (bJ u nB y) (bJ u nB z))<|an rfl<|ia (i:=0)<|an ⟨rfl,rfl,by decide⟩<|fun w hb M=>lb 1<|an ⟨⟨rfl,rfl⟩,Nat.le_refl _⟩ fun w M=>an (by omega)<|bk (1,bits .or .u64 (bJ u nB y) (bJ u nB z)) ⟨rfl,trivial⟩ (fun M=>⟨M,by omega,(fun h=>by cases h),fun _=>by unfold Ei;rw[if_neg h4,if_pos h5]⟩) (by dsimp only;omega)
 ·exact dr (by kernel_rfl)<|ia (i:=0)<|an ⟨rfl,rfl,by decide⟩<|lb 1<|an rfl<|ia (i:=0)<|an ⟨rfl,rfl,by decide⟩<|lb 0<|an rfl<|ei (x:=bits .xor .u64 (bJ u nB y) (bJ u nB z))<|an rfl<|ei (x:=.int .u64 (bits .xor .u64 18446744073709551615 (bits .xor .u64 (bJ u nB y) (bJ u nB z))))<|an (fun a w o ho hv=>Qm ho (dU hv))<|lc (x:=.int .u64 u)<|an (avv M.below (hT.cell 18))<|ei (x:=bits .and .u64 (bits .xor .u64 18446744073709551615 (bits .xor .u64 (bJ u nB y) (bJ u nB z))) u)<|an rfl<|ia (i:=0)<|an ⟨rfl,rfl,by decide⟩<|fun w hb M=>lb 1<|an ⟨⟨rfl,rfl⟩,Nat.le_refl _⟩ fun w M=>an (by omega)<|bk (1,bits .and .u64 (bits .xor .u64 18446744073709551615 (bits .xor .u64 (bJ u nB y) (bJ u nB z))) u) ⟨rfl,trivial⟩ (fun M=>⟨M,by omega,(fun h=>by cases h),fun _=>by unfold Ei;rw[if_neg h4,if_neg h5,if_pos h6]⟩) (by dsimp only;omega)
 ·exact dr (by kernel_rfl)<|ia (i:=0)<|an ⟨rfl,rfl,by decide⟩<|lb 1<|an rfl<|ia (i:=0)<|an ⟨rfl,rfl,by decide⟩<|lb 0<|an rfl<|ei (x:=bits .xor .u64 (bJ u nB y) (bJ u nB z))<|an rfl<|ia (i:=0)<|an ⟨rfl,rfl,by decide⟩<|fun w hb M=>lb 1<|an ⟨⟨rfl,rfl⟩,Nat.le_refl _⟩ fun w M=>an (by omega)<|bk (1,bits .xor .u64 (bJ u nB y) (bJ u nB z)) ⟨rfl,trivial⟩ (fun M=>⟨M,by omega,(fun h=>by cases h),fun _=>by unfold Ei;rw[if_neg h4,if_neg h5,if_neg h6]⟩) (by dsimp only;omega)
theorem one_cell{w:World}{g:Nat}{x:Value}(hs:w.cell? ⟨g,0,none⟩=some x):∀ j uu,[x][j]?=some uu→w.cell? ⟨g,0+j,none⟩=some uu:=fun j u hu=>by
 match j with
 | 0=>
  obtain rfl:x=u:=by simpa using hu
  exact hs
 | j+1=>simp at hu
def nzI(x:Int):Int:=if x=0 then -1 else 0
theorem abU(x:Int):(!decide (0≤nzI x))=decide (x=0):=by
 unfold nzI;by_cases h:x=0
 ·rw[if_pos h];simp[h]
 ·rw[if_neg h];simp[h]
theorem RN(w0:World)(sx:Int):Calls Tryz.prog 223 #[.int .u64 sx] w0 (fun(r:Ending) (w':World)=>r=.returned (.bool (!decide (sx=0)))∧avn w0.heap.size w0 w'):=by
 have ct:=hr1 Tryz.prog Tryz.f223 (fun(r:Ending) (w':World)=>r=.returned (.bool (!decide (sx=0)))∧avn w0.heap.size w0 w') 5 2 rfl;refine en Tryz.func223 rfl Tryz.ntmps223 rfl (vs:=[.int .u64 sx]) rfl fun _ F=>?_
 have M:=Mm.start w0;refine avo fun K1 jq=>ah<|xA (v:=.bool false) F rf rf rf fun _ F=>avp<|jq _ _ ?_
 refine avo fun K2 jW=>ah<|xM F rf rf rf fun _ F=>kz F rf (Xe rfl (F.u rf) rfl) fun _ F=>xA F rf rf rf fun _ F=>avp<|jW _ _ ?_
 refine wp_ret<|ct _ _ _ _ F rfl ?_;exact⟨rfl,M.below⟩
theorem RL(w0:World)(sg ck:Nat)(sx:Int)(hs:w0.cell? ⟨sg,0,none⟩=some (.int .u64 sx)):Calls Tryz.prog 266 #[.slice (some ⟨sg,0,none⟩) 1 ck,.func (.func 223) #[] #[]] w0 (fun(r:Ending) (w':World)=>r=.returned (.int .i64 (nzI sx))∧avn w0.heap.size w0 w'):=by
 have hSG:=one_cell hs;have ct:=hr1 Tryz.prog Tryz.f266 (fun(r:Ending) (w':World)=>r=.returned (.int .i64 (nzI sx))∧avn w0.heap.size w0 w') 19 4 rfl;refine en Tryz.func266 rfl Tryz.ntmps266 rfl (vs:=[.slice (some ⟨sg,0,none⟩) 1 ck,.func (.func 223) #[] #[]]) rfl fun _ F=>?_
 have M:=Mm.start w0;refine avo fun K1 jq=>ah<|xA (v:=.int .i64 0) F rf rf rf fun _ F=>avp<|jq _ _ ?_
 refine avo fun K2 jW=>avo fun K3 pR=>ah<|xM F rf rf rf fun _ F=>kz F rf (h_ rfl (F.u rf) BJ) fun _ F=>xM (v:=.int .i64 0) F rf rf rf fun _ F=>avp<|pR _ _ ?_
 refine avt<|?_;refine gj (ι:=Nat) (fun t a w=>Fs a 19 [(0,.slice (some ⟨sg,0,none⟩) 1 ck),(1,.func (.func 223) #[] #[]),(7,.int .i64 1),(8,.int .i64 (t:Int))]∧Mm w0 w [] []∧t≤1∧(t=1→sx=0)) (fun t=>1-t) 0 ⟨F.sub ⟨rfl,rfl,rfl,rfl,trivial⟩,M,avu _,fun h=>by cases h⟩ ?_
 (repeat clear F);(repeat clear M)
 rintro t _ _ ⟨F,M,ht,hz⟩;refine avo fun K4 p9=>ah<|kz F rf (kO rfl (F.u rf) (F.u rf)) fun _ F=>avp<|p9 _ _ ?_
 refine avo fun K5 q5=>?_
 refine avq (F.e 9 rfl) (fun hc1=>?_) (fun hc1=>?_)
 ·have hd2:=of_decide_eq_true hc1;refine wp_skip<|q5 _ _ ?_;refine avo fun K6 tu=>avt<|avo fun K7 vK=>?_
  have F:=F.eq 8 rfl (congrArg (Value.int .i64) (show((t:Nat):Int)=0 by omega));refine ah<|xM F rf rf rf fun _ F=>xA F rf rf rf fun _ F=>avp<|vK _ _ ?_
  refine avo fun K8 CW=>ah<|xM F rf rf rf fun _ F=>xM F rf rf rf fun _ F=>xM F rf rf rf fun _ F=>
   ke (u:=.pointer (some ⟨sg,0,none⟩)) (on rfl) (cB (i:=0) rfl (F.u rf) (F.u rf) (by omega) BJ BN) rfl F rfl rfl fun _ F=>
   kz F rf (dB rf (F.u rf) u52 rfl ((bY M.below hSG) 0 _ rfl)) fun _ F=>
   kc (on rfl) (GY rfl (F.u rf) Tryz.func223 (by kernel_rfl) rfl (args:=#[.int .u64 sx]) (by simp[(F.e 15 rfl)])) (RN _ sx) rfl F rfl M fun _ _ F M=>
   avp<|
   CW _ _ ?_
  refine avq (F.e 16 rfl) (fun hc3=>?_) (fun hc3=>?_)
  ·have Wo:=of_decide_eq_false (show decide (sx=0)=false by simpa using hc3);have hk5:(decide (sx=0))=false:=by simpa using hc3
   refine avo fun K9 AV=>ah<|xM F rf rf rf fun _ F=>xA F rf rf rf fun _ F=>avp<|AV _ _ ?_
   refine wp_ret<|ct _ _ _ _ F rfl ?_;exact⟨iI (by unfold nzI;rw[if_neg (by omega)]),M.below⟩
  ·have hd6:=of_decide_eq_true (show decide (sx=0)=true by simpa using hc3);have hk7:(decide (sx=0))=true:=by simpa using hc3
   refine wp_skip<|tu _ _ ?_;have F:=F.eq 8 rfl (congrArg (Value.int .i64) (show(0:Int)=((t:Nat):Int) by omega))
   refine ah<|
    ke (on rfl) (gN rfl (F.u rf) rfl) rfl F rfl (congrArg (Value.int .i64) (wrap_i64 (by omega))) fun _ F=>
    xM F rf rf rf fun _ F=>
    avp<|?_
   exact⟨t+1,⟨F.sub ⟨rfl,rfl,rfl,rfl,trivial⟩,M,by omega,fun _=>by omega⟩,by show 1-(t+1)<1-t;omega⟩
 ·have hd8:=of_decide_eq_false hc1;refine wp_exit<|jW _ _ ?_;refine avo fun X0 nP=>ah<|xA (v:=.int .i64 (-1)) F rf rf rf fun _ F=>avp<|nP _ _ ?_
  refine wp_ret<|ct _ _ _ _ F rfl ?_;exact⟨iI (by have:=hz (by omega);unfold nzI;rw[if_pos this]),M.below⟩
theorem RM(w0:World)(sg ck:Nat)(sx:Int)(hs:w0.cell? ⟨sg,0,none⟩=some (.int .u64 sx)):Calls Tryz.prog 222 #[.slice (some ⟨sg,0,none⟩) 1 ck,.func (.func 223) #[] #[]] w0 (fun(r:Ending) (w':World)=>r=.returned (.bool (decide (0≤nzI sx)))∧avn w0.heap.size w0 w'):=by
 have ct:=hr1 Tryz.prog Tryz.f222 (fun(r:Ending) (w':World)=>r=.returned (.bool (decide (0≤nzI sx)))∧avn w0.heap.size w0 w') 9 4 rfl;refine en Tryz.func222 rfl Tryz.ntmps222 rfl (vs:=[.slice (some ⟨sg,0,none⟩) 1 ck,.func (.func 223) #[] #[]]) rfl fun _ F=>?_
 have M:=Mm.start w0;refine avo fun K1 jq=>ah<|xA (v:=.bool false) F rf rf rf fun _ F=>avp<|jq _ _ ?_
 refine avo fun K2 jW=>ah<|xM F rf rf rf fun _ F=>xM F rf rf rf fun _ F=>xC F M rf rf ah2 (args2 (F.u rf) (F.u rf)) (RL _ sg ck sx (avv M.below hs)) fun _ _ F M=>kz F rf (Qk rfl (F.u rf) rfl) fun _ F=>xA F rf rf rf fun _ F=>avp<|jW _ _ ?_
 refine wp_ret<|ct _ _ _ _ F rfl ?_;exact⟨rfl,M.below⟩
theorem Co(w0:World)(sg ck:Nat)(sx:Int)(hs:w0.cell? ⟨sg,0,none⟩=some (.int .u64 sx)):Calls Tryz.prog 150 #[.slice (some ⟨sg,0,none⟩) 1 ck] w0 (fun(r:Ending) (w':World)=>r=.returned (.bool (decide (sx=0)))∧avn w0.heap.size w0 w'):=by
 have ct:=hr1 Tryz.prog Tryz.f150 (fun(r:Ending) (w':World)=>r=.returned (.bool (decide (sx=0)))∧avn w0.heap.size w0 w') 6 2 rfl;refine en Tryz.func150 rfl Tryz.ntmps150 rfl (vs:=[.slice (some ⟨sg,0,none⟩) 1 ck]) rfl fun _ F=>?_
 have M:=Mm.start w0;refine avo fun K1 jq=>ah<|xA (v:=.bool false) F rf rf rf fun _ F=>avp<|jq _ _ ?_
 refine avo fun K2 jW=>ah<|xM F rf rf rf fun _ F=>xC F M rf rf ah4 (args2 (F.u rf) rfl) (RM _ sg ck sx (avv M.below hs)) fun _ _ F M=>kz F rf (qd rfl (F.u rf)) fun _ F=>xA F rf rf rf fun _ F=>avp<|jW _ _ ?_
 refine wp_ret<|ct _ _ _ _ F rfl ?_;exact⟨aD (abU sx),M.below⟩
def eu(u:Int)(n:Nat)(conds:List ak)(k:Int):Int:=
 if 0<k∧k≤conds.length then (match conds[(k-1).toNat]? with|some e=>bJ u n e|none=>0)
 else if k<0∧0-(conds.length:Int)≤k then notM u (match conds[(0-k-1).toNat]? with|some e=>bJ u n e|none=>0)
 else notM u 0
theorem ZU{u:Int}{n:Nat}{conds:List ak}{k:Int}{e:ak}{m:Nat}(h1:0<k)(h2:k≤conds.length)(hm:(m:Int)=k-1)(he:conds[m]?=some e):eu u n conds k=bJ u n e:=by
 unfold eu;rw[if_pos ⟨h1,h2⟩,← hm,Int.toNat_natCast,he]
theorem ZV{u:Int}{n:Nat}{conds:List ak}{k:Int}{e:ak}{m:Nat}(h1:k<0)(h2:0-(conds.length:Int)≤k)(hm:(m:Int)=0-k-1)(he:conds[m]?=some e):eu u n conds k=notM u (bJ u n e):=by
 unfold eu;rw[if_neg (by omega),if_pos ⟨h1,h2⟩,← hm,Int.toNat_natCast,he]
theorem ZW{u:Int}{n:Nat}{conds:List ak}{k:Int}(h1:¬ (0<k∧k≤conds.length))(h2:¬ (k<0∧0-(conds.length:Int)≤k)):eu u n conds k=notM u 0:=by
 unfold eu;rw[if_neg h1,if_neg h2]
structure gh (w:World) (base tp mb:Nat) (c0 c1 c2 c3 c4 c5 c6 c7 c8 c9 aQ aL aK aP aO aN aM:Value) (u:Int) (act:Int→Int):Prop where
 box:rK w tp mb c0 c1 c2 c3 c4 c5 c6 c7 c8 c9 aQ aL aK aP aO aN aM u
 map:∃ L,aU w Tryz.prog 3 mb (L.map ival)∧∀ k v,jT L k=some v→bR w base v (act k)
 lo:base≤tp∧base≤mb
section
variable {w w':World} {base tp mb:Nat} {c0 c1 c2 c3 c4 c5 c6 c7 c8 c9 aQ aL aK aP aO aN aM:Value} {u:Int} {act:Int→Int}
theorem gh.keep(h:gh w base tp mb c0 c1 c2 c3 c4 c5 c6 c7 c8 c9 aQ aL aK aP aO aN aM u act)(hb:avn w.heap.size w w'):gh w' base tp mb c0 c1 c2 c3 c4 c5 c6 c7 c8 c9 aQ aL aK aP aO aN aM u act:=by
 obtain⟨h1,⟨L,h2,h3⟩,h4⟩:=h;exact⟨Whole.under hb h1 h1.lt,⟨L,h2.kept (hb.block _ h2.lt),fun k v hk=>(h3 k v hk).keep hb⟩,h4⟩
theorem gh.lt(h:gh w base tp mb c0 c1 c2 c3 c4 c5 c6 c7 c8 c9 aQ aL aK aP aO aN aM u act):base≤w.heap.size:=avr h.lo.1 (Nat.le_of_lt h.box.lt)
theorem bR.turn{v:Value}{x:Int}{D:List (Value×Value)}(h:bR w base v x)(hm:aU w Tryz.prog 3 mb D)(hg:w.grownBy w' (some mb)):bR w' base v x:=by
 obtain⟨g,e,hw,hl⟩:=h;exact⟨g,e,hw.grown hg fun e2=>gW hw hm (avx e2),hl⟩
theorem bR.low{v:Value}{x:Int}{b:Nat}(h:bR w base v x)(hb:b≤base):bR w b v x:=by
 obtain⟨g,e,hw,hl⟩:=h;exact⟨g,e,hw,avr hb hl⟩
theorem Ix{w0:World}{L:List (Int×Value)}{k:Int}{v:Value}(hT:rK w0 tp mb c0 c1 c2 c3 c4 c5 c6 c7 c8 c9 aQ aL aK aP aO aN aM u)(hM:aU w0 Tryz.prog 3 mb (L.map ival))(hL:∀ k v,jT L k=some v→bR w0 base v (act k))(hlo:base≤tp∧base≤mb)(hb:avn w0.heap.size w0 w)
 (P9:aU w' Tryz.prog 3 mb (((k,v)::iq L k).map ival)) (hg:w.grownBy w' (some mb)) (hv:bR w w0.heap.size v (act k)):bR w' base v (act k)∧gh w' base tp mb c0 c1 c2 c3 c4 c5 c6 c7 c8 c9 aQ aL aK aP aO aN aM u act∧St [mb] w0 w':=by
 have hMw:=hM.kept (hb.block _ hM.lt);have hTw:rK w tp mb c0 c1 c2 c3 c4 c5 c6 c7 c8 c9 aQ aL aK aP aO aN aM u:=Whole.under hb hT hT.lt;have hs:bR w' base v (act k):=(hv.low (avr hlo.1 (Nat.le_of_lt hT.lt))).turn hMw hg;refine⟨hs,⟨Whole.grown hTw hg fun e=>gW hTw hMw (avx e),⟨_,P9,fun j x hj=>?_⟩,hlo⟩,gF _ _ _ _ (iC _ _ _ hb) (St.grown hg (avy.2 rfl))⟩;rw[AB] at hj;by_cases e:j=k
 ·rw[if_pos e] at hj;rw[e,← avx hj];exact hs
 ·rw[if_neg e] at hj;exact((hL j x hj).keep hb).turn hMw hg
end
theorem QB{p q:Prop}[Decidable p][Decidable q](h:(decide p&&decide q)=true):p∧q:=by simpa using h
theorem Li{p q:Prop}[Decidable p][Decidable q](h:(decide p&&decide q)=false):¬ (p∧q):=by simpa using h
def Gx(r:aj):Int:=if r.kind=4 then 0 else r.cond
theorem uE(w0:World)(base tp mb:Nat)(c0 c1 c2 c3 c4 c6 c7 c8 c9 aQ aL aK aP aO aN aM:Value)(iz:Option Addr)(nB iy:Nat)(u:Int)(conds:List ak)(hn:nB≤5)(hE:mN w0 c8 conds)(hcl:conds.length≤1000)(k:Int)(hk:iX k)(hTT:gh w0 base tp mb c0 c1 c2 c3 c4 (.slice iz nB iy) c6 c7 c8 c9 aQ aL aK aP aO aN aM u (eu u nB conds)):Calls Tryz.prog 149 #[.pointer (some ⟨tp,0,none⟩),.int .i64 k] w0 (fun(r:Ending) (w':World)=>∃ v,r=.returned v∧(bR w' base v (eu u nB conds k)∧gh w' base tp mb c0 c1 c2 c3 c4 (.slice iz nB iy) c6 c7 c8 c9 aQ aL aK aP aO aN aM u (eu u nB conds)∧St [mb] w0 w')):=by
 obtain⟨la8,lk8,rfl,hk8,hm8,Gq⟩:=aq.form hE (by decide);obtain⟨hT,⟨L,hM,hL⟩,hlo⟩:=hTT;have TS:∀ j uu,[c0,c1,c2,c3,c4,.slice iz nB iy,c6,c7,.slice la8 conds.length lk8,c9,aQ,aL,aK,aP,aO,aN,aM,.int .i64 1,.int .u64 u,(.map (some mb))][j]?=some uu→w0.cell? ⟨tp,0+j,none⟩=some uu:=fun j u hu=>by rw[Nat.zero_add];exact(Whole.cell hT j).trans (by simpa using hu)
 have hk1:=hk.1;have hk2:=hk.2;have ct:=hr1 Tryz.prog Tryz.f149 (fun(r:Ending) (w':World)=>∃ v,r=.returned v∧(bR w' base v (eu u nB conds k)∧gh w' base tp mb c0 c1 c2 c3 c4 (.slice iz nB iy) c6 c7 (.slice la8 conds.length lk8) c9 aQ aL aK aP aO aN aM u (eu u nB conds)∧St [mb] w0 w')) 85 4 rfl;refine en Tryz.func149 rfl Tryz.ntmps149 rfl (vs:=[.pointer (some ⟨tp,0,none⟩),.int .i64 k]) rfl fun _ F=>?_
 have M:=Mm.start w0;refine avo fun K1 jq=>ah<|xA (v:=.slice none 0 0) F rf rf rf fun _ F=>avp<|jq _ _ ?_
 refine avo fun K2 jW=>avo fun K3 pR=>ah<|xM F rf rf rf fun _ F=>kz F rf (dJ rfl (F.u rf)) fun _ F=>xF 19 F rf rf rf zT rf Pj rf fun _ F=>kz F rf (dB rf (F.u rf) FK rfl ((bY M.below TS) 19 _ rfl)) fun _ F=>xM F rf rf rf fun _ F=>
  kz F rf (vR (z:=.slice none 0 0) FK (by kernel_rfl) (hM.kept (M.below.block _ hM.lt)) rfl (F.u rf) (F.u rf) (by exact hk)) fun _ F=>
  xM F rf rf rf fun _ F=>
  kz F rf (bW rfl (F.u rf) rfl) fun _ F=>
  kz F rf (bW rfl (F.u rf) rfl) fun _ F=>
  xA F rf rf rf fun _ F=>
  xA F rf rf rf fun _ F=>
  avp<|
  pR _ _ ?_
 refine avo fun K4 p9=>ah<|xM F rf rf rf fun _ F=>avp<|p9 _ _ ?_
 refine avq (F.e 17 rfl) (fun hc1=>?_) (fun hc1=>?_)
 ·refine avo fun K5 q5=>ah<|xM F rf rf rf fun _ F=>xA F rf rf rf fun _ F=>avp<|q5 _ _ ?_
  refine wp_ret<|ct _ _ _ _ F rfl ?_;obtain⟨v,hv⟩:=Option.isSome_iff_exists.1 hc1;exact⟨_,rfl,(by rw[hv];exact(hL k v hv).keep M.below),(gh.keep ⟨hT,⟨L,hM,hL⟩,hlo⟩ M.below),iC _ _ _ M.below⟩
 ·refine wp_skip<|jW _ _ ?_
  refine avo fun K6 tu=>ah<|xM F rf rf rf fun _ F=>xM F rf rf rf fun _ F=>kz F rf (dJ rfl (F.u rf)) fun _ F=>xF 17 F rf rf rf zT rf Z9 rf fun _ F=>kz F rf (dB rf (F.u rf) u3 rfl ((bY M.below TS) 17 _ rfl)) fun _ F=>
   kn (f:=fun n=>.slice (some ⟨n,0,none⟩) 1 1) (on rfl) (GV rfl (F.u rf) (F.u rf) BJ Ka TY rfl (by decide)) rfl F rfl M fun g2 _ _ F M=>
   kx (on rfl) (fO rfl Tryz.func175 aam rfl (args2 (F.u rf) (F.u rf))) (Az _ tp mb _ _ _ _ _ _ _ _ _ _ _ _ _ _ _ _ iz nB iy u (Whole.under M.below hT hT.lt) g2 _ (M.b 0 rfl)) rfl F rfl M fun sv _ _ hR hB F _=>?_
  obtain⟨gs3,rfl,aaI,aaA⟩:=hR;have M:=M.newAt hB aaI aaA;clear aaI aaA;refine xA F rf rf rf fun _ F=>avp<|tu _ _ ?_
  refine avo fun K7 vK=>avt<|avo fun K8 CW=>ah<|xM F rf rf rf fun _ F=>kz F rf (KD rfl (F.u rf) rfl) fun _ F=>xM F rf rf rf fun _ F=>Gj (x:=.int .i64 k) rfl rfl (F.g 29 rfl) (bt _) (fun ge=>(eO rfl (F.u rf))) rfl F rfl rfl fun _ F=>Gj (x:=.pointer (some ⟨tp,0,none⟩)) rfl rfl (F.g 29 rfl) (bt _) (fun ge=>(eO rfl (F.u rf))) rfl F rfl rfl fun _ F=>Gj (x:=.pointer (some ⟨tp,0,none⟩)) rfl rfl (F.g 29 rfl) (bt _) (fun ge=>(dJ rfl ((F.g 31 rfl).on ge).ev)) rfl F rfl rfl fun _ F=>Gj (x:=.pointer (some ⟨tp,0,none⟩)) rfl rfl (F.g 29 rfl) (bt _) (fun ge=>(kV rfl ((F.g 32 rfl).on ge).ev zT rfl BO)) rfl F rfl rfl fun _ F=>Gj (x:=.pointer (some ⟨tp,8,none⟩)) rfl rfl (F.g 29 rfl) (bt _) (fun ge=>(kV rfl ((F.g 33 rfl).on ge).ev O_ rfl UQ)) rfl F rfl rfl fun _ F=>Gj (x:=.slice la8 conds.length lk8) rfl rfl (F.g 29 rfl) (bt _) (fun ge=>(dB rfl ((F.g 34 rfl).on ge).ev UC rfl ((bY M.below TS) 8 _ rfl))) rfl F rfl rfl fun _ F=>Gj (x:=.int .i64 (conds.length:Int)) rfl rfl (F.g 29 rfl) (bt _) (fun ge=>(h_ rfl ((F.g 35 rfl).on ge).ev UC)) rfl F rfl rfl fun _ F=>Gj (x:=.bool (decide (k≤(conds.length:Int)))) rfl rfl (F.g 29 rfl) (bt _) (fun ge=>(aa4 rfl ((F.g 30 rfl).on ge).ev ((F.g 36 rfl).on ge).ev)) rfl F rfl rfl fun _ F=>kz F rf (rq (uo rfl (F.u rf) (F.u rf) rfl) (pkF _ _)) fun _ F=>xA F rf rf rf fun _ F=>avp<|CW _ _ ?_
  refine avq (F.e 26 rfl) (fun Zj=>?_) (fun Zj=>?_)
  ·have hP:=QB Zj;obtain⟨m,hm⟩:∃ m:Nat,(m:Int)=k-1:=⟨(k-1).toNat,by omega⟩;have acs:m<conds.length:=by omega
   obtain⟨y,hy⟩:∃ y,conds[m]?=some y:=⟨_,avw acs⟩;obtain⟨b8,ob8,cs8,rfl,acB,aco,ach⟩:=Gq _ y hy
   refine ah<|xM F rf rf rf fun _ F=>xM F rf rf rf fun _ F=>kz F rf (dJ rfl (F.u rf)) fun _ F=>xF 0 F rf rf rf zT rf BO rf fun _ F=>xF 8 F rf rf rf O_ rf UQ rf fun _ F=>kz F rf (dB rf (F.u rf) UC rfl ((bY M.below TS) 8 _ rfl)) fun _ F=>xM F rf rf rf fun _ F=>
    ke (on rfl) (Qi rfl (F.u rf) rfl) rfl F rfl (congrArg (Value.int .i64) ((wrap_i64 (by omega)).trans (by omega))) fun _ F=>
    kz F rf (cB (i:=m) rfl (F.u rf) (F.u rf) (by omega) UC sF) fun _ F=>
    kz F rf (g_ cs8 rfl (F.u rf) O9 rfl (by rw[aco];exact sF) (bY M.below ach)) fun _ F=>
    kx (on rfl) (fO rfl Tryz.func173 aan rfl (args2 (F.u rf) (F.u rf))) (wT y _ _ tp mb _ _ _ _ _ _ _ _ _ _ _ _ _ _ _ _ iz nB iy u hn (Whole.under M.below hT hT.lt) (aZ.keep M.below acB)) rfl F rfl M fun sv _ _ hR hB F _=>?_
   obtain⟨gs5,rfl,aaH,aaz⟩:=hR;have M:=M.newAt hB aaH aaz;clear aaH aaz;refine xA F rf rf rf fun _ F=>avp<|vK _ _ ?_
   refine avo fun K9 AV=>ah<|xM F rf rf rf fun _ F=>kz F rf (dJ rfl (F.u rf)) fun _ F=>xF 19 F rf rf rf zT rf Pj rf fun _ F=>kz F rf (dB rf (F.u rf) FK rfl ((bY M.below TS) 19 _ rfl)) fun _ F=>xM F rf rf rf fun _ F=>xM F rf rf rf fun _ F=>kmu rfl rfl rfl (F.u rf) (F.u rf) (F.u rf) (aU.U8 FK (hM.kept (M.below.block _ hM.lt)) hk _) fun w9 hP=>?_
   obtain⟨P9,hg9⟩:=hP;refine avp<|AV _ _ ?_;refine avo fun X0 nP=>ah<|xM F rf rf rf fun _ F=>xA F rf rf rf fun _ F=>avp<|nP _ _ ?_
   refine wp_ret<|ct _ _ _ _ F rfl ?_;exact⟨_,rfl,Ix hT hM hL hlo M.below P9 hg9 ⟨gs5,rfl,(by rw[ZU hP.1 hP.2 hm hy];exact M.b 0 rfl),M.lo _ (avs (i:=0) rfl)⟩⟩
  ·have hP:=Li Zj
   refine avo fun K11 ud=>ah<|xM F rf rf rf fun _ F=>kz F rf (kO rfl (F.u rf) rfl) fun _ F=>xM F rf rf rf fun _ F=>Gj (x:=.int .i64 k) rfl rfl (F.g 53 rfl) (bt _) (fun ge=>(eO rfl (F.u rf))) rfl F rfl rfl fun _ F=>Gj (x:=.pointer (some ⟨tp,0,none⟩)) rfl rfl (F.g 53 rfl) (bt _) (fun ge=>(eO rfl (F.u rf))) rfl F rfl rfl fun _ F=>Gj (x:=.pointer (some ⟨tp,0,none⟩)) rfl rfl (F.g 53 rfl) (bt _) (fun ge=>(dJ rfl ((F.g 55 rfl).on ge).ev)) rfl F rfl rfl fun _ F=>Gj (x:=.pointer (some ⟨tp,0,none⟩)) rfl rfl (F.g 53 rfl) (bt _) (fun ge=>(kV rfl ((F.g 56 rfl).on ge).ev zT rfl BO)) rfl F rfl rfl fun _ F=>Gj (x:=.pointer (some ⟨tp,8,none⟩)) rfl rfl (F.g 53 rfl) (bt _) (fun ge=>(kV rfl ((F.g 57 rfl).on ge).ev O_ rfl UQ)) rfl F rfl rfl fun _ F=>Gj (x:=.slice la8 conds.length lk8) rfl rfl (F.g 53 rfl) (bt _) (fun ge=>(dB rfl ((F.g 58 rfl).on ge).ev UC rfl ((bY M.below TS) 8 _ rfl))) rfl F rfl rfl fun _ F=>Gj (x:=.int .i64 (conds.length:Int)) rfl rfl (F.g 53 rfl) (bt _) (fun ge=>(h_ rfl ((F.g 59 rfl).on ge).ev UC)) rfl F rfl rfl fun _ F=>
    Gj (x:=.int .i64 (0-(conds.length:Int))) rfl rfl (F.g 53 rfl) (bt _) (fun ge=>(rq (Xd rfl ((F.g 60 rfl).on ge).ev) (congrArg (Value.int .i64) (wrap_i64 (by omega))))) rfl F rfl rfl fun _ F=>
    Gj (x:=.bool (decide (0-(conds.length:Int)≤k))) rfl rfl (F.g 53 rfl) (bt _) (fun ge=>(Qk rfl ((F.g 54 rfl).on ge).ev ((F.g 61 rfl).on ge).ev)) rfl F rfl rfl fun _ F=>
    kz F rf (rq (uo rfl (F.u rf) (F.u rf) rfl) (pkF _ _)) fun _ F=>
    xA F rf rf rf fun _ F=>
    avp<|
    ud _ _ ?_
   refine avq (F.e 50 rfl) (fun yj=>?_) (fun yj=>?_)
   ·have hN:=QB yj;obtain⟨m,hm⟩:∃ m:Nat,(m:Int)=0-k-1:=⟨(0-k-1).toNat,by omega⟩;have acs:m<conds.length:=by omega
    obtain⟨y,hy⟩:∃ y,conds[m]?=some y:=⟨_,avw acs⟩;obtain⟨b8,ob8,cs8,rfl,acB,aco,ach⟩:=Gq _ y hy
    refine ah<|xM F rf rf rf fun _ F=>xM F rf rf rf fun _ F=>xM F rf rf rf fun _ F=>kz F rf (dJ rfl (F.u rf)) fun _ F=>xF 0 F rf rf rf zT rf BO rf fun _ F=>xF 8 F rf rf rf O_ rf UQ rf fun _ F=>kz F rf (dB rf (F.u rf) UC rfl ((bY M.below TS) 8 _ rfl)) fun _ F=>xM F rf rf rf fun _ F=>
     ke (on rfl) (Xd rfl (F.u rf)) rfl F rfl (congrArg (Value.int .i64) (wrap_i64 (by omega))) fun _ F=>
     ke (on rfl) (Qi rfl (F.u rf) rfl) rfl F rfl (congrArg (Value.int .i64) ((wrap_i64 (by omega)).trans (by omega))) fun _ F=>
     kz F rf (cB (i:=m) rfl (F.u rf) (F.u rf) (by omega) UC sF) fun _ F=>
     kz F rf (g_ cs8 rfl (F.u rf) O9 rfl (by rw[aco];exact sF) (bY M.below ach)) fun _ F=>
     kx (on rfl) (fO rfl Tryz.func173 aan rfl (args2 (F.u rf) (F.u rf))) (wT y _ _ tp mb _ _ _ _ _ _ _ _ _ _ _ _ _ _ _ _ iz nB iy u hn (Whole.under M.below hT hT.lt) (aZ.keep M.below acB)) rfl F rfl M fun sv _ _ hR hB F _=>?_
    obtain⟨gs7,rfl,aaG,aay⟩:=hR;have M:=M.newAt hB aaG aay;clear aaG aay;refine kx (on rfl) (fO rfl Tryz.func175 aam rfl (args2 (F.u rf) (F.u rf))) (Az _ tp mb _ _ _ _ _ _ _ _ _ _ _ _ _ _ _ _ iz nB iy u (Whole.under M.below hT hT.lt) gs7 _ (M.b 0 rfl)) rfl F rfl M fun sv _ _ hR hB F _=>?_
    obtain⟨gs8,rfl,aaF,aax⟩:=hR;have M:=M.newAt hB aaF aax;clear aaF aax;refine xA F rf rf rf fun _ F=>avp<|vK _ _ ?_
    refine avo fun K12 t_=>ah<|xM F rf rf rf fun _ F=>kz F rf (dJ rfl (F.u rf)) fun _ F=>xF 19 F rf rf rf zT rf Pj rf fun _ F=>kz F rf (dB rf (F.u rf) FK rfl ((bY M.below TS) 19 _ rfl)) fun _ F=>xM F rf rf rf fun _ F=>xM F rf rf rf fun _ F=>kmu rfl rfl rfl (F.u rf) (F.u rf) (F.u rf) (aU.U8 FK (hM.kept (M.below.block _ hM.lt)) hk _) fun w9 hP=>?_
    obtain⟨P9,hg9⟩:=hP;refine avp<|t_ _ _ ?_;refine avo fun K13 sH=>ah<|xM F rf rf rf fun _ F=>xA F rf rf rf fun _ F=>avp<|sH _ _ ?_
    refine wp_ret<|ct _ _ _ _ F rfl ?_;exact⟨_,rfl,Ix hT hM hL hlo M.below P9 hg9 ⟨gs8,rfl,(by rw[ZV hN.1 hN.2 hm hy];exact M.b 0 rfl),M.lo _ (avs (i:=0) rfl)⟩⟩
   ·have hN:=Li yj;refine wp_skip<|vK _ _ ?_;refine avo fun K14 yq=>ah<|xM F rf rf rf fun _ F=>kz F rf (dJ rfl (F.u rf)) fun _ F=>xF 19 F rf rf rf zT rf Pj rf fun _ F=>kz F rf (dB rf (F.u rf) FK rfl ((bY M.below TS) 19 _ rfl)) fun _ F=>xM F rf rf rf fun _ F=>xM F rf rf rf fun _ F=>kmu rfl rfl rfl (F.u rf) (F.u rf) (F.u rf) (aU.U8 FK (hM.kept (M.below.block _ hM.lt)) hk _) fun w9 hP=>?_
    obtain⟨P9,hg9⟩:=hP;refine avp<|yq _ _ ?_;refine avo fun K15 vL=>ah<|xM F rf rf rf fun _ F=>xA F rf rf rf fun _ F=>avp<|vL _ _ ?_
    refine wp_ret<|ct _ _ _ _ F rfl ?_;exact⟨_,rfl,Ix hT hM hL hlo M.below P9 hg9 ⟨gs3,rfl,(by rw[ZW hP hN];exact M.b 0 rfl),M.lo _ (avs (i:=0) rfl)⟩⟩
theorem Ss(w0:World)(base tp mb:Nat)(c0 c1 c2 c3 c4 c6 c7 c8 c9 aQ aL aK aP aO aN aM:Value)(iz:Option Addr)(nB iy:Nat)(u:Int)(conds:List ak)(hn:nB≤5)(hE:mN w0 c8 conds)(hcl:conds.length≤1000)(q:aj)(hk:iX q.cond)(hTT:gh w0 base tp mb c0 c1 c2 c3 c4 (.slice iz nB iy) c6 c7 c8 c9 aQ aL aK aP aO aN aM u (eu u nB conds)):Calls Tryz.prog 151 #[.pointer (some ⟨tp,0,none⟩),.agg #[.int .i64 q.kind,.int .u64 q.src.a,.int .u64 q.src.b,.int .u64 q.src.c,.int .u64 q.src.d,.int .u64 q.tgt.a,.int .u64 q.tgt.b,.int .u64 q.tgt.c,.int .u64 q.tgt.d,.bool q.self,.int .i64 q.cls,.int .u32 q.perms,.int .i64 q.cond]] w0 (fun(r:Ending) (w':World)=>∃ v,r=.returned v∧(bR w' base v (eu u nB conds (Gx q))∧gh w' base tp mb c0 c1 c2 c3 c4 (.slice iz nB iy) c6 c7 c8 c9 aQ aL aK aP aO aN aM u (eu u nB conds)∧St [mb] w0 w')):=by
 have ct:=hr1 Tryz.prog Tryz.f151 (fun(r:Ending) (w':World)=>∃ v,r=.returned v∧(bR w' base v (eu u nB conds (Gx q))∧gh w' base tp mb c0 c1 c2 c3 c4 (.slice iz nB iy) c6 c7 c8 c9 aQ aL aK aP aO aN aM u (eu u nB conds)∧St [mb] w0 w')) 14 4 rfl;refine en Tryz.func151 rfl Tryz.ntmps151 rfl (vs:=[.pointer (some ⟨tp,0,none⟩),.agg #[.int .i64 q.kind,.int .u64 q.src.a,.int .u64 q.src.b,.int .u64 q.src.c,.int .u64 q.src.d,.int .u64 q.tgt.a,.int .u64 q.tgt.b,.int .u64 q.tgt.c,.int .u64 q.tgt.d,.bool q.self,.int .i64 q.cls,.int .u32 q.perms,.int .i64 q.cond]]) rfl fun _ F=>?_
 have M:=Mm.start w0;refine avo fun K1 jq=>ah<|PZ (on rfl) rfl (F.u rf) rfl F rfl M fun g1 _ _ F M=>xA (v:=.slice none 0 0) F rf rf rf fun _ F=>avp<|jq _ _ ?_
 refine avo fun K2 jW=>avo fun K3 pR=>ah<|xF 0 F rf rf rf Yd rf Z9 rf fun _ F=>xL F (M.b 0 rfl) rf rf rf u3 rf rf fun _ F=>kz F rf (Xf rfl (F.u rf) rfl) fun _ F=>avp<|pR _ _ ?_
 refine avq (F.e 7 rfl) (fun hc2=>?_) (fun hc2=>?_)
 ·have hd3:=of_decide_eq_true hc2;refine avo fun K4 p9=>ah<|xM F rf rf rf fun _ F=>kt (on rfl) (fO rfl Tryz.func149 Vt rfl (args2 (F.u rf) rfl)) (uE _ base tp mb _ _ _ _ _ _ _ _ _ _ _ _ _ _ _ _ iz nB iy u conds hn (hE.keep M.below) hcl 0 ⟨by decide,by decide⟩ (hTT.keep M.below)) rfl F rfl fun v9 _ w9 hR F=>?_
  refine xA F rf rf rf fun _ F=>avp<|p9 _ _ ?_
  refine wp_ret<|ct _ _ _ _ F rfl ?_;exact⟨_,rfl,(by unfold Gx;rw[if_pos (by omega)];exact hR.1),hR.2.1,gF _ _ _ _ (iC _ _ _ M.below) hR.2.2⟩
 ·have Wo:=of_decide_eq_false hc2;refine wp_skip<|jW _ _ ?_;refine avo fun K5 q5=>ah<|xM F rf rf rf fun _ F=>xF 12 F rf rf rf Yd rf Z9 rf fun _ F=>xL F (M.b 0 rfl) rf rf rf u3 rf rf fun _ F=>kt (on rfl) (fO rfl Tryz.func149 Vt rfl (args2 (F.u rf) (F.u rf))) (uE _ base tp mb _ _ _ _ _ _ _ _ _ _ _ _ _ _ _ _ iz nB iy u conds hn (hE.keep M.below) hcl q.cond hk (hTT.keep M.below)) rfl F rfl fun v9 _ w9 hR F=>?_
  refine xA F rf rf rf fun _ F=>avp<|q5 _ _ ?_
  refine wp_ret<|ct _ _ _ _ F rfl ?_;exact⟨_,rfl,(by unfold Gx;rw[if_neg (by omega)];exact hR.1),hR.2.1,gF _ _ _ _ (iC _ _ _ M.below) hR.2.2⟩
end Go.Proofs.YtdcofoaihmongaaGreat
namespace Go.Proofs.YtdcofoaihmongaaGreat
open Go Go.Proofs Go.RowKit Go.Shelf
variable {P:Program} {ρ:Go.Shelf.Ren}
theorem Ot(L:SlLaysE0.n41 P ρ)(size:Nat)(z23:∀ w,(Go.sizeOf (ρ.t 23)).run P w=.ok size w)(a:Addr)(c:Nat)(w:World):
 Calls P (ρ.f 41) #[.slice (some a) 0 c] w fun e w'=>∃ v',e=.returned v'∧w'.ownsRow w.heap.size (ρ.t 23) size v' 0 []∧v'≠.slice none 0 0∧avn w.heap.size w w':=by
 have mixed:=L.mixed;have t4:=L.t4;have a4:=L.a4;have z4:=L.z4;have v4:=L.v4;have t22:=L.t22;have a22:=L.a22;have z22:=L.z22;have v22:=L.v22;have q22:∀ (w:World) (a:Option Addr) (n c n' c':Nat),(binOp .eql (ρ.t 22) (.slice a n c) (.slice none n' c')).run P w=.ok (.bool a.isNone) w:=fun w a n c n' c'=>Lib.run_eql_slice_nil w _ _ a n c n' c' L.t22
 have u22:∀ w,Sem.run P (underlying (ρ.t 22)) w=.ok (TypeDesc.slice (ρ.t 23)) w:=run_underlying t22;obtain⟨_,_,FG⟩:=L.f41
 go_enter FG,SlBodyN.n41_ntmps ρ
 go_wp2
 go_ret
 refine⟨_,rfl,?_,?_,((Below.refl _ w).alloc (Nat.le_refl _) _)⟩
 ·exact⟨by simp,.inr ⟨w.heap.size,0,#[],rfl,Nat.le_refl _,Whole.new w _ #[],Nat.le_refl _,by simp[maxLen],by simp,by simp⟩⟩
 ·intro h;cases h
theorem dL(L:SlLaysE0.n41 P ρ)(size bytes:Nat)(hi:iV (P.info? (ρ.t 23)) size bytes=true)(hsz:1≤size)(z23:∀ w,(Go.sizeOf (ρ.t 23)).run P w=.ok size w)(w:World)(v:Value)(n:Nat)(cs:List Value)(h:SliceAt w v size n cs)(hbig:n*bytes≤140737488355328):
 Calls P (ρ.f 41) #[v] w fun e w'=>∃ v',e=.returned v'∧w'.ownsRow w.heap.size (ρ.t 23) size v' n cs∧(v=.slice none 0 0↔v'=.slice none 0 0)∧avn w.heap.size w w':=by
 obtain⟨i0,z,hi0,hz0,hz1,hz2,hzs⟩:=nO hi;rcases h.2.2.2 with⟨rfl,rfl⟩|⟨a,c,rfl,hac,hc⟩
 ·have hl:=h.1;rw[Nat.zero_mul] at hl;have:cs=[]:=List.eq_nil_of_length_eq_zero hl;subst this;refine(AnyE.slices_Clone_nil L 0 0 w).mono ?_;rintro e w' ⟨rfl,rfl⟩;exact⟨_,rfl,World.ownsRow_nil _ _ _ _,Iff.rfl,Below.refl _ _⟩
 ·have hn:¬ Value.slice (some a) n c=.slice none 0 0:=by intro h;cases h
  cases cs with
  | nil=>
   have hl:=h.1
   have:n=0:=by
    rcases Nat.eq_zero_or_pos n with h0|h0
    ·exact h0
    ·have:=Nat.mul_le_mul h0 hsz;simp at hl;omega
   subst this;refine(Ot L size z23 a c w).mono ?_;rintro e w' ⟨v',rfl,ho,hv,hb⟩;exact⟨v',rfl,ho,iff_of_false hn hv,hb⟩
  | cons b0 bs=>
   obtain⟨b,off,rfl⟩:=EC (hc 0 _ (by simp;rfl));refine(AnyE.slices_Clone L i0 z size bytes hi0 hz0 hz1 hz2 hzs hsz z23 b off n c (b0::bs) w h.1 h.2.1 hbig (fun j u hu=>by have:=hc j u hu;rwa [Addr.add_mid] at this) h.2.2.1).mono ?_;rintro e w' ⟨v',rfl,ho,hv,hb⟩;exact⟨v',rfl,ho,iff_of_false hn hv,hb⟩
def Ij:Go.Shelf.Ren:=⟨fun|41=>155|n=>n,fun|22=>28|23=>9|4=>4|n=>n,fun|n=>n⟩
theorem Ik:Go.Proofs.SlLaysE0.n41 Tryz.prog Ij:={
 mixed:=by kernel_rfl
 f41:=⟨Tryz.f155.name,by decide,Tryz.func155.trans (congrArg some (by kernel_rfl))⟩
 t4:=Tryz.underlying4
 a4:=Tryz.isAgg4
 z4:=Tryz.sizeOf4
 v4:=Tryz.zeroValue4
 t22:=Tryz.underlying28
 a22:=Tryz.isAgg28
 z22:=Tryz.sizeOf28
 v22:=Tryz.zeroValue28 }
def Ig:Go.Shelf.Ren:=⟨fun|41=>157|n=>n,fun|22=>24|23=>184|4=>4|n=>n,fun|n=>n⟩
theorem Ih:Go.Proofs.SlLaysE0.n41 Tryz.prog Ig:={
 mixed:=by kernel_rfl
 f41:=⟨Tryz.f157.name,by decide,Tryz.func157.trans (congrArg some (by kernel_rfl))⟩
 t4:=Tryz.underlying4
 a4:=Tryz.isAgg4
 z4:=Tryz.sizeOf4
 v4:=Tryz.zeroValue4
 t22:=Tryz.underlying24
 a22:=Tryz.isAgg24
 z22:=Tryz.sizeOf24
 v22:=Tryz.zeroValue24 }
def Ib:Go.Shelf.Ren:=⟨fun|41=>158|n=>n,fun|22=>25|23=>188|4=>4|n=>n,fun|n=>n⟩
theorem Ic:Go.Proofs.SlLaysE0.n41 Tryz.prog Ib:={
 mixed:=by kernel_rfl
 f41:=⟨Tryz.f158.name,by decide,Tryz.func158.trans (congrArg some (by kernel_rfl))⟩
 t4:=Tryz.underlying4
 a4:=Tryz.isAgg4
 z4:=Tryz.sizeOf4
 v4:=Tryz.zeroValue4
 t22:=Tryz.underlying25
 a22:=Tryz.isAgg25
 z22:=Tryz.sizeOf25
 v22:=Tryz.zeroValue25 }
def H9:Go.Shelf.Ren:=⟨fun|41=>159|n=>n,fun|22=>26|23=>192|4=>4|n=>n,fun|n=>n⟩
theorem H_:Go.Proofs.SlLaysE0.n41 Tryz.prog H9:={
 mixed:=by kernel_rfl
 f41:=⟨Tryz.f159.name,by decide,Tryz.func159.trans (congrArg some (by kernel_rfl))⟩
 t4:=Tryz.underlying4
 a4:=Tryz.isAgg4
 z4:=Tryz.sizeOf4
 v4:=Tryz.zeroValue4
 t22:=Tryz.underlying26
 a22:=Tryz.isAgg26
 z22:=Tryz.sizeOf26
 v22:=Tryz.zeroValue26 }
def H6:Go.Shelf.Ren:=⟨fun|41=>160|n=>n,fun|22=>27|23=>197|4=>4|n=>n,fun|n=>n⟩
theorem H7:Go.Proofs.SlLaysE0.n41 Tryz.prog H6:={
 mixed:=by kernel_rfl
 f41:=⟨Tryz.f160.name,by decide,Tryz.func160.trans (congrArg some (by kernel_rfl))⟩
 t4:=Tryz.underlying4
 a4:=Tryz.isAgg4
 z4:=Tryz.sizeOf4
 v4:=Tryz.zeroValue4
 t22:=Tryz.underlying27
 a22:=Tryz.isAgg27
 z22:=Tryz.sizeOf27
 v22:=Tryz.zeroValue27 }
def HV:Go.Shelf.Ren:=⟨fun|41=>161|n=>n,fun|22=>30|23=>56|4=>4|n=>n,fun|n=>n⟩
theorem HY:Go.Proofs.SlLaysE0.n41 Tryz.prog HV:={
 mixed:=by kernel_rfl
 f41:=⟨Tryz.f161.name,by decide,Tryz.func161.trans (congrArg some (by kernel_rfl))⟩
 t4:=Tryz.underlying4
 a4:=Tryz.isAgg4
 z4:=Tryz.sizeOf4
 v4:=Tryz.zeroValue4
 t22:=Tryz.underlying30
 a22:=Tryz.isAgg30
 z22:=Tryz.sizeOf30
 v22:=Tryz.zeroValue30 }
def Hx:Go.Shelf.Ren:=⟨fun|41=>162|n=>n,fun|22=>31|23=>84|4=>4|n=>n,fun|n=>n⟩
theorem Hy:Go.Proofs.SlLaysE0.n41 Tryz.prog Hx:={
 mixed:=by kernel_rfl
 f41:=⟨Tryz.f162.name,by decide,Tryz.func162.trans (congrArg some (by kernel_rfl))⟩
 t4:=Tryz.underlying4
 a4:=Tryz.isAgg4
 z4:=Tryz.sizeOf4
 v4:=Tryz.zeroValue4
 t22:=Tryz.underlying31
 a22:=Tryz.isAgg31
 z22:=Tryz.sizeOf31
 v22:=Tryz.zeroValue31 }
def Hu:Go.Shelf.Ren:=⟨fun|41=>163|n=>n,fun|22=>32|23=>203|4=>4|n=>n,fun|n=>n⟩
theorem Hv:Go.Proofs.SlLaysE0.n41 Tryz.prog Hu:={
 mixed:=by kernel_rfl
 f41:=⟨Tryz.f163.name,by decide,Tryz.func163.trans (congrArg some (by kernel_rfl))⟩
 t4:=Tryz.underlying4
 a4:=Tryz.isAgg4
 z4:=Tryz.sizeOf4
 v4:=Tryz.zeroValue4
 t22:=Tryz.underlying32
 a22:=Tryz.isAgg32
 z22:=Tryz.sizeOf32
 v22:=Tryz.zeroValue32 }
def Hr:Go.Shelf.Ren:=⟨fun|41=>164|n=>n,fun|22=>33|23=>205|4=>4|n=>n,fun|n=>n⟩
theorem Hs:Go.Proofs.SlLaysE0.n41 Tryz.prog Hr:={
 mixed:=by kernel_rfl
 f41:=⟨Tryz.f164.name,by decide,Tryz.func164.trans (congrArg some (by kernel_rfl))⟩
 t4:=Tryz.underlying4
 a4:=Tryz.isAgg4
 z4:=Tryz.sizeOf4
 v4:=Tryz.zeroValue4
 t22:=Tryz.underlying33
 a22:=Tryz.isAgg33
 z22:=Tryz.sizeOf33
 v22:=Tryz.zeroValue33 }
def Ho:Go.Shelf.Ren:=⟨fun|41=>165|n=>n,fun|22=>35|23=>125|4=>4|n=>n,fun|n=>n⟩
theorem Hp:Go.Proofs.SlLaysE0.n41 Tryz.prog Ho:={
 mixed:=by kernel_rfl
 f41:=⟨Tryz.f165.name,by decide,Tryz.func165.trans (congrArg some (by kernel_rfl))⟩
 t4:=Tryz.underlying4
 a4:=Tryz.isAgg4
 z4:=Tryz.sizeOf4
 v4:=Tryz.zeroValue4
 t22:=Tryz.underlying35
 a22:=Tryz.isAgg35
 z22:=Tryz.sizeOf35
 v22:=Tryz.zeroValue35 }
def Hg:Go.Shelf.Ren:=⟨fun|41=>166|n=>n,fun|22=>36|23=>127|4=>4|n=>n,fun|n=>n⟩
theorem Hh:Go.Proofs.SlLaysE0.n41 Tryz.prog Hg:={
 mixed:=by kernel_rfl
 f41:=⟨Tryz.f166.name,by decide,Tryz.func166.trans (congrArg some (by kernel_rfl))⟩
 t4:=Tryz.underlying4
 a4:=Tryz.isAgg4
 z4:=Tryz.sizeOf4
 v4:=Tryz.zeroValue4
 t22:=Tryz.underlying36
 a22:=Tryz.isAgg36
 z22:=Tryz.sizeOf36
 v22:=Tryz.zeroValue36 }
def G_:Go.Shelf.Ren:=⟨fun|41=>167|n=>n,fun|22=>37|23=>129|4=>4|n=>n,fun|n=>n⟩
theorem He:Go.Proofs.SlLaysE0.n41 Tryz.prog G_:={
 mixed:=by kernel_rfl
 f41:=⟨Tryz.f167.name,by decide,Tryz.func167.trans (congrArg some (by kernel_rfl))⟩
 t4:=Tryz.underlying4
 a4:=Tryz.isAgg4
 z4:=Tryz.sizeOf4
 v4:=Tryz.zeroValue4
 t22:=Tryz.underlying37
 a22:=Tryz.isAgg37
 z22:=Tryz.sizeOf37
 v22:=Tryz.zeroValue37 }
def G7:Go.Shelf.Ren:=⟨fun|41=>225|n=>n,fun|22=>139|23=>52|4=>4|n=>n,fun|n=>n⟩
theorem G8:Go.Proofs.SlLaysE0.n41 Tryz.prog G7:={
 mixed:=by kernel_rfl
 f41:=⟨Tryz.f225.name,by decide,Tryz.func225.trans (congrArg some (by kernel_rfl))⟩
 t4:=Tryz.underlying4
 a4:=Tryz.isAgg4
 z4:=Tryz.sizeOf4
 v4:=Tryz.zeroValue4
 t22:=Tryz.underlying139
 a22:=Tryz.isAgg139
 z22:=Tryz.sizeOf139
 v22:=Tryz.zeroValue139 }
theorem jk(w:World)(v:Value)(n:Nat)(cs:List Value)(h:SliceAt w v 1 n cs)(hbig:n≤100000000):Calls Tryz.prog 155 #[v] w fun r w'=>∃ v',r=.returned v'∧w'.ownsRow w.heap.size 9 1 v' n cs∧(v=.slice none 0 0↔v'=.slice none 0 0)∧avn w.heap.size w w':=
 dL Ik 1 16 (by kernel_rfl) (by decide) (fun w=>Tryz.sizeOf9 w) w v n cs h (avr (avz _ hbig) (by decide))
theorem Ii(w:World)(v:Value)(n:Nat)(cs:List Value)(h:SliceAt w v 5 n cs)(hbig:n≤100000000):Calls Tryz.prog 157 #[v] w fun r w'=>∃ v',r=.returned v'∧w'.ownsRow w.heap.size 184 5 v' n cs∧(v=.slice none 0 0↔v'=.slice none 0 0)∧avn w.heap.size w w':=
 dL Ih 5 48 (by kernel_rfl) (by decide) (fun w=>Tryz.sizeOf184 w) w v n cs h (avr (avz _ hbig) (by decide))
theorem Ie(w:World)(v:Value)(n:Nat)(cs:List Value)(h:SliceAt w v 9 n cs)(hbig:n≤100000000):Calls Tryz.prog 158 #[v] w fun r w'=>∃ v',r=.returned v'∧w'.ownsRow w.heap.size 188 9 v' n cs∧(v=.slice none 0 0↔v'=.slice none 0 0)∧avn w.heap.size w w':=
 dL Ic 9 80 (by kernel_rfl) (by decide) (fun w=>Tryz.sizeOf188 w) w v n cs h (avr (avz _ hbig) (by decide))
theorem Ia(w:World)(v:Value)(n:Nat)(cs:List Value)(h:SliceAt w v 11 n cs)(hbig:n≤100000000):Calls Tryz.prog 159 #[v] w fun r w'=>∃ v',r=.returned v'∧w'.ownsRow w.heap.size 192 11 v' n cs∧(v=.slice none 0 0↔v'=.slice none 0 0)∧avn w.heap.size w w':=
 dL H_ 11 96 (by kernel_rfl) (by decide) (fun w=>Tryz.sizeOf192 w) w v n cs h (avr (avz _ hbig) (by decide))
theorem H8(w:World)(v:Value)(n:Nat)(cs:List Value)(h:SliceAt w v 2 n cs)(hbig:n≤100000000):Calls Tryz.prog 160 #[v] w fun r w'=>∃ v',r=.returned v'∧w'.ownsRow w.heap.size 197 2 v' n cs∧(v=.slice none 0 0↔v'=.slice none 0 0)∧avn w.heap.size w w':=
 dL H7 2 24 (by kernel_rfl) (by decide) (fun w=>Tryz.sizeOf197 w) w v n cs h (avr (avz _ hbig) (by decide))
theorem HZ(w:World)(v:Value)(n:Nat)(cs:List Value)(h:SliceAt w v 13 n cs)(hbig:n≤100000000):Calls Tryz.prog 161 #[v] w fun r w'=>∃ v',r=.returned v'∧w'.ownsRow w.heap.size 56 13 v' n cs∧(v=.slice none 0 0↔v'=.slice none 0 0)∧avn w.heap.size w w':=
 dL HY 13 104 (by kernel_rfl) (by decide) (fun w=>Tryz.sizeOf56 w) w v n cs h (avr (avz _ hbig) (by decide))
theorem Hz(w:World)(v:Value)(n:Nat)(cs:List Value)(h:SliceAt w v 13 n cs)(hbig:n≤100000000):Calls Tryz.prog 162 #[v] w fun r w'=>∃ v',r=.returned v'∧w'.ownsRow w.heap.size 84 13 v' n cs∧(v=.slice none 0 0↔v'=.slice none 0 0)∧avn w.heap.size w w':=
 dL Hy 13 112 (by kernel_rfl) (by decide) (fun w=>Tryz.sizeOf84 w) w v n cs h (avr (avz _ hbig) (by decide))
theorem Hw(w:World)(v:Value)(n:Nat)(cs:List Value)(h:SliceAt w v 10 n cs)(hbig:n≤100000000):Calls Tryz.prog 163 #[v] w fun r w'=>∃ v',r=.returned v'∧w'.ownsRow w.heap.size 203 10 v' n cs∧(v=.slice none 0 0↔v'=.slice none 0 0)∧avn w.heap.size w w':=
 dL Hv 10 80 (by kernel_rfl) (by decide) (fun w=>Tryz.sizeOf203 w) w v n cs h (avr (avz _ hbig) (by decide))
theorem Ht(w:World)(v:Value)(n:Nat)(cs:List Value)(h:SliceAt w v 13 n cs)(hbig:n≤100000000):Calls Tryz.prog 164 #[v] w fun r w'=>∃ v',r=.returned v'∧w'.ownsRow w.heap.size 205 13 v' n cs∧(v=.slice none 0 0↔v'=.slice none 0 0)∧avn w.heap.size w w':=
 dL Hs 13 104 (by kernel_rfl) (by decide) (fun w=>Tryz.sizeOf205 w) w v n cs h (avr (avz _ hbig) (by decide))
theorem Hq(w:World)(v:Value)(n:Nat)(cs:List Value)(h:SliceAt w v 8 n cs)(hbig:n≤100000000):Calls Tryz.prog 165 #[v] w fun r w'=>∃ v',r=.returned v'∧w'.ownsRow w.heap.size 125 8 v' n cs∧(v=.slice none 0 0↔v'=.slice none 0 0)∧avn w.heap.size w w':=
 dL Hp 8 72 (by kernel_rfl) (by decide) (fun w=>Tryz.sizeOf125 w) w v n cs h (avr (avz _ hbig) (by decide))
theorem Hl(w:World)(v:Value)(n:Nat)(cs:List Value)(h:SliceAt w v 9 n cs)(hbig:n≤100000000):Calls Tryz.prog 166 #[v] w fun r w'=>∃ v',r=.returned v'∧w'.ownsRow w.heap.size 127 9 v' n cs∧(v=.slice none 0 0↔v'=.slice none 0 0)∧avn w.heap.size w w':=
 dL Hh 9 80 (by kernel_rfl) (by decide) (fun w=>Tryz.sizeOf127 w) w v n cs h (avr (avz _ hbig) (by decide))
theorem Hf(w:World)(v:Value)(n:Nat)(cs:List Value)(h:SliceAt w v 10 n cs)(hbig:n≤100000000):Calls Tryz.prog 167 #[v] w fun r w'=>∃ v',r=.returned v'∧w'.ownsRow w.heap.size 129 10 v' n cs∧(v=.slice none 0 0↔v'=.slice none 0 0)∧avn w.heap.size w w':=
 dL He 10 88 (by kernel_rfl) (by decide) (fun w=>Tryz.sizeOf129 w) w v n cs h (avr (avz _ hbig) (by decide))
theorem G9(w:World)(v:Value)(n:Nat)(cs:List Value)(h:SliceAt w v 1 n cs)(hbig:n≤100000000):Calls Tryz.prog 225 #[v] w fun r w'=>∃ v',r=.returned v'∧w'.ownsRow w.heap.size 52 1 v' n cs∧(v=.slice none 0 0↔v'=.slice none 0 0)∧avn w.heap.size w w':=
 dL G8 1 8 (by kernel_rfl) (by decide) (fun w=>Tryz.sizeOf52 w) w v n cs h (avr (avz _ hbig) (by decide))
end Go.Proofs.YtdcofoaihmongaaGreat
namespace Go.Proofs.YtdcofoaihmongaaGreat
open Go Go.RowKit
def ZY(w:World)(base:Nat)(cs:List Value)(x:aj×Int):Prop:=∃ v,cs=x.1.cells++[v]∧bR w base v x.2
def gQ(w:World)(base:Nat)(v:Value)(l:List (aj×Int)):Prop:=aq 14 (ZY w base) w v l
theorem ZY.keep{w w':World}{base:Nat}{cs:List Value}{x:aj×Int}(h:ZY w base cs x)(hb:avn w.heap.size w w'):ZY w' base cs x:=by
 obtain⟨v,e,hs⟩:=h;exact⟨v,e,hs.keep hb⟩
theorem gQ.keep{w w':World}{base:Nat}{v:Value}{l:List (aj×Int)}(h:gQ w base v l)(hb:avn w.heap.size w w'):gQ w' base v l:=aq.mono h hb fun _ _ h=>h.keep hb
theorem B6{w:World}{b o:Nat}{r:aj}{v:Value}(h:∀ j u,(r.cells++[v])[j]?=some u→w.cell? ⟨b,o+j,none⟩=some u):
 ∀ j uu,[.int .i64 r.kind,.int .u64 r.src.a,.int .u64 r.src.b,.int .u64 r.src.c,.int .u64 r.src.d,.int .u64 r.tgt.a,.int .u64 r.tgt.b,.int .u64 r.tgt.c,.int .u64 r.tgt.d,.bool r.self,.int .i64 r.cls,.int .u32 r.perms,.int .i64 r.cond,v][j]?=some uu→w.cell? ⟨b,o+j,none⟩=some uu:=h
theorem PK{w:World}{base e g c:Nat}{x:Value}(h:w.ownsRow base e 1 (.slice (some ⟨g,0,none⟩) 1 c) 1 [x]):w.cell? ⟨g,0,none⟩=some x:=by
 have:=h.cells (g:=g) rfl 0 x rfl;simpa[Addr.add] using this
def mR(r:aj)(s t:Int):Bool:=r.src.mem s&&(r.tgt.mem t||(r.self&&decide (s=t)))
def w_(s t bit acc:Int)(y:aj×Int):Int:=if (decide (bits .and .u32 y.1.perms bit=0)||!(mR y.1 s t))=true then acc else bits .andNot .u64 acc y.2
def Q9(x:Int)(l:List (aj×Int))(s t bit:Int):Bool:=decide (l.foldl (w_ s t bit) x=0)
theorem Yl{s t bit acc x:Int}{l:List (aj×Int)}{m:Nat}{y:aj×Int}(hy:l[m]?=some y)(h:acc=(l.take m).foldl (w_ s t bit) x)(hq:(decide (bits .and .u32 y.1.perms bit=0)||!(mR y.1 s t))=true):acc=(l.take (m+1)).foldl (w_ s t bit) x:=by
 rw[bp hy,List.foldl_append,← h];exact(if_pos hq).symm
theorem abD{s t bit acc x:Int}{l:List (aj×Int)}{m:Nat}{y:aj×Int}(hy:l[m]?=some y)(h:acc=(l.take m).foldl (w_ s t bit) x)(hq:(decide (bits .and .u32 y.1.perms bit=0)||!(mR y.1 s t))=false):bits .andNot .u64 acc y.2=(l.take (m+1)).foldl (w_ s t bit) x:=by
 rw[bp hy,List.foldl_append,← h];exact(if_neg (by rw[hq];decide)).symm
theorem Ym{s t bit acc x:Int}{l:List (aj×Int)}{m:Nat}(hm:m=l.length)(h:acc=(l.take m).foldl (w_ s t bit) x):decide (acc=0)=Q9 x l s t bit:=by
 subst hm;rw[avA] at h;rw[h];rfl
def mh(x y:aj):Bool:=(decide (y.kind=x.kind)&&decide (y.cls=x.cls))&&!decide (bits .and .u32 y.perms x.perms=0)
def nX(k:Nat):Int:=if k<32 then 2^k else 0
def Lc(x:aj×Int)(near:List (aj×Int))(s t:Int)(k:Nat):Bool:=!(decide (bits .and .u32 x.1.perms (nX k)=0))&&!Q9 x.2 near s t (nX k)
def iG(x:aj×Int)(l:List (aj×Int)):Bool:=
 decide (x.2=0)||x.1.pairs.all fun p=>(List.range 32).all fun k=>!Lc x (l.filter fun y=>mh x.1 y.1) p.1 p.2 k
def vE(a b:List (aj×Int)):Bool:=a.all fun x=>iG x b
theorem xg{w:World}{g c:Nat}{x:Value}(hs:w.cell? ⟨g,0,none⟩=some x)(h1:x.oneCell'=true:=by rfl)(hc:1≤c:=by decide):SliceAt w (.slice (some ⟨g,0,none⟩) 1 c) 1 1 [x]:=
 ⟨rfl,by decide,fun u hu=>by rw[avy.1 hu];exact h1,.inr ⟨_,_,rfl,hc,fun j u hu=>by
  match j with
  | 0=>
   obtain rfl:x=u:=by simpa using hu
   exact hs
  | j+1=>simp at hu⟩⟩
theorem Eh(w:World)(v:Value)(n:Nat)(cs:List Value)(h:SliceAt w v 1 n cs)(hbig:n≤100000000):Calls Tryz.prog 225 #[v] w fun r w'=>∃ v',r=.returned v'∧((w'.ownsRow w.heap.size 52 1 v' n cs∧(v=.slice none 0 0↔v'=.slice none 0 0))∧avn w.heap.size w w'):=
 (G9 w v n cs h hbig).mono fun _ _ ⟨v',e,h1,h2,h3⟩=>⟨v',e,⟨h1,h2⟩,h3⟩
theorem Sq(w0:World)(q:aj)(hq:q.Ok)(s t:Int):Calls Tryz.prog 226 #[.agg #[.int .i64 q.kind,.int .u64 q.src.a,.int .u64 q.src.b,.int .u64 q.src.c,.int .u64 q.src.d,.int .u64 q.tgt.a,.int .u64 q.tgt.b,.int .u64 q.tgt.c,.int .u64 q.tgt.d,.bool q.self,.int .i64 q.cls,.int .u32 q.perms,.int .i64 q.cond],.int .i64 s,.int .i64 t] w0 (fun(r:Ending) (w':World)=>r=.returned (.bool (mR q s t))∧avn w0.heap.size w0 w'):=by
 refine bP [] (fn:=Tryz.f226) Tryz.func226 rfl Tryz.ntmps226 rfl<|fun g1 w1 M1=>lb 0<|an rfl<|cl<|an (AU _ q.src hq.src s) fun w2 M2=>lb 0<|an (fun _=>rfl)<|cl<|an (fun _=>AU _ q.tgt hq.tgt t) fun w3 M3=>lb 0<|an (fun _=>rfl)<|?_
 exact fun M=>⟨rfl,M.below⟩
theorem FP(w0:World)(x:aj×Int)(gx:Nat)(hxc:w0.cell? ⟨gx,0,none⟩=some (.int .u64 x.2))(base:Nat)(lv:Value)(l:List (aj×Int))(hL:gQ w0 base lv l)(hcl:l.length≤1000)(hok:∀ y∈l,y.1.Ok)(s t bit:Int):Calls Tryz.prog 154 #[.agg #[.int .i64 x.1.kind,.int .u64 x.1.src.a,.int .u64 x.1.src.b,.int .u64 x.1.src.c,.int .u64 x.1.src.d,.int .u64 x.1.tgt.a,.int .u64 x.1.tgt.b,.int .u64 x.1.tgt.c,.int .u64 x.1.tgt.d,.bool x.1.self,.int .i64 x.1.cls,.int .u32 x.1.perms,.int .i64 x.1.cond,.slice (some ⟨gx,0,none⟩) 1 1],lv,.int .i64 s,.int .i64 t,.int .u32 bit] w0 (fun(r:Ending) (w':World)=>r=.returned (.bool (Q9 x.2 l s t bit))∧avn w0.heap.size w0 w'):=by
 obtain⟨_,_,rfl,-⟩:=aq.form hL (by decide);refine bP [] (fn:=Tryz.f154) Tryz.func154 rfl Tryz.ntmps154 rfl<|fun g1 w1 M1=>lb 0<|an rfl<|cg<|an (Eh _ _ 1 [.int .u64 x.2] (xg (avv M1.below hxc)) (by decide)) fun lv w2 ⟨⟨ho,_⟩,hb⟩=>⟨_,_,M1.yu (r:=⟨lv,52,1,1,[.int .u64 x.2]⟩) hb ho,?_⟩
 obtain⟨lg,cp,_,rfl,-,-,hlc,-⟩:=vm ho (Nat.zero_lt_one);refine lq (ι:=Nat×Int) (fun(m,acc)=>[(20,.int .i64 (m:Int))]) (fun(m,acc)=>[⟨.slice (some ⟨lg,0,none⟩) 1 cp,52,1,1,[.int .u64 acc]⟩]) (fun(m,acc) _=>m≤l.length∧acc=(l.take m).foldl (w_ s t bit) x.2) (fun(m,acc)=>l.length-m) (0,x.2) (an ⟨⟨rfl,trivial⟩,fun M=>⟨M,avu _,rfl⟩⟩ ?_);rintro⟨m,acc⟩ w M ⟨hm,hacc⟩;refine an (fun h=>?_) fun h=>cl<|an (Co _ lg cp _ (PK (M.r 0 rfl))) fun w7 M7=>fun M=>⟨rb (Ym (by simp at h;omega) hacc).symm,M.below⟩
 have hlt:m<l.length:=by simp at h;omega
 obtain⟨y,hy⟩:∃ y,l[m]?=some y:=⟨_,avw hlt⟩;obtain⟨b,o,_,e1,⟨_,rfl,gy,rfl,hwy,Wi⟩,hc⟩:=aq.elt hL (by decide) hy;refine ia<|an ⟨e1,rfl,hlt⟩<|lc (x:=_)<|an (bY M.below (B6 hc))<|ei<|an yV fun g2 w3 M3=>lb 0<|an ⟨rfl,rfl⟩ fun w4 M4=>lb 0<|an rfl<|ei (x:=bits .and .u32 y.1.perms bit)<|an rfl<|lb 0<|an (fun _=>rfl)<|cl<|an (fun _=>Sq _ y.1 (hok y (avs hy)) s t) fun w5 M5=>?_
 refine an (fun hq=>an (by omega)<|bk (m+1,acc) ⟨rfl,trivial⟩ (fun M=>⟨M.only (.cons _ (.refl _)) (.refl _),by omega,Yl hy hacc hq⟩) (by dsimp only;omega)) fun hq=>?_
 refine lq (ι:=Nat×Int) (fun(k,z)=>[(40,.int .i64 (k:Int))]) (fun(k,z)=>[⟨.slice (some ⟨lg,0,none⟩) 1 cp,52,1,1,[.int .u64 z]⟩]) (fun(k,z) _=>k≤1∧(k=0→z=acc)∧(k=1→z=(l.take (m+1)).foldl (w_ s t bit) x.2)) (fun(k,z)=>1-k) (0,acc) (an ⟨⟨rfl,trivial⟩,fun M=>⟨M,avu _,fun _=>rfl,fun h=>by cases h⟩⟩ ?_);rintro⟨k,z⟩ w M ⟨hk,hz0,hz1⟩;refine an (fun h2=>?_) fun h2=>an (by omega)<|bk (m+1,z) ⟨rfl,trivial⟩ (fun M=>⟨M.only (.cons _ (.refl _)) (.refl _),by omega,hz1 (by simp at h2;omega)⟩) (by dsimp only;omega)
 obtain rfl:k=0:=by simp at h2;omega
 obtain rfl:=hz0 rfl;refine dr (by kernel_rfl)<|ia (i:=0)<|an ⟨rfl,rfl,by decide⟩<|lc (x:=.int .u64 z)<|an (PK (M.r 0 rfl))<|lb 0<|an rfl<|ia (i:=0)<|an ⟨rfl,rfl,by decide⟩<|lc (x:=.int .u64 y.2)<|an (avv M.below ((Whole.cell hwy) 0))<|ei (x:=bits .andNot .u64 z y.2)<|an rfl<|ia (i:=0)<|an ⟨rfl,rfl,by decide⟩<|fun w hb M=>sr 0 0 ⟨rfl,rfl,by decide⟩ rfl fun w M=>an (by omega)<|bk (1,bits .andNot .u64 z y.2) ⟨rfl,trivial⟩ (fun M=>⟨M,by omega,(fun h=>by cases h),fun _=>abD hy hacc hq⟩) (by dsimp only;omega)
def ni(z:(aj×Int)×Nat):List Value:=z.1.1.cells++[.slice (some ⟨z.2,0,none⟩) 1 1]
theorem xY(z:(aj×Int)×Nat):(ni z).length=14:=rfl
def cG{α:Type}(w:World)(base:Nat)(N:List ((α×Int)×Nat)):Prop:=∀ z∈N,Whole w z.2 52 #[.int .u64 z.1.2]∧base≤z.2
theorem cG.snoc{α:Type}{w:World}{base g:Nat}{N:List ((α×Int)×Nat)}{y:α×Int}(h:cG w base N)(hw:Whole w g 52 #[.int .u64 y.2])(hg:base≤g):cG w base (N++[(y,g)]):=fun z hz=>by
 rcases avB.1 hz with h1|h1
 ·exact h z h1
 ·rw[avy.1 h1];exact⟨hw,hg⟩
theorem cG.keep{α:Type}{w w':World}{base:Nat}{N:List ((α×Int)×Nat)}(h:cG w base N)(hb:avn w.heap.size w w'):cG w' base N:=fun z hz=>⟨Whole.under hb (h z hz).1 (h z hz).1.lt,(h z hz).2⟩
theorem ES(N:List ((aj×Int)×Nat)):∀ u∈N.flatMap ni,u.oneCell'=true:=fun u hu=>by
 obtain⟨z,-,hz⟩:=List.mem_flatMap.1 hu;simp only[ni,aj.cells,avB,avC,List.not_mem_nil,or_false] at hz;rcases hz with(rfl|rfl|rfl|rfl|rfl|rfl|rfl|rfl|rfl|rfl|rfl|rfl|rfl)|rfl<;>rfl
theorem Ns{w:World}{base b n:Nat}{v:Value}{N:List ((aj×Int)×Nat)}(ho:w.ownsRow b 146 14 v n (N.flatMap ni))(hn:n=N.length)(hN:cG w base N):gQ w base v (N.map (·.1)):=by
 subst hn;refine⟨N.map ni,by simp,fun x hx=>?_,?_,fun i x y hx hy=>?_⟩
 ·obtain⟨z,-,rfl⟩:=avD.1 hx;exact xY z
 ·rw[← List.flatMap_def,avE];exact SliceAt.bq ho (ES N)
 ·rw[avF] at hx hy
  cases hz:N[i]? with
  | none=>rw[hz] at hx;simp at hx
  | some z=>
   rw[hz] at hx hy;simp only[Option.map_some,Option.some.injEq] at hx hy;subst hx hy;obtain⟨h1,h2⟩:=hN z (avs hz);exact⟨_,rfl,z.2,rfl,h1,h2⟩
theorem fQ{w:World}{base e k n:Nat}{v:Value}{xs:List Value}(h:w.ownsRow base e k v n xs):∃ a c,v=.slice a n c∧n≤c∧n≤9223372036854775807:=by
 rcases h.2 with⟨rfl,rfl⟩|⟨g,cap,cur,rfl,-,-,h1,h2,-⟩
 ·exact⟨none,0,rfl,Nat.le_refl _,by decide⟩
 ·exact⟨_,_,rfl,h1,avr h1 h2⟩
theorem PB{α:Type}{w:World}{base e k n c:Nat}{a:Option Addr}{f:α→List Value}{l:List α}(h:w.ownsRow base e k (.slice a n c) n (l.flatMap f))(hf:∀ x,(f x).length=k){m:Nat}{y:α}(hy:l[m]?=some y)(_:0<k)(hn:n=l.length):
 ∃ g,a=some ⟨g,0,none⟩∧∀ j uu,(f y)[j]?=some uu→w.cell? ⟨g,0+m*k+j,none⟩=some uu:=by
 have hm:=(avG.1 hy).1;obtain⟨g,cap,cur,hv,-,-,-⟩:=vm h (by omega);injection hv with e1 e2 e3;refine⟨g,e1,fun j u hu=>?_⟩;have hj:j<k:=by rw[← hf y];exact(avG.1 hu).1
 have:=h.cells (g:=g) (by rw[e1];rfl) (m*k+j) u (by rw[nr hf hy j hj];exact hu);rw[Addr.add_lit] at this;simpa using this
theorem Tf:∀ k:Nat,k<32→IntKind.u32.wrap (nX k*2^((1:Int)).toNat)=nX (k+1):=by decide
theorem ZN:∀ k:Nat,k<32→decide (nX k=0)=false:=by decide
theorem Xt:nX 32=0:=by decide
theorem Xy{α:Type}{p:α→Bool}{l:List α}{m:Nat}{y:α}(hy:l[m]?=some y)(h:(l.take m).all p=true)(hp:p y=true):(l.take (m+1)).all p=true:=by
 rw[bp hy,List.all_append,h];simp[hp]
theorem Xx{α:Type}{p:α→Bool}{l:List α}{m:Nat}{y:α}(hy:l[m]?=some y)(hp:p y=false):l.all p=false:=by
 rw[Bool.eq_false_iff];intro h;have:=avH.1 h y (avs hy);rw[hp] at this;cases this
theorem MS{p:Nat→Bool}{k:Nat}(h:(List.range k).all p=true)(hp:p k=true):(List.range (k+1)).all p=true:=by
 rw[List.range_succ,List.all_append,h];simp[hp]
theorem MQ{p:Nat→Bool}{k n:Nat}(hk:k<n)(hp:p k=false):(List.range n).all p=false:=by
 rw[Bool.eq_false_iff];intro h;have:=avH.1 h k (List.mem_range.2 hk);rw[hp] at this;cases this
theorem ZE{x:aj×Int}{l near:List (aj×Int)}{m:Nat}(hn:near=l.filter fun y=>mh x.1 y.1)(hm:m=x.1.pairs.length)(h:((x.1.pairs.take m).all fun p=>(List.range 32).all fun k=>!Lc x near p.1 p.2 k)=true):true=iG x l:=by
 subst hm hn;rw[avA] at h;unfold iG;rw[h,Bool.or_true]
theorem adt{x:aj×Int}{l near:List (aj×Int)}{m k:Nat}{p:Nat×Nat}(hn:near=l.filter fun y=>mh x.1 y.1)(hp:x.1.pairs[m]?=some p)(hk:k<32)(hx:decide (x.2=0)=false)(hb:Lc x near p.1 p.2 k=true):false=iG x l:=by
 subst hn;unfold iG;rw[hx,Bool.false_or];refine(Xx hp ?_).symm;exact MQ hk (by rw[hb];rfl)
theorem Vu{x:aj}{l:List (aj×Int)}{N:List ((aj×Int)×Nat)}{m g:Nat}{y:aj×Int}(hy:l[m]?=some y)(h:N.map (·.1)=(l.take m).filter fun y=>mh x y.1)(hq:mh x y.1=true):(N++[(y,g)]).map (·.1)=(l.take (m+1)).filter fun y=>mh x y.1:=by
 rw[bp hy,List.filter_append,← h,avI];simp[hq]
theorem YV{x:aj}{l:List (aj×Int)}{N:List ((aj×Int)×Nat)}{m:Nat}{y:aj×Int}(hy:l[m]?=some y)(h:N.map (·.1)=(l.take m).filter fun y=>mh x y.1)(hq:mh x y.1=false):N.map (·.1)=(l.take (m+1)).filter fun y=>mh x y.1:=by
 rw[bp hy,List.filter_append,← h];simp[hq]
theorem R6(l:List Nat):ints l=l.flatMap fun x:Nat=>[Value.int .i64 (x:Int)]:=by unfold ints;induction l<;>simp_all
theorem VY{w:World}{base n c:Nat}{a:Option Addr}{l:List Nat}(h:w.ownsRow base 3 1 (.slice a n c) n (ints l)){m y:Nat}(hy:l[m]?=some y)(hn:n=l.length):∃ g,a=some ⟨g,0,none⟩∧w.cell? ⟨g,0+m*1,none⟩=some (.int .i64 (y:Int)):=by
 obtain⟨g,e,hc⟩:=PB (k:=1) (f:=fun x:Nat=>[Value.int .i64 (x:Int)]) (l:=l) (by rw[← R6];exact h) (fun _=>rfl) hy (by decide) hn;exact⟨g,e,hc 0 _ rfl⟩
theorem Rq(w0:World)(r:aj)(hr:r.Ok):Calls Tryz.prog 59 #[.agg #[.int .i64 r.kind,.int .u64 r.src.a,.int .u64 r.src.b,.int .u64 r.src.c,.int .u64 r.src.d,.int .u64 r.tgt.a,.int .u64 r.tgt.b,.int .u64 r.tgt.c,.int .u64 r.tgt.d,.bool r.self,.int .i64 r.cls,.int .u32 r.perms,.int .i64 r.cond]] w0 fun e w'=>∃ v,e=.returned v∧(w'.ownsRow w0.heap.size 111 2 v r.pairs.length (fZ r.pairs)∧avn w0.heap.size w0 w'):=by
 refine bP [] (fn:=Tryz.f59) Tryz.func59 rfl Tryz.ntmps59 rfl<|fun g1 w1 M1=>lb 0<|an rfl<|cw M1 (CB _ r.src hr.src) fun u1 w2 M2=>?_
 obtain⟨a1,c1,rfl,-,-⟩:=fQ (v:=u1) (n:=(elems r.src).length) (M2.r 0 rfl);have hn1:(elems r.src).length≤256:=iW _ _;refine lq (ι:=Nat×Value) (fun(k,u)=>[(3,u),(13,.int .i64 (k:Int))]) (fun(k,u)=>⟨u,111,2,(r.cO ((elems r.src).take k)).length,fZ (r.cO ((elems r.src).take k))⟩::_) (fun(k,u) _=>k≤(elems r.src).length) (fun(k,u)=>(elems r.src).length-k) (0,.slice none 0 0) (an ⟨⟨rfl,rfl,trivial⟩,fun M=>⟨M.bB 111 2,avu _⟩⟩ ?_);rintro⟨k,u⟩ w M hk;refine an (fun h=>?_) fun h=>?_
 ·have hlt:k<(elems r.src).length:=by simp at h;omega
  obtain⟨s,hs⟩:∃ s,(elems r.src)[k]?=some s:=⟨_,avw hlt⟩;obtain⟨g,e,hc⟩:=VY (M.r 1 rfl) hs rfl;have hP:=zn r ((elems r.src).take k);have hP2:=List.length_take_le k (elems r.src);have AR:=bp hs;refine ia<|an ⟨e,rfl,hlt⟩<|lc (x:=.int .i64 (s:Int))<|an hc<|lb 0<|an rfl<|ei<|an tE fun g2 w3 M3=>lb 0<|an ⟨rfl,rfl⟩ fun w4 M4=>lb 1<|an rfl<|?_
  have hT:elems (r.tgts s)=if r.self=true then elems (r.tgt.with s) else elems r.tgt:=by unfold aj.tgts;split<;>rfl
  refine an (fun hf=>?_) fun hf=>?_
  rw[if_pos hf] at hT;refine lb 0<|an rfl<|cl<|an (aeo _ r.tgt hr.tgt s) fun w5 M5=>lb 0<|an ⟨rfl,rfl⟩ fun w6 M6=>lb 0<|an rfl<|cw M6 (CB _ (r.tgt.with s) (ay.FE hr.tgt s)) fun u2 w7 M7=>?_
  obtain⟨a2,c2,rfl,-,-⟩:=fQ (v:=u2) (n:=(elems (r.tgt.with s)).length) (M7.r 0 rfl);generalize elems (r.tgt.with s)=l2 at *
  rotate_left
  rw[if_neg (by rw[hf];decide)] at hT;refine lb 0<|an rfl<|cw M4 (CB _ r.tgt hr.tgt) fun u2 w7 M7=>?_
  obtain⟨a2,c2,rfl,-,-⟩:=fQ (v:=u2) (n:=(elems r.tgt).length) (M7.r 0 rfl);generalize elems r.tgt=l2 at *
  all_goals
   subst hT;have hn2:(elems (r.tgts s)).length≤256:=iW _ _;refine lq (ι:=Nat×Value) (fun(q,u)=>[(3,u),(27,.int .i64 (q:Int))]) (fun(q,u)=>[_,⟨u,111,2,(r.cO ((elems r.src).take k)).length+q,fZ (r.cO ((elems r.src).take k))++fZ (((elems (r.tgts s)).take q).map fun t=>(s,t))⟩,_]) (fun(q,u) _=>q≤(elems (r.tgts s)).length) (fun(q,u)=>(elems (r.tgts s)).length-q) (0,u) (an ⟨⟨rfl,rfl,trivial⟩,fun M=>⟨M.cast rfl (by dsimp only;rw[List.take_zero,List.map_nil,show fZ []=[] from rfl,List.append_nil,Nat.add_zero]),avu _⟩⟩ ?_);rintro⟨q,u⟩ w M hq;refine an (fun h=>?_) fun h=>?_
   ·have hlt:q<(elems (r.tgts s)).length:=by simp at h;omega
    obtain⟨y,hy⟩:∃ y,(elems (r.tgts s))[q]?=some y:=⟨_,avw hlt⟩;obtain⟨g,e,hc⟩:=VY (M.r 0 rfl) hy rfl;refine ia<|an ⟨e,rfl,hlt⟩<|lc (x:=.int .i64 (y:Int))<|an hc<|ei (x:=.agg #[.int .i64 (s:Int),.int .i64 (y:Int)])<|an (bd (by kernel_rfl))<|fun g3 w8 M8=>ap 1 id rfl (M8.slice 0 rfl (k:=2) (n:=1) rfl rfl (by simp[maxLen])) ⟨by unfold maxLen;omega,by omega⟩ fun v4 w9 M9=>an (by omega)<|bk (q+1,v4) ⟨rfl,rfl,trivial⟩ (fun M=>⟨(M.only (.cons _ (.refl _)) (.refl _)).cast rfl (by dsimp only;rw[bp hy,avI,lV,← List.append_assoc];rfl),by dsimp only;omega⟩) (by dsimp only;omega)
   obtain rfl:q=(elems (r.tgts s)).length:=by simp at h;omega
   exact an (by omega)<|bk (k+1,u) ⟨rfl,rfl,trivial⟩ (fun M=>⟨(M.only (.cons _ (.refl _)) (.cons _ (.refl _))).cast rfl (by dsimp only;rw[avA,AR,vh,lV,avJ,avE]),by dsimp only;omega⟩) (by dsimp only;omega)
 obtain rfl:k=(elems r.src).length:=by simp at h;omega
 exact fun M=>⟨_,rfl,by have h:=M.r 0 rfl;rw[avA] at h;exact h,M.below⟩
theorem zG(w0:World)(x:aj×Int)(hxo:x.1.Ok)(gx:Nat)(hxc:w0.cell? ⟨gx,0,none⟩=some (.int .u64 x.2))(base:Nat)(lv:Value)(l:List (aj×Int))(hL:gQ w0 base lv l)(hcl:l.length≤1000)(hok:∀ y∈l,y.1.Ok):Calls Tryz.prog 80 #[.agg #[.int .i64 x.1.kind,.int .u64 x.1.src.a,.int .u64 x.1.src.b,.int .u64 x.1.src.c,.int .u64 x.1.src.d,.int .u64 x.1.tgt.a,.int .u64 x.1.tgt.b,.int .u64 x.1.tgt.c,.int .u64 x.1.tgt.d,.bool x.1.self,.int .i64 x.1.cls,.int .u32 x.1.perms,.int .i64 x.1.cond,.slice (some ⟨gx,0,none⟩) 1 1],lv] w0 (fun(r:Ending) (w':World)=>r=.returned (.bool (iG x l))∧avn w0.heap.size w0 w'):=by
 obtain⟨_,_,rfl,-⟩:=aq.form hL (by decide);refine bP [] (fn:=Tryz.f80) Tryz.func80 rfl Tryz.ntmps80 rfl<|fun g1 w1 M1=>lb 0<|an rfl<|cl<|an (Co _ gx 1 _ (avv M1.below hxc)) fun w2 M2=>an (fun h=>fun M=>⟨rb (by unfold iG;rw[h];rfl),M.below⟩) fun h0=>lq (ι:=Nat×Value×List ((aj×Int)×Nat)) (fun(m,v,N)=>[(5,v),(16,.int .i64 (m:Int))]) (fun(m,v,N)=>[⟨v,146,14,N.length,N.flatMap ni⟩]) (fun(m,v,N) _=>m≤l.length∧N.map (·.1)=((l.take m).filter fun y=>mh x.1 y.1)∧cG w0 base N) (fun(m,v,N)=>l.length-m) (0,.slice none 0 0,[]) (an ⟨⟨rfl,rfl,trivial⟩,fun M=>⟨M.bB 146 14,avu _,rfl,(fun _ h=>by cases h)⟩⟩ ?_)
 rintro⟨m,v,N⟩ w M ⟨hm,D8,hN⟩;refine an (fun h=>?_) fun h=>?_
 ·have hlt:m<l.length:=by simp at h;omega
  obtain⟨y,hy⟩:∃ y,l[m]?=some y:=⟨_,avw hlt⟩;obtain⟨b,o,_,e1,⟨_,rfl,gy,rfl,hwy,Wi⟩,hc⟩:=aq.elt hL (by decide) hy
  have hlN:N.length≤1000:=by
   have h:=congrArg List.length D8;rw[avE] at h;rw[h];exact avr (List.length_filter_le _ _) (by rw[List.length_take];omega)
  exact ia<|an ⟨e1,rfl,hlt⟩<|lc<|an (bY M.below (B6 hc))<|ei<|an yV fun g2 w3 M3=>lb 0<|an ⟨rfl,rfl⟩ fun w4 M4=>lb 0<|an rfl<|lb 1<|an rfl<|lb 0<|an (fun _=>rfl)<|lb 1<|an (fun _=>rfl)<|lb 0<|an (fun _=>rfl)<|lb 1<|an (fun _=>rfl)<|ei (x:=bits .and .u32 y.1.perms x.1.perms)<|an (fun _=>rfl)<|an (fun hq=>lb 0<|an rfl<|fun g3 w5 M5=>ap 0 id rfl (M5.slice 0 rfl (k:=14) (n:=1) rfl rfl (by simp[maxLen])) ⟨by unfold maxLen;omega,by omega⟩ fun v4 w6 M6=>an (by omega)<|bk (m+1,v4,N++[(y,gy)]) ⟨rfl,rfl,trivial⟩ (fun M=>⟨(M.only (.cons _ (.cons _ (.refl _))) (.refl _)).cast rfl (by dsimp only;rw[avJ,avK];rfl),by omega,Vu hy D8 hq,hN.snoc hwy Wi⟩) (by dsimp only;omega)) fun hq=>an (by omega)<|bk (m+1,v,N) ⟨rfl,rfl,trivial⟩ (fun M=>⟨M.only (.cons _ (.refl _)) (.refl _),by omega,YV hy D8 hq,hN⟩) (by dsimp only;omega)
 obtain rfl:m=l.length:=by simp at h;omega
 rw[avA] at D8;refine lb 0<|an rfl<|cw M (Rq _ x.1 hxo) fun u w7 M7=>?_
 obtain⟨pa,pc,rfl,-,hpl⟩:=fQ (v:=u) (n:=x.1.pairs.length) (M7.r 0 rfl);refine lr (ι:=Nat) (fun m=>[(55,.int .i64 (m:Int))]) (fun m _=>m≤x.1.pairs.length∧((x.1.pairs.take m).all fun p=>(List.range 32).all fun k=>!Lc x (N.map (·.1)) p.1 p.2 k)=true) (fun m=>x.1.pairs.length-m) 0 (an ⟨⟨rfl,trivial⟩,fun M=>⟨M,avu _,rfl⟩⟩ ?_);intro m w8 M8 ⟨hm,hall⟩;refine an (fun h2=>?_) fun h2 M=>⟨rb (ZE D8 (by simp at h2;omega) hall).symm,M.below⟩
 have hlt:m<x.1.pairs.length:=by simp at h2;omega
 obtain⟨p,hp⟩:∃ p,x.1.pairs[m]?=some p:=⟨_,avw hlt⟩;obtain⟨pg,e1,hc⟩:=PB (k:=2) (f:=JF) (M8.r 0 rfl) (fun _=>rfl) hp (by decide) rfl;refine ia<|an ⟨e1,rfl,hlt⟩<|lc<|an hc<|ei<|an ael fun g5 w9 M9=>lb 0<|an ⟨rfl,rfl⟩ fun qq jZ=>lr (ι:=Nat) (fun k=>[(10,.int .u32 (nX k))]) (fun k _=>k≤32∧((List.range k).all fun k=>!Lc x (N.map (·.1)) p.1 p.2 k)=true) (fun k=>32-k) 0 (an ⟨⟨rfl,trivial⟩,fun M=>⟨M,by decide,rfl⟩⟩ ?_)
 intro k zS M11 ⟨hk,aaE⟩;refine an (fun h3=>?_) fun h3=>?_
 ·have CR:k<32:=by
   rcases Nat.lt_or_ge k 32 with h|h
   ·exact h
   ·rw[show k=32 by omega,Xt] at h3;cases h3
  refine lb 1<|an rfl<|ei (x:=bits .and .u32 x.1.perms (nX k))<|an rfl<|lb 1<|an (fun _=>rfl)<|ei (x:=0)<|an (fun _=>⟨rfl,by decide⟩)<|lb 0<|an (fun _=>rfl)<|ei (x:=1)<|an (fun _=>⟨rfl,by decide⟩)<|lb 0<|an (fun _=>rfl)<|cl<|an (fun _=>FP _ x gx (avv M11.below hxc) base v (N.map (·.1)) (Ns (M11.r 1 rfl) rfl (hN.keep M11.below)) (by rw[D8];exact avr (List.length_filter_le _ _) hcl) (by rw[D8];exact fun z hz=>hok z (List.mem_filter.1 hz).1) p.1 p.2 (nX k)) fun DZ Bn=>?_
  refine an (fun hb M=>⟨rb (adt D8 hp CR h0 hb).symm,M.below⟩) fun hb=>?_
  refine ei (x:=.int .u32 (nX (k+1)))<|an (fun a w o ho hv=>?_)<|bk (k+1) ⟨rfl,trivial⟩ (fun M=>⟨M,by omega,MS aaE (by rw[show Lc x (N.map (·.1)) p.1 p.2 k=false from hb];rfl)⟩) (by dsimp only;omega);exact(ku ho (dU hv) (fE hv) (by decide) (by decide)).trans (by rw[Tf k CR])
 have CR:k=32:=by
  rcases Nat.lt_or_ge k 32 with h|h
  ·rw[ZN k h] at h3;cases h3
  ·omega
 exact an (by omega)<|bk (m+1) ⟨rfl,trivial⟩ (fun M=>⟨M.only (.cons _ (.refl _)) (.refl _),by omega,Xy hp hall (by rw[← CR];exact aaE)⟩) (by dsimp only;omega)
theorem Zy{P:Program}{a:Act}{w:World}{o:Oper}{f:FuncId}{cs:Array Operand}{cap:Array Value}(ho:o.op=.makeFunc (.func f) #[] cs)(hc:cs.map a.eval=cap):(execOp a.eval o).run P w=.ok (.value (.func (.func f) #[] cap)) w:=by
 unfold execOp;simp[ho,hc,Instr.makeFunc]
def firstAt{α:Type}(p:α→Bool):List α→Nat→Int
 | [],_=>-1
 | x::l,k=>if p x=true then (k:Int) else firstAt p l (k+1)
theorem C6{α:Type}{p:α→Bool}:∀ {l:List α} {k:Nat},decide (0≤firstAt p l k)=l.any p
 | [],_=>rfl
 | x::l,k=>by
  rw[firstAt,List.any_cons]
  cases h:p x with
  | true=>rw[if_pos rfl];simp
  | false=>rw[if_neg (by decide),C6];rfl
theorem Oe{α:Type}{p:α→Bool}{l:List α}{m:Nat}{y:α}(hy:l[m]?=some y)(h:firstAt p l 0=firstAt p (l.drop m) m)(hp:p y=true):(m:Int)=firstAt p l 0:=by
 rw[h,List.drop_eq_getElem_cons (avG.1 hy).1,(avG.1 hy).2,firstAt,if_pos hp]
theorem Od{α:Type}{p:α→Bool}{l:List α}{m:Nat}{y:α}(hy:l[m]?=some y)(h:firstAt p l 0=firstAt p (l.drop m) m)(hp:p y=false):firstAt p l 0=firstAt p (l.drop (m+1)) (m+1):=by
 rw[h,List.drop_eq_getElem_cons (avG.1 hy).1,(avG.1 hy).2,firstAt,if_neg (by rw[hp];decide)]
theorem Kw{α:Type}{p:α→Bool}{l:List α}{m:Nat}(hm:m=l.length)(h:firstAt p l 0=firstAt p (l.drop m) m):-1=firstAt p l 0:=by
 subst hm;rw[h,List.drop_length];rfl
theorem Y3(a b:List (aj×Int)):(!(a.any fun x=>!iG x b))=vE a b:=by
 unfold vE;rw[List.not_any_eq_all_not];simp
theorem V4(w0:World)(x:aj×Int)(hxo:x.1.Ok)(gx:Nat)(hxc:w0.cell? ⟨gx,0,none⟩=some (.int .u64 x.2))(bx base:Nat)(lv:Value)(l:List (aj×Int))(Zk:Whole w0 bx 141 #[lv])(hL:gQ w0 base lv l)(hcl:l.length≤1000)(hok:∀ y∈l,y.1.Ok):Calls Tryz.prog 153 #[.agg #[.int .i64 x.1.kind,.int .u64 x.1.src.a,.int .u64 x.1.src.b,.int .u64 x.1.src.c,.int .u64 x.1.src.d,.int .u64 x.1.tgt.a,.int .u64 x.1.tgt.b,.int .u64 x.1.tgt.c,.int .u64 x.1.tgt.d,.bool x.1.self,.int .i64 x.1.cls,.int .u32 x.1.perms,.int .i64 x.1.cond,.slice (some ⟨gx,0,none⟩) 1 1],.pointer (some ⟨bx,0,none⟩)] w0 (fun(r:Ending) (w':World)=>r=.returned (.bool (!iG x l))∧avn w0.heap.size w0 w'):=by
 have ct:=hr1 Tryz.prog Tryz.f153 (fun(r:Ending) (w':World)=>r=.returned (.bool (!iG x l))∧avn w0.heap.size w0 w') 8 3 rfl;refine en Tryz.func153 rfl Tryz.ntmps153 rfl (vs:=[.agg #[.int .i64 x.1.kind,.int .u64 x.1.src.a,.int .u64 x.1.src.b,.int .u64 x.1.src.c,.int .u64 x.1.src.d,.int .u64 x.1.tgt.a,.int .u64 x.1.tgt.b,.int .u64 x.1.tgt.c,.int .u64 x.1.tgt.d,.bool x.1.self,.int .i64 x.1.cls,.int .u32 x.1.perms,.int .i64 x.1.cond,.slice (some ⟨gx,0,none⟩) 1 1],.pointer (some ⟨bx,0,none⟩)]) rfl fun _ F=>?_
 have M:=Mm.start w0;refine avo fun K1 jq=>ah<|PZ (on rfl) rfl (F.u rf) rfl F rfl M fun g1 _ _ F M=>xA (v:=.bool false) F rf rf rf fun _ F=>avp<|jq _ _ ?_
 refine avo fun K2 jW=>ah<|xW F (M.b 0 rfl) rf rf rf Jf rf j5 rf fun _ F=>kz F rf (dB rf (F.u rf) zU rfl ((bY M.below (Es Zk)) 0 _ rfl)) fun _ F=>xC F M rf rf q80 (args2 (F.u rf) (F.u rf)) (zG _ x hxo gx (avv M.below hxc) base lv l (hL.keep M.below) hcl hok) fun _ _ F M=>kz F rf (qd rfl (F.u rf)) fun _ F=>xA F rf rf rf fun _ F=>avp<|jW _ _ ?_
 refine wp_ret<|ct _ _ _ _ F rfl ?_;exact⟨rfl,M.below⟩
theorem V2(w0:World)(bx base:Nat)(lv:Value)(l:List (aj×Int))(Zk:Whole w0 bx 141 #[lv])(hL:gQ w0 base lv l)(hcl:l.length≤1000)(hok:∀ y∈l,y.1.Ok)(av:Value)(a1:List (aj×Int))(hA:gQ w0 base av a1)(hca:a1.length≤1000)(Wh:∀ y∈a1,y.1.Ok):Calls Tryz.prog 224 #[av,.func (.func 153) #[] #[.pointer (some ⟨bx,0,none⟩)]] w0 (fun(r:Ending) (w':World)=>r=.returned (.int .i64 (firstAt (fun x=>!iG x l) a1 0))∧avn w0.heap.size w0 w'):=by
 obtain⟨la6,lk6,rfl,hk6,hm6,acE⟩:=aq.form hA (by decide);have ct:=hr1 Tryz.prog Tryz.f224 (fun(r:Ending) (w':World)=>r=.returned (.int .i64 (firstAt (fun x=>!iG x l) a1 0))∧avn w0.heap.size w0 w') 19 4 rfl;refine en Tryz.func224 rfl Tryz.ntmps224 rfl (vs:=[.slice la6 a1.length lk6,.func (.func 153) #[] #[.pointer (some ⟨bx,0,none⟩)]]) rfl fun _ F=>?_
 have M:=Mm.start w0;refine avo fun K1 jq=>ah<|xA (v:=.int .i64 0) F rf rf rf fun _ F=>avp<|jq _ _ ?_
 refine avo fun K2 jW=>avo fun K3 pR=>ah<|xM F rf rf rf fun _ F=>kz F rf (h_ rfl (F.u rf) zU) fun _ F=>xM (v:=.int .i64 0) F rf rf rf fun _ F=>avp<|pR _ _ ?_
 refine avt<|?_;refine gj (ι:=Nat) (fun m a w=>Fs a 19 [(0,.slice la6 a1.length lk6),(1,.func (.func 153) #[] #[.pointer (some ⟨bx,0,none⟩)]),(7,.int .i64 (a1.length:Int)),(8,.int .i64 (m:Int))]∧Mm w0 w [] []∧m≤a1.length∧firstAt (fun x=>!iG x l) a1 0=firstAt (fun x=>!iG x l) (a1.drop m) m) (fun m=>a1.length-m) 0 ⟨F.sub ⟨rfl,rfl,rfl,rfl,trivial⟩,M,avu _,rfl⟩ ?_
 (repeat clear F);(repeat clear M)
 rintro m _ _ ⟨F,M,hm,hI⟩;refine avo fun K4 p9=>ah<|kz F rf (kO rfl (F.u rf) (F.u rf)) fun _ F=>avp<|p9 _ _ ?_
 refine avo fun K5 q5=>?_
 refine avq (F.e 9 rfl) (fun hc1=>?_) (fun hc1=>?_)
 ·have hd2:=of_decide_eq_true hc1;refine wp_skip<|q5 _ _ ?_;refine avo fun K6 tu=>avt<|avo fun K7 vK=>ah<|xM F rf rf rf fun _ F=>xA F rf rf rf fun _ F=>avp<|vK _ _ ?_
  refine avo fun K8 CW=>?_
  have ai7:m<a1.length:=by omega
  obtain⟨x,hx⟩:∃ x,a1[m]?=some x:=⟨_,avw ai7⟩;obtain⟨b6,o6,cs6,rfl,⟨_,rfl,gx,rfl,hwx,hlx⟩,-,hr6⟩:=acE m x hx;have hr6:=B6 hr6
  refine ah<|xM F rf rf rf fun _ F=>xM F rf rf rf fun _ F=>xM F rf rf rf fun _ F=>
   kz F rf (cB (i:=m) rfl (F.u rf) (F.u rf) (by omega) zU j5) fun _ F=>
   kz F rf (g_ [.int .i64 x.1.kind,.int .u64 x.1.src.a,.int .u64 x.1.src.b,.int .u64 x.1.src.c,.int .u64 x.1.src.d,.int .u64 x.1.tgt.a,.int .u64 x.1.tgt.b,.int .u64 x.1.tgt.c,.int .u64 x.1.tgt.d,.bool x.1.self,.int .i64 x.1.cls,.int .u32 x.1.perms,.int .i64 x.1.cond,.slice (some ⟨gx,0,none⟩) 1 1] rfl (F.u rf) Jf rfl j5 (bY M.below hr6)) fun _ F=>
   kc (on rfl) (GY rfl (F.u rf) Tryz.func153 (by kernel_rfl) rfl (args:=#[.agg #[.int .i64 x.1.kind,.int .u64 x.1.src.a,.int .u64 x.1.src.b,.int .u64 x.1.src.c,.int .u64 x.1.src.d,.int .u64 x.1.tgt.a,.int .u64 x.1.tgt.b,.int .u64 x.1.tgt.c,.int .u64 x.1.tgt.d,.bool x.1.self,.int .i64 x.1.cls,.int .u32 x.1.perms,.int .i64 x.1.cond,.slice (some ⟨gx,0,none⟩) 1 1],.pointer (some ⟨bx,0,none⟩)]) (by simp[(F.e 15 rfl)])) (V4 _ x (Wh x (avs hx)) gx (avv M.below (by simpa using hwx.cell 0)) bx base lv l (Whole.under M.below Zk Zk.lt) (hL.keep M.below) hcl hok) rfl F rfl M fun _ _ F M=>
   avp<|
   CW _ _ ?_
  refine avq (F.e 16 rfl) (fun hc3=>?_) (fun hc3=>?_)
  ·have Wo:(iG x l)=false:=by simpa using hc3
   have Y_:(!iG x l)=true:=hc3;refine avo fun K9 AV=>ah<|xM F rf rf rf fun _ F=>xA F rf rf rf fun _ F=>avp<|AV _ _ ?_
   refine wp_ret<|ct _ _ _ _ F rfl ?_;exact⟨iI (Oe hx hI Y_),M.below⟩
  ·have Wn:(iG x l)=true:=by simpa using hc3
   have Y_:(!iG x l)=false:=hc3;refine wp_skip<|tu _ _ ?_
   refine ah<|
    ke (on rfl) (gN rfl (F.u rf) rfl) rfl F rfl (congrArg (Value.int .i64) (wrap_i64 (by omega))) fun _ F=>
    xM F rf rf rf fun _ F=>
    avp<|?_
   exact⟨m+1,⟨F.sub ⟨rfl,rfl,rfl,rfl,trivial⟩,M,by omega,Od hx hI Y_⟩,by show a1.length-(m+1)<a1.length-m;omega⟩
 ·have hd6:=of_decide_eq_false hc1;refine wp_exit<|jW _ _ ?_;refine avo fun X0 nP=>ah<|xA (v:=.int .i64 (-1)) F rf rf rf fun _ F=>avp<|nP _ _ ?_
  refine wp_ret<|ct _ _ _ _ F rfl ?_;exact⟨iI (Kw (by omega) hI),M.below⟩
theorem V3(w0:World)(bx base:Nat)(lv:Value)(l:List (aj×Int))(Zk:Whole w0 bx 141 #[lv])(hL:gQ w0 base lv l)(hcl:l.length≤1000)(hok:∀ y∈l,y.1.Ok)(av:Value)(a1:List (aj×Int))(hA:gQ w0 base av a1)(hca:a1.length≤1000)(Wh:∀ y∈a1,y.1.Ok):Calls Tryz.prog 152 #[av,.func (.func 153) #[] #[.pointer (some ⟨bx,0,none⟩)]] w0 (fun(r:Ending) (w':World)=>r=.returned (.bool (a1.any fun x=>!iG x l))∧avn w0.heap.size w0 w'):=by
 have ct:=hr1 Tryz.prog Tryz.f152 (fun(r:Ending) (w':World)=>r=.returned (.bool (a1.any fun x=>!iG x l))∧avn w0.heap.size w0 w') 9 4 rfl;refine en Tryz.func152 rfl Tryz.ntmps152 rfl (vs:=[av,.func (.func 153) #[] #[.pointer (some ⟨bx,0,none⟩)]]) rfl fun _ F=>?_
 have M:=Mm.start w0;refine avo fun K1 jq=>ah<|xA (v:=.bool false) F rf rf rf fun _ F=>avp<|jq _ _ ?_
 refine avo fun K2 jW=>ah<|xM F rf rf rf fun _ F=>xM F rf rf rf fun _ F=>xC F M rf rf ah3 (args2 (F.u rf) (F.u rf)) (V2 _ bx base lv l (Whole.under M.below Zk Zk.lt) (hL.keep M.below) hcl hok av a1 (hA.keep M.below) hca Wh) fun _ _ F M=>kz F rf (Qk rfl (F.u rf) rfl) fun _ F=>xA F rf rf rf fun _ F=>avp<|jW _ _ ?_
 refine wp_ret<|ct _ _ _ _ F rfl ?_;exact⟨aD C6,M.below⟩
theorem vD(w0:World)(base:Nat)(lv:Value)(l:List (aj×Int))(hL:gQ w0 base lv l)(hcl:l.length≤1000)(hok:∀ y∈l,y.1.Ok)(av:Value)(a1:List (aj×Int))(hA:gQ w0 base av a1)(hca:a1.length≤1000)(Wh:∀ y∈a1,y.1.Ok):Calls Tryz.prog 79 #[av,lv] w0 (fun(r:Ending) (w':World)=>r=.returned (.bool (vE a1 l))∧avn w0.heap.size w0 w'):=by
 obtain⟨iz,iy,rfl,hk5,hm5,NZ⟩:=aq.form hL (by decide);have ct:=hr1 Tryz.prog Tryz.f79 (fun(r:Ending) (w':World)=>r=.returned (.bool (vE a1 l))∧avn w0.heap.size w0 w') 9 4 rfl;refine en Tryz.func79 rfl Tryz.ntmps79 rfl (vs:=[av,.slice iz l.length iy]) rfl fun _ F=>?_
 have M:=Mm.start w0;refine avo fun K1 jq=>ah<|kb1 (on rfl) rfl (F.u rf) rfl rfl F rfl M fun g1 _ _ F M=>xA (v:=.bool false) F rf rf rf fun _ F=>avp<|jq _ _ ?_
 refine avo fun K2 jW=>ah<|xM F rf rf rf fun _ F=>
  kz F rf (Zy (cap:=#[.pointer (some ⟨g1,0,none⟩)]) rfl (by simp[(F.e 3 rfl)])) fun _ F=>
  xC F M rf rf ah6 (args2 (F.u rf) (F.u rf)) (V3 _ g1 base _ l (M.b 0 rfl) (hL.keep M.below) hcl hok av a1 (hA.keep M.below) hca Wh) fun _ _ F M=>
  kz F rf (qd rfl (F.u rf)) fun _ F=>
  xA F rf rf rf fun _ F=>
  avp<|
  jW _ _ ?_
 refine wp_ret<|ct _ _ _ _ F rfl ?_;exact⟨aD (Y3 a1 l),M.below⟩
theorem St.acZ{w w':World}{mb:Nat}(h:St [mb] w w'):w.grownBy w' (some mb):=⟨h.os,h.tape,h.output,h.size,fun k hk hne=>h.block k hk fun e=>hne (congrArg some (avy.1 e))⟩
theorem aV.Jg{B:Nat}{w0 w w':World}{bs:List Bx}{rs:List Rw}(M:aV B w0 w bs rs)(i:Nat){mb:Nat}{L L':List (Int×Value)}(hi:bs[i]?=some (mb,9003,eC L))(h:St [mb] w w')(hM:aU w' Tryz.prog 3 mb (L'.map ival)):aV B w0 w' (bs.set i (mb,9003,eC L')) rs:=
 M.turn i hi rfl h.acZ (nh hM) fun _ _ h2=>gW h2 (M.map i hi)
def DL(w:World)(base:Nat)(L:List (Int×Value))(act:Int→Int):Prop:=∀ k v,jT L k=some v→bR w base v (act k)
theorem DL.old{w w':World}{base:Nat}{L:List (Int×Value)}{act:Int→Int}(h:DL w base L act)(ho:∀ g cs,Whole w g 52 cs→Whole w' g 52 cs):DL w' base L act:=fun k v hv=>by
 obtain⟨g,e,h1,h2⟩:=h k v hv;exact⟨g,e,ho _ _ h1,h2⟩
theorem DL.nil(w:World)(base:Nat)(act:Int→Int):DL w base [] act:=fun k v hv=>by cases hv
theorem cG.old{α:Type}{w w':World}{base:Nat}{N:List ((α×Int)×Nat)}(h:cG w base N)(ho:∀ g cs,Whole w g 52 cs→Whole w' g 52 cs):cG w' base N:=fun z hz=>⟨ho _ _ (h z hz).1,(h z hz).2⟩
theorem cG.nil{α:Type}(w:World)(base:Nat):cG w base ([]:List ((α×Int)×Nat)):=fun z hz=>by cases hz
def EB(z:(bE×Int)×Nat):List Value:=z.1.1.cells
def sR{α:Type}(z:(α×Int)×Nat):List Value:=[.slice (some ⟨z.2,0,none⟩) 1 1]
def D4(u:Int)(n:Nat)(conds:List ak)(y:bE):Option (bE×Int):=if eu u n conds y.cond=0 then none else some ({ y with cond:=0 },eu u n conds y.cond)
theorem abA{u:Int}{n m:Nat}{conds:List ak}{l:List bE}{N:List ((bE×Int)×Nat)}{y:bE}(hy:l[m]?=some y)(h:N.map (·.1)=(l.take m).filterMap (D4 u n conds))(hq:decide (eu u n conds y.cond=0)=true):N.map (·.1)=(l.take (m+1)).filterMap (D4 u n conds):=by
 rw[bp hy,avL,← h];simp[D4,of_decide_eq_true hq]
theorem Yi{u:Int}{n m g:Nat}{conds:List ak}{l:List bE}{N:List ((bE×Int)×Nat)}{y:bE}(hy:l[m]?=some y)(h:N.map (·.1)=(l.take m).filterMap (D4 u n conds))(hq:decide (eu u n conds y.cond=0)=false):(N++[((({ y with cond:=0 }:bE),eu u n conds y.cond),g)]).map (fun z:(bE×Int)×Nat=>z.1)=(l.take (m+1)).filterMap (D4 u n conds):=by
 rw[bp hy,avL,avI,← h];simp[D4,of_decide_eq_false hq]
theorem p8(w0:World)(c0 c1 c2 c3 c4 c5 c6 c7 c8 c9 aQ aL aK aP aO aN aM:Value)(p:aA)(hp:aJ w0 c0 c1 c2 c3 c4 c5 c6 c7 c8 c9 aQ aL aK aP aO aN aM p)(hok:p.Ok)(hn:p.bools.length≤5)(hcl:p.conds.length≤1000)(aje:p.trans.length≤4096):Calls Tryz.prog 73 #[.agg #[c0,c1,c2,c3,c4,c5,c6,c7,c8,c9,aQ,aL,aK,aP,aO,aN,aM]] w0 (fun(r:Ending) (w':World)=>∃ v,r=.returned v∧((∃ v1 v2,∃ N:List ((bE×Int)×Nat),v=.tuple #[v1,v2]∧N.map (·.1)=p.trans.filterMap (D4 (aG p.bools.length) p.bools.length p.conds)∧w'.ownsRow w0.heap.size 84 13 v1 N.length (N.flatMap EB)∧w'.ownsRow w0.heap.size 139 1 v2 N.length (N.flatMap sR)∧cG w' w0.heap.size N)∧avn w0.heap.size w0 w')):=by
 obtain⟨iz,iy,rfl,hk5,hm5,NZ⟩:=SliceAt.form hp.bools (by decide);obtain⟨R3,RT,rfl,apz,afF,Zg⟩:=SliceAt.form hp.trans (by decide);have ct:=NX Tryz.prog Tryz.f73 (fun(r:Ending) (w':World)=>∃ v,r=.returned v∧((∃ v1 v2,∃ N:List ((bE×Int)×Nat),v=.tuple #[v1,v2]∧N.map (·.1)=p.trans.filterMap (D4 (aG p.bools.length) p.bools.length p.conds)∧w'.ownsRow w0.heap.size 84 13 v1 N.length (N.flatMap EB)∧w'.ownsRow w0.heap.size 139 1 v2 N.length (N.flatMap sR)∧cG w' w0.heap.size N)∧avn w0.heap.size w0 w')) 37 2 3 rfl;refine en Tryz.func73 rfl Tryz.ntmps73 rfl (vs:=[.agg #[c0,c1,c2,c3,c4,.slice iz p.bools.length iy,c6,c7,c8,c9,.slice R3 p.trans.length RT,aL,aK,aP,aO,aN,aM]]) rfl fun _ F=>?_
 have M:=Mm.start w0;refine avo fun K1 jq=>ah<|PZ (on rfl) rfl (F.u rf) rfl F rfl M fun g1 _ _ F M=>xA (v:=.slice none 0 0) F rf rf rf fun _ F=>xA (v:=.slice none 0 0) F rf rf rf fun _ F=>avp<|jq _ _ ?_
 refine avo fun K2 jW=>ah<|xW F (M.b 0 rfl) rf rf rf O_ rf BO rf fun _ F=>kx (on rfl) (fO rfl Tryz.func148 aao rfl (args1 (F.u rf))) (nN _ _ _ _ _ _ _ _ _ _ _ _ _ _ _ _ _ iz p.bools.length iy hn) rfl F rfl M fun tv _ _ hR hB F _=>?_
 obtain⟨tp,mb,rfl,DT,hMb,acr,acu⟩:=hR;have M:=M.Gc hB (b1:=(tp,304,#[c0,c1,c2,c3,c4,.slice iz p.bools.length iy,c6,c7,c8,c9,.slice R3 p.trans.length RT,aL,aK,aP,aO,aN,aM,.int .i64 1,.int .u64 (aG p.bools.length),(.map (some mb))])) (.inl ⟨rfl,DT⟩) acr (b2:=(mb,9003,eC [])) (nh hMb) acu (gW DT hMb);refine xA F rf rf rf fun _ F=>avp<|jW _ _ ?_
 refine avo fun K3 pR=>?_
 have M:=M.bB 84 13;refine ah<|xA (v:=.slice none 0 0) F rf rf rf fun _ F=>avp<|pR _ _ ?_
 refine avo fun K4 p9=>?_
 have M:=M.bB 139 1;refine ah<|xA (v:=.slice none 0 0) F rf rf rf fun _ F=>avp<|p9 _ _ ?_
 refine avo fun K5 q5=>avo fun K6 tu=>ah<|xF 10 F rf rf rf O_ rf ahT rf fun _ F=>xL F (M.b 2 rfl) rf rf rf u31 rf rf fun _ F=>kz F rf (h_ rfl (F.u rf) u31) fun _ F=>xM (v:=.int .i64 0) F rf rf rf fun _ F=>avp<|tu _ _ ?_
 refine avt<|?_;refine gj (ι:=Nat×Value×Value×List ((bE×Int)×Nat)×List (Int×Value)) (fun|(m,v,v2,N,L),a,w=>Fs a 37 [(4,.pointer (some ⟨tp,0,none⟩)),(5,v),(6,v2),(13,.slice R3 p.trans.length RT),(14,.int .i64 (p.trans.length:Int)),(15,.int .i64 (m:Int))]∧Mm w0 w [(tp,304,#[c0,c1,c2,c3,c4,.slice iz p.bools.length iy,c6,c7,c8,c9,.slice R3 p.trans.length RT,aL,aK,aP,aO,aN,aM,.int .i64 1,.int .u64 (aG p.bools.length),(.map (some mb))]),(mb,9003,eC L)] [⟨v2,139,1,N.length,N.flatMap sR⟩,⟨v,84,13,N.length,N.flatMap EB⟩]∧m≤p.trans.length∧N.map (·.1)=(p.trans.take m).filterMap (D4 (aG p.bools.length) p.bools.length p.conds)∧cG w w0.heap.size N∧DL w w0.heap.size L (eu (aG p.bools.length) p.bools.length p.conds)) (fun|(m,v,v2,N,L)=>p.trans.length-m) (0,.slice none 0 0,.slice none 0 0,[],[]) ⟨F.sub ⟨rfl,rfl,rfl,rfl,rfl,rfl,trivial⟩,M.only (.cons_cons _ (.cons_cons _ (.cons _ .slnil))) (.cons_cons _ (.cons_cons _ .slnil)),avu _,rfl,cG.nil _ _,DL.nil _ _ _⟩ ?_
 (repeat clear F);(repeat clear M)
 rintro⟨m,v,v2,N,L⟩ _ _ ⟨F,M,hm,D8,hN,hL⟩;have MR:=M;have M:=M.F4;refine avo fun K7 vK=>ah<|kz F rf (kO rfl (F.u rf) (F.u rf)) fun _ F=>avp<|vK _ _ ?_
 refine avo fun K8 CW=>?_
 refine avq (F.e 16 rfl) (fun hc2=>?_) (fun hc2=>?_)
 ·have hd3:=of_decide_eq_true hc2;refine wp_skip<|CW _ _ ?_;refine avo fun K9 AV=>avt<|avo fun X0 nP=>?_
  have hlt:m<p.trans.length:=by omega
  obtain⟨y,hy⟩:∃ y,p.trans[m]?=some y:=⟨_,avw hlt⟩;obtain⟨b10,aib,rfl,aaD⟩:=Zg m hlt
  have afx:∀ j uu,[.int .i64 y.kind,.int .u64 y.src.a,.int .u64 y.src.b,.int .u64 y.src.c,.int .u64 y.src.d,.int .u64 y.tgt.a,.int .u64 y.tgt.b,.int .u64 y.tgt.c,.int .u64 y.tgt.d,.int .i64 y.cls,.string y.name,.int .i64 y.res,.int .i64 y.cond][j]?=some uu→w0.cell? ⟨b10,aib+m*13+j,none⟩=some uu:=fun j u hu=>aaD j u (by
   rw[nr bE.eD hy j (avG.1 hu).1];exact hu)
  clear aaD;have qO:=hok.trans y (avs hy);have hct:p.trans.length≤4096:=aje
  refine ah<|
   kz F rf (cB (i:=m) rfl (F.u rf) (F.u rf) (by omega) u31 UO) fun _ F=>
   kz F rf (g_ [.int .i64 y.kind,.int .u64 y.src.a,.int .u64 y.src.b,.int .u64 y.src.c,.int .u64 y.src.d,.int .u64 y.tgt.a,.int .u64 y.tgt.b,.int .u64 y.tgt.c,.int .u64 y.tgt.d,.int .i64 y.cls,.string y.name,.int .i64 y.res,.int .i64 y.cond] rfl (F.u rf) u84 rfl UO (bY (MR.below.trans M.below) afx)) fun _ F=>
   NJ (on rfl) rfl LK rfl F rfl M fun g4 _ _ F M=>
   ND (on rfl) rfl (F.u rf) (F.u rf) F M 0 rfl UO rfl rfl rfl fun _ M=>
   avp<|
   nP _ _ ?_
  refine avo fun K11 ud=>ah<|xM F rf rf rf fun _ F=>xF 12 F rf rf rf u84 rf Z9 rf fun _ F=>xL F (M.b 0 rfl) rf rf rf u3 rf rf fun _ F=>kt (on rfl) (fO rfl Tryz.func149 Vt rfl (args2 (F.u rf) (F.u rf))) (uE _ w0.heap.size tp mb _ _ _ _ _ _ _ _ _ _ _ _ _ _ _ _ iz p.bools.length iy (aG p.bools.length) p.conds hn (hp.conds.keep (MR.below.trans M.below)) hcl y.cond (hok.trans y (avs hy)).cond ⟨M.b 1 rfl,⟨_,M.map 2 rfl,hL.old M.old⟩,⟨M.lo _ (avs (i:=1) rfl),M.lo _ (avs (i:=2) rfl)⟩⟩) rfl F rfl fun v9 _ w9 hR F=>?_
  obtain⟨⟨gs,rfl,hws,hls⟩,⟨ajq,⟨L9,P9,hL9⟩,-⟩,TU⟩:=hR;have M:=M.Jg 2 rfl TU P9;have hN:=hN.old M.old;have MR:=MR.comp M;have M:=M.F4;have hL:DL _ _ _ _:=hL9;refine xA F rf rf rf fun _ F=>avp<|ud _ _ ?_
  refine avo fun K12 t_=>avo fun K13 sH=>ah<|xM F rf rf rf fun _ F=>
   xC F M rf rf ah7 (args1 (F.u rf)) (Co _ gs 1 _ (by simpa using(M.old _ _ hws).cell 0)) fun _ _ F M=>
   avp<|
   sH _ _ ?_
  refine avq (F.e 24 rfl) (fun hc5=>?_) (fun hc5=>?_)
  ·have hd6:=of_decide_eq_true hc5;have Y_:decide (eu (aG p.bools.length) p.bools.length p.conds y.cond=0)=true:=hc5;refine wp_exit<|AV _ _ ?_
   refine ah<|
    ke (on rfl) (gN rfl (F.u rf) rfl) rfl F rfl (congrArg (Value.int .i64) (wrap_i64 (by omega))) fun _ F=>
    xM F rf rf rf fun _ F=>
    avp<|?_
   exact⟨(m+1,v,v2,N,L9),⟨F.sub ⟨rfl,rfl,rfl,rfl,rfl,rfl,trivial⟩,MR.comp (M.only (.cons _ (.cons_cons _ (.cons_cons _ .slnil))) (.cons_cons _ (.cons_cons _ .slnil))),by omega,abA hy D8 Y_,hN.old M.old,hL.old M.old⟩,by show p.trans.length-(m+1)<p.trans.length-m;omega⟩
  ·have hd7:=of_decide_eq_false hc5;have Y_:decide (eu (aG p.bools.length) p.bools.length p.conds y.cond=0)=false:=hc5;refine wp_skip<|t_ _ _ ?_;refine avo fun K14 yq=>ah<|xF 12 F rf rf rf u84 rf Z9 rf fun _ F=>ks (on rfl) rfl (F.u rf) rfl F M 0 (cs':=#[.int .i64 y.kind,.int .u64 y.src.a,.int .u64 y.src.b,.int .u64 y.src.c,.int .u64 y.src.d,.int .u64 y.tgt.a,.int .u64 y.tgt.b,.int .u64 y.tgt.c,.int .u64 y.tgt.d,.int .i64 y.cls,.string y.name,.int .i64 y.res,.int .i64 0]) rfl rfl rfl Z9 rfl rfl rfl rfl fun _ M=>avp<|yq _ _ ?_
   have hlN:N.length≤4096:=by
    have h:=congrArg List.length D8;rw[avE] at h;rw[h];exact avr (List.length_filterMap_le _ _) (avr (List.length_take_le _ _) (avr (Nat.le_of_lt hlt) hct))
   refine ah<|xM F rf rf rf fun _ F=>xW F (M.b 0 rfl) rf rf rf u84 rf UO rf fun _ F=>
    kl (on rfl) rfl u31 UO LK rfl (pv:=#[(0,.agg #[.int .i64 y.kind,.int .u64 y.src.a,.int .u64 y.src.b,.int .u64 y.src.c,.int .u64 y.src.d,.int .u64 y.tgt.a,.int .u64 y.tgt.b,.int .u64 y.tgt.c,.int .u64 y.tgt.d,.int .i64 y.cls,.string y.name,.int .i64 y.res,.int .i64 0])]) (by simp[(F.e 27 rfl)]) (cells:=#[.int .i64 y.kind,.int .u64 y.src.a,.int .u64 y.src.b,.int .u64 y.src.c,.int .u64 y.src.d,.int .u64 y.tgt.a,.int .u64 y.tgt.b,.int .u64 y.tgt.c,.int .u64 y.tgt.d,.int .i64 y.cls,.string y.name,.int .i64 y.res,.int .i64 0]) (by kernel_rfl) rfl F rfl M fun g8 _ _ F M=>
    kp (on rfl) rfl u31 afh rfl M 1 rfl (F.u rf) (F.u rf) (M.slice 0 rfl rfl rfl (by simp[maxLen])) ⟨by unfold maxLen;omega,by omega⟩ rfl F rfl fun v9 _ _ F M=>
    xM F rf rf rf fun _ F=>
    xM F rf rf rf fun _ F=>
    xS F M rf rf rf aew aez aei rf rf fun g10 _ _ F M=>
    kp (on rfl) rfl aew ab7 rfl M 0 rfl (F.u rf) (F.u rf) (M.slice 0 rfl rfl rfl (by simp[maxLen])) ⟨by unfold maxLen;omega,by omega⟩ rfl F rfl fun v11 _ _ F M=>
    xA F rf rf rf fun _ F=>
    xA F rf rf rf fun _ F=>
    avp<|
    AV _ _ ?_
   refine ah<|
    ke (on rfl) (gN rfl (F.u rf) rfl) rfl F rfl (congrArg (Value.int .i64) (wrap_i64 (by omega))) fun _ F=>
    xM F rf rf rf fun _ F=>
    avp<|?_
   exact⟨(m+1,v9,v11,N++[(({ y with cond:=0 },eu (aG p.bools.length) p.bools.length p.conds y.cond),gs)],L9),⟨F.sub ⟨rfl,rfl,rfl,rfl,rfl,rfl,trivial⟩,(MR.comp (M.only (.cons _ (.cons _ (.cons _ (.cons_cons _ (.cons_cons _ .slnil))))) (.cons_cons _ (.cons_cons _ .slnil)))).cast rfl (by rw[avJ,avK,avK];rfl),by omega,Yi hy D8 Y_,(hN.old M.old).snoc (M.old _ _ hws) hls,hL.old M.old⟩,by show p.trans.length-(m+1)<p.trans.length-m;omega⟩
 ·have apJ:=of_decide_eq_false hc2;refine wp_exit<|q5 _ _ ?_;refine avo fun K15 vL=>ah<|xM F rf rf rf fun _ F=>xM F rf rf rf fun _ F=>xA F rf rf rf fun _ F=>xA F rf rf rf fun _ F=>avp<|vL _ _ ?_
  refine wp_ret<|ct _ _ _ _ _ F rfl rfl ?_;exact⟨_,rfl,⟨_,_,N,rfl,(by rw[D8,List.take_of_length_le (by omega)]),M.r 1 rfl,M.r 0 rfl,hN⟩,(MR.below.trans M.below)⟩
section
variable {P:Program} {ops:Array Oper} {Q':Exit→Act→World→Prop} {a:Act} {w:World} {o:Oper} {d N:Nat} {g:Good}
theorem dxS{S:World→World→Prop}(hw:Region.wanted o (yielded ops a.tmps)=true){f:FuncId}{args:Array Value}(hr:(execOp a.eval o).run P w=.ok (.enter f args) w)
 (hc:Calls P f args w fun e w'=>∃ v,e=.returned v∧(g v w'∧S w w')) (hd:o.dst=some d) (hf:Fr a N) (hN:Nat.blt d N=true)
 (hE:∀ v a' w',S w w'→g v w'→Put a (o.dst.getD 0) v a'→Q' .normal a' w'):wpList P ops Q' [o] a w:=
 kS hw hr hc hd hf (by simpa using hN) fun u a' w' h p=>avp (hE u a' w' h.2 h.1 (by rw[hd];exact p))
end
def Iy(base tp mb:Nat)(c0 c1 c2 c3 c4 c5 c6 c7 c8 c9 aQ aL aK aP aO aN aM:Value)(u:Int)(act:Int→Int)(w w':World):Prop:=St [mb] w w'∧(gh w base tp mb c0 c1 c2 c3 c4 c5 c6 c7 c8 c9 aQ aL aK aP aO aN aM u act→gh w' base tp mb c0 c1 c2 c3 c4 c5 c6 c7 c8 c9 aQ aL aK aP aO aN aM u act)
section
variable {base tp mb:Nat} {c0 c1 c2 c3 c4 c5 c6 c7 c8 c9 aQ aL aK aP aO aN aM:Value} {u:Int} {act:Int→Int}
theorem Mr(w w':World)(h:avn w.heap.size w w'):Iy base tp mb c0 c1 c2 c3 c4 c5 c6 c7 c8 c9 aQ aL aK aP aO aN aM u act w w':=⟨iC _ _ _ h,fun hT=>hT.keep h⟩
theorem Mq(a b c:World)(h:Iy base tp mb c0 c1 c2 c3 c4 c5 c6 c7 c8 c9 aQ aL aK aP aO aN aM u act a b)(k:Iy base tp mb c0 c1 c2 c3 c4 c5 c6 c7 c8 c9 aQ aL aK aP aO aN aM u act b c):Iy base tp mb c0 c1 c2 c3 c4 c5 c6 c7 c8 c9 aQ aL aK aP aO aN aM u act a c:=⟨gF _ _ _ _ h.1 k.1,fun hT=>k.2 (h.2 hT)⟩
def QE(base mb:Nat)(x:Int):Good:=fun v u=>∃ g,v=.slice (some ⟨g,0,none⟩) 1 1∧Whole u g 52 #[.int .u64 x]∧base≤g∧g≠mb
def agM(base mb:Nat)(y:aj)(x:Int):Good:=fun v u=>∃ g,v=.agg #[.int .i64 y.kind,.int .u64 y.src.a,.int .u64 y.src.b,.int .u64 y.src.c,.int .u64 y.src.d,.int .u64 y.tgt.a,.int .u64 y.tgt.b,.int .u64 y.tgt.c,.int .u64 y.tgt.d,.bool y.self,.int .i64 y.cls,.int .u32 y.perms,.int .i64 y.cond,.slice (some ⟨g,0,none⟩) 1 1]∧Whole u g 52 #[.int .u64 x]∧base≤g∧g≠mb
def SlG(ws:World)(base mb:Nat)(y:aj)(x:Int):Good:=fun v u=>∃ b g,v=.slice (some ⟨b,0,none⟩) 1 1∧Whole u b 146 #[.int .i64 y.kind,.int .u64 y.src.a,.int .u64 y.src.b,.int .u64 y.src.c,.int .u64 y.src.d,.int .u64 y.tgt.a,.int .u64 y.tgt.b,.int .u64 y.tgt.c,.int .u64 y.tgt.d,.bool y.self,.int .i64 y.cls,.int .u32 y.perms,.int .i64 y.cond,.slice (some ⟨g,0,none⟩) 1 1]∧ws.heap.size≤b∧b≠mb∧Whole u g 52 #[.int .u64 x]∧base≤g∧g≠mb
theorem SA{g mb:Nat}(h:g≠mb):g∉[mb]:=fun e=>h (avy.1 e)
theorem Nw{base':Nat}{x:Int}:yQ (Iy base tp mb c0 c1 c2 c3 c4 c5 c6 c7 c8 c9 aQ aL aK aP aO aN aM u act) (QE base' mb x):=fun _ _ _ ⟨g,e,h,k,n⟩ hS=>⟨g,e,hS.1.whole h (SA n),k,n⟩
theorem RZ{base':Nat}{x:Int}{y:aj}:yQ (Iy base tp mb c0 c1 c2 c3 c4 c5 c6 c7 c8 c9 aQ aL aK aP aO aN aM u act) (agM base' mb y x):=fun _ _ _ ⟨g,e,h,k,n⟩ hS=>⟨g,e,hS.1.whole h (SA n),k,n⟩
theorem VJ{ws:World}{base':Nat}{x:Int}{y:aj}:yQ (Iy base tp mb c0 c1 c2 c3 c4 c5 c6 c7 c8 c9 aQ aL aK aP aO aN aM u act) (SlG ws base' mb y x):=fun _ _ _ ⟨b,g,e,h1,k1,n1,h,k,n⟩ hS=>⟨b,g,e,hS.1.whole h1 (SA n1),k1,n1,hS.1.whole h (SA n),k,n⟩
theorem X2{w:World}{v:Value}{x:Int}(h:bR w base v x)(hT:gh w base tp mb c0 c1 c2 c3 c4 c5 c6 c7 c8 c9 aQ aL aK aP aO aN aM u act):QE base mb x v w:=by
 obtain⟨g,e,hw,hl⟩:=h;obtain⟨-,⟨L,hM,-⟩,-⟩:=hT;exact⟨g,e,hw,hl,gW hw hM⟩
end
theorem aV.adE{B:Nat}{w0 w:World}{bs:List Bx}{rs:List Rw}(M:aV B w0 w bs rs){g:Nat}{t:TypeId}{cs:Array Value}(h:Whole w g t cs)(hB:B≤g)(hf:∀ b∈bs,b.1≠g)(hr:∀ r∈rs,r.v.ownBlock≠some g)(ht:Nat.blt t 9000=true:=by rfl):aV B w0 w ((g,t,cs)::bs) rs:=by
 refine⟨M.below,M.le,M.old,?_,?_,?_,M.row,?_,M.wJ⟩
 ·intro b hb;rcases avC.1 hb with rfl|hb
  ·exact .inl ⟨ht,h⟩
  ·exact M.box b hb
 ·intro b hb;rcases avC.1 hb with rfl|hb
  ·exact hB
  ·exact M.lo b hb
 ·rw[List.map_cons,List.nodup_cons];refine⟨fun h=>?_,M.nd⟩;obtain⟨b,hb,e⟩:=avD.1 h;exact hf b hb e
 ·intro r hr' b hb;rcases avC.1 hb with rfl|hb
  ·exact hr r hr'
  ·exact M.far r hr' b hb
theorem aV.Yh{B:Nat}{w0 w w':World}{bs:List Bx}{rs:List Rw}(M:aV B w0 w bs rs)(i:Nat){mb:Nat}{L L':List (Int×Value)}(hi:bs[i]?=some (mb,9003,eC L))(h:St [mb] w w')(hM:aU w' Tryz.prog 3 mb (L'.map ival))
 {g:Nat} {t:TypeId} {cs:Array Value} (hg:Whole w' g t cs) (hs:w.heap.size≤g) (ht:Nat.blt t 9000=true:=by rfl):aV B w0 w' ((g,t,cs)::bs.set i (mb,9003,eC L')) rs:=by
 refine(M.Jg i hi h hM).adE hg (avr M.big hs) (fun b hb=>?_) (fun r hr e=>?_) ht
 ·rcases List.mem_or_eq_of_mem_set hb with hb|rfl
  ·have:=(M.box b hb).lt;omega
  ·have:=(M.box _ (avs hi)).lt;simp only at this ⊢;omega
 ·have:=((M.row r hr).lt g e).2;omega
theorem MH{u:Int}{n m g:Nat}{conds:List ak}{l:List aj}{N:List ((aj×Int)×Nat)}{y:aj}(hy:l[m]?=some y)(h:N.map (·.1)=(l.take m).map fun y=>(y,eu u n conds (Gx y))):(N++[((y,eu u n conds (Gx y)),g)]).map (fun z:(aj×Int)×Nat=>z.1)=(l.take (m+1)).map fun y=>(y,eu u n conds (Gx y)):=by
 rw[bp hy,avI,avI,← h];simp
theorem Sr(w0:World)(base tp mb:Nat)(c0 c1 c2 c3 c4 c6 c7 c8 c9 aQ aL aK aP aO aN aM:Value)(iz:Option Addr)(nB iy:Nat)(u:Int)(conds:List ak)(hn:nB≤5)(hE:mN w0 c8 conds)(hcl:conds.length≤1000)(q:aj)(hk:iX q.cond)(hTT:gh w0 base tp mb c0 c1 c2 c3 c4 (.slice iz nB iy) c6 c7 c8 c9 aQ aL aK aP aO aN aM u (eu u nB conds)):Calls Tryz.prog 151 #[.pointer (some ⟨tp,0,none⟩),.agg #[.int .i64 q.kind,.int .u64 q.src.a,.int .u64 q.src.b,.int .u64 q.src.c,.int .u64 q.src.d,.int .u64 q.tgt.a,.int .u64 q.tgt.b,.int .u64 q.tgt.c,.int .u64 q.tgt.d,.bool q.self,.int .i64 q.cls,.int .u32 q.perms,.int .i64 q.cond]] w0 (fun(r:Ending) (w':World)=>∃ v,r=.returned v∧(QE base mb (eu u nB conds (Gx q)) v w'∧Iy base tp mb c0 c1 c2 c3 c4 (.slice iz nB iy) c6 c7 c8 c9 aQ aL aK aP aO aN aM u (eu u nB conds) w0 w')):=
 (Ss w0 base tp mb _ _ _ _ _ _ _ _ _ _ _ _ _ _ _ _ iz nB iy u conds hn hE hcl q hk hTT).mono fun _ _ ⟨v,e,h1,h2,h3⟩=>⟨v,e,X2 h1 h2,h3,fun _=>h2⟩
theorem Cx(w0:World)(c0 c1 c2 c3 c4 c5 c6 c7 c8 c9 aQ aL aK aP aO aN aM:Value)(p:aA)(hp:aJ w0 c0 c1 c2 c3 c4 c5 c6 c7 c8 c9 aQ aL aK aP aO aN aM p)(hok:p.Ok)(hn:p.bools.length≤5)(hcl:p.conds.length≤1000)(hcr:p.rules.length≤4096):Calls Tryz.prog 78 #[.agg #[c0,c1,c2,c3,c4,c5,c6,c7,c8,c9,aQ,aL,aK,aP,aO,aN,aM]] w0 (fun(r:Ending) (w':World)=>∃ v,r=.returned v∧((∃ N:List ((aj×Int)×Nat),N.map (·.1)=(p.rules.map fun y=>(y,(eu (aG p.bools.length) p.bools.length p.conds (Gx y))))∧w'.ownsRow w0.heap.size 146 14 v N.length (N.flatMap ni)∧cG w' w0.heap.size N)∧avn w0.heap.size w0 w')):=by
 obtain⟨iz,iy,rfl,hk5,hm5,NZ⟩:=SliceAt.form hp.bools (by decide);obtain⟨Y0,VE,rfl,hk9,hm9,Wp⟩:=SliceAt.form hp.rules (by decide);have ct:=hr1 Tryz.prog Tryz.f78 (fun(r:Ending) (w':World)=>∃ v,r=.returned v∧((∃ N:List ((aj×Int)×Nat),N.map (·.1)=(p.rules.map fun y=>(y,(eu (aG p.bools.length) p.bools.length p.conds (Gx y))))∧w'.ownsRow w0.heap.size 146 14 v N.length (N.flatMap ni)∧cG w' w0.heap.size N)∧avn w0.heap.size w0 w')) 26 2 rfl;refine en Tryz.func78 rfl Tryz.ntmps78 rfl (vs:=[.agg #[c0,c1,c2,c3,c4,.slice iz p.bools.length iy,c6,c7,c8,.slice Y0 p.rules.length VE,aQ,aL,aK,aP,aO,aN,aM]]) rfl fun _ F=>?_
 have M:=Mm.start w0;refine avo fun K1 jq=>ah<|PZ (on rfl) rfl (F.u rf) rfl F rfl M fun g1 _ _ F M=>xA (v:=.slice none 0 0) F rf rf rf fun _ F=>avp<|jq _ _ ?_
 refine avo fun K2 jW=>ah<|xW F (M.b 0 rfl) rf rf rf O_ rf BO rf fun _ F=>kx (on rfl) (fO rfl Tryz.func148 aao rfl (args1 (F.u rf))) (nN _ _ _ _ _ _ _ _ _ _ _ _ _ _ _ _ _ iz p.bools.length iy hn) rfl F rfl M fun tv _ _ hR hB F _=>?_
 obtain⟨tp,mb,rfl,DT,hMb,acr,acu⟩:=hR;have M:=M.Gc hB (b1:=(tp,304,#[c0,c1,c2,c3,c4,.slice iz p.bools.length iy,c6,c7,c8,.slice Y0 p.rules.length VE,aQ,aL,aK,aP,aO,aN,aM,.int .i64 1,.int .u64 (aG p.bools.length),(.map (some mb))])) (.inl ⟨rfl,DT⟩) acr (b2:=(mb,9003,eC [])) (nh hMb) acu (gW DT hMb);refine xA F rf rf rf fun _ F=>avp<|jW _ _ ?_
 refine avo fun K3 pR=>?_
 have M:=M.bB 146 14;refine ah<|xA (v:=.slice none 0 0) F rf rf rf fun _ F=>avp<|pR _ _ ?_
 refine avo fun K4 p9=>avo fun K5 q5=>ah<|xF 9 F rf rf rf O_ rf ahU rf fun _ F=>xL F (M.b 2 rfl) rf rf rf u30 rf rf fun _ F=>kz F rf (h_ rfl (F.u rf) u30) fun _ F=>xM (v:=.int .i64 0) F rf rf rf fun _ F=>avp<|q5 _ _ ?_
 refine avt<|?_;refine gj (ι:=Nat×Value×List ((aj×Int)×Nat)×List (Int×Value)) (fun|(m,v,N,L),a,w=>Fs a 26 [(3,.pointer (some ⟨tp,0,none⟩)),(4,v),(10,.slice Y0 p.rules.length VE),(11,.int .i64 (p.rules.length:Int)),(12,.int .i64 (m:Int))]∧Mm w0 w [(tp,304,#[c0,c1,c2,c3,c4,.slice iz p.bools.length iy,c6,c7,c8,.slice Y0 p.rules.length VE,aQ,aL,aK,aP,aO,aN,aM,.int .i64 1,.int .u64 (aG p.bools.length),(.map (some mb))]),(mb,9003,eC L)] [⟨v,146,14,N.length,N.flatMap ni⟩]∧m≤p.rules.length∧N.map (·.1)=((p.rules.take m).map fun y=>(y,(eu (aG p.bools.length) p.bools.length p.conds (Gx y))))∧cG w w0.heap.size N∧DL w w0.heap.size L (eu (aG p.bools.length) p.bools.length p.conds)) (fun|(m,v,N,L)=>p.rules.length-m) (0,.slice none 0 0,[],[]) ⟨F.sub ⟨rfl,rfl,rfl,rfl,rfl,trivial⟩,M.only (.cons_cons _ (.cons_cons _ (.cons _ .slnil))) (.cons_cons _ .slnil),avu _,rfl,cG.nil _ _,DL.nil _ _ _⟩ ?_
 (repeat clear F);(repeat clear M)
 rintro⟨m,v,N,L⟩ _ _ ⟨F,M,hm,D8,hN,hL⟩;have MR:=M;have M:=M.F4;refine avo fun K6 tu=>ah<|kz F rf (kO rfl (F.u rf) (F.u rf)) fun _ F=>avp<|tu _ _ ?_
 refine avo fun K7 vK=>?_
 refine avq (F.e 13 rfl) (fun hc2=>?_) (fun hc2=>?_)
 ·have hd3:=of_decide_eq_true hc2;refine wp_skip<|vK _ _ ?_;refine avo fun K8 CW=>avt<|avo fun K9 AV=>?_
  have hlt:m<p.rules.length:=by omega
  obtain⟨y,hy⟩:∃ y,p.rules[m]?=some y:=⟨_,avw hlt⟩;obtain⟨b9,ob9,rfl,afV⟩:=Wp m hlt
  have aiN:∀ j uu,[.int .i64 y.kind,.int .u64 y.src.a,.int .u64 y.src.b,.int .u64 y.src.c,.int .u64 y.src.d,.int .u64 y.tgt.a,.int .u64 y.tgt.b,.int .u64 y.tgt.c,.int .u64 y.tgt.d,.bool y.self,.int .i64 y.cls,.int .u32 y.perms,.int .i64 y.cond][j]?=some uu→w0.cell? ⟨b9,ob9+m*13+j,none⟩=some uu:=fun j u hu=>afV j u (by
   rw[nr aj.eD hy j (avG.1 hu).1];exact hu)
  clear afV;have qO:=hok.rules y (avs hy)
  have hlN:N.length≤4096:=by
   have h:=congrArg List.length D8;rw[avE,avE] at h;rw[h];exact avr (List.length_take_le _ _) (avr (Nat.le_of_lt hlt) hcr)
  refine ah<|
   kz F rf (cB (i:=m) rfl (F.u rf) (F.u rf) (by omega) u30 qD) fun _ F=>
   kz F rf (g_ [.int .i64 y.kind,.int .u64 y.src.a,.int .u64 y.src.b,.int .u64 y.src.c,.int .u64 y.src.d,.int .u64 y.tgt.a,.int .u64 y.tgt.b,.int .u64 y.tgt.c,.int .u64 y.tgt.d,.bool y.self,.int .i64 y.cls,.int .u32 y.perms,.int .i64 y.cond] rfl (F.u rf) Yd rfl qD (bY (MR.below.trans M.below) aiN)) fun _ F=>
   NJ (on rfl) rfl mP rfl F rfl M fun g4 _ _ F M=>
   ND (on rfl) rfl (F.u rf) (F.u rf) F M 0 rfl qD rfl rfl rfl fun _ M=>
   avp<|
   AV _ _ ?_
  have hT8:gh _ w0.heap.size tp mb c0 c1 c2 c3 c4 (.slice iz p.bools.length iy) c6 c7 c8 (.slice (some ⟨b9,ob9,none⟩) p.rules.length VE) aQ aL aK aP aO aN aM (aG p.bools.length) (eu (aG p.bools.length) p.bools.length p.conds):=⟨M.b 1 rfl,⟨_,M.map 2 rfl,hL.old M.old⟩,⟨M.lo _ (avs (i:=1) rfl),M.lo _ (avs (i:=2) rfl)⟩⟩;have ai1:∀ k∈[mb],w0.heap.size≤k:=fun k hk=>by rw[avy.1 hk];exact hT8.lo.2
  refine rdS (Iy w0.heap.size tp mb c0 c1 c2 c3 c4 (.slice iz p.bools.length iy) c6 c7 c8 (.slice (some ⟨b9,ob9,none⟩) p.rules.length VE) aQ aL aK aP aO aN aM (aG p.bools.length) (eu (aG p.bools.length) p.bools.length p.conds)) Mr Mq 7 [16,17,18,19,20,21,22] [kU (v),kU (.agg #[.int .i64 y.kind,.int .u64 y.src.a,.int .u64 y.src.b,.int .u64 y.src.c,.int .u64 y.src.d,.int .u64 y.tgt.a,.int .u64 y.tgt.b,.int .u64 y.tgt.c,.int .u64 y.tgt.d,.bool y.self,.int .i64 y.cls,.int .u32 y.perms,.int .i64 y.cond]),kU (.pointer (some ⟨tp,0,none⟩)),kU (.agg #[.int .i64 y.kind,.int .u64 y.src.a,.int .u64 y.src.b,.int .u64 y.src.c,.int .u64 y.src.d,.int .u64 y.tgt.a,.int .u64 y.tgt.b,.int .u64 y.tgt.c,.int .u64 y.tgt.d,.bool y.self,.int .i64 y.cls,.int .u32 y.perms,.int .i64 y.cond]),(QE w0.heap.size mb (eu (aG p.bools.length) p.bools.length p.conds (Gx y))),(agM w0.heap.size mb y (eu (aG p.bools.length) p.bools.length p.conds (Gx y))),(SlG M.wd w0.heap.size mb y (eu (aG p.bools.length) p.bools.length p.conds (Gx y)))] (by kernel_rfl) (by kernel_rfl) (by kernel_rfl) rfl (by decide) rfl rfl F ⟨sj _ _,sj _ _,sj _ _,sj _ _,Nw,RZ,VJ,trivial⟩ ⟨?_,?_,?_,?_,?_,?_,?_,trivial⟩ ?_
  ·exact fun a w Q' hf hi H G hK hE=>dv (on rfl) (eO rfl (G 4 _ rfl (F.g 4 rfl)).ev) rfl hf rfl hK rfl
  ·exact fun a w Q' hf hi H G hK hE=>dv (on rfl) (AY rfl (G 6 _ rfl (F.g 6 rfl)).ev Yd rfl (hi.1.whole (M.b 0 rfl) (SA (gW (M.b 0 rfl) (M.map 2 rfl)))) qD rfl) rfl hf rfl hK rfl
  ·exact fun a w Q' hf hi H G hK hE=>dv (on rfl) (eO rfl (G 3 _ rfl (F.g 3 rfl)).ev) rfl hf rfl hK rfl
  ·exact fun a w Q' hf hi H G hK hE=>dv (on rfl) (AY rfl (G 6 _ rfl (F.g 6 rfl)).ev Yd rfl (hi.1.whole (M.b 0 rfl) (SA (gW (M.b 0 rfl) (M.map 2 rfl)))) qD rfl) rfl hf rfl hK rfl
  ·exact fun a w Q' hf hi H G hK hE=>dxS (on rfl) (fO rfl Tryz.func151 ae1 rfl (args2 (iA (H 2 ⟨.data,by simp,rfl⟩ _ _ rfl rfl)).ev (iA (H 3 ⟨.data,by simp,rfl⟩ _ _ rfl rfl)).ev)) (Sr _ w0.heap.size tp mb _ _ _ _ _ _ _ _ _ _ _ _ _ _ _ _ iz p.bools.length iy (aG p.bools.length) p.conds hn (hp.conds.keep ((MR.below.trans M.below).trans (hi.1.below M.big ai1))) hcl y (hok.rules y (avs hy)).cond (hi.2 hT8)) rfl hf rfl hE
  ·intro a w Q' hf hi H G hK hE;obtain⟨_,h20,Zr,rfl,hg8,Zd,hn8⟩:=H 4 ⟨.data,by simp,rfl⟩ _ _ rfl rfl;exact dv (on rfl) (vS rfl (pv:=#[(0,.agg #[.int .i64 y.kind,.int .u64 y.src.a,.int .u64 y.src.b,.int .u64 y.src.c,.int .u64 y.src.d,.int .u64 y.tgt.a,.int .u64 y.tgt.b,.int .u64 y.tgt.c,.int .u64 y.tgt.d,.bool y.self,.int .i64 y.cls,.int .u32 y.perms,.int .i64 y.cond]),(1,.slice (some ⟨Zr,0,none⟩) 1 1)]) (by simp[(iA (H 1 ⟨.data,by simp,rfl⟩ _ _ rfl rfl)).ev,h20.ev]) (cells:=#[.int .i64 y.kind,.int .u64 y.src.a,.int .u64 y.src.b,.int .u64 y.src.c,.int .u64 y.src.d,.int .u64 y.tgt.a,.int .u64 y.tgt.b,.int .u64 y.tgt.c,.int .u64 y.tgt.d,.bool y.self,.int .i64 y.cls,.int .u32 y.perms,.int .i64 y.cond,.slice (some ⟨Zr,0,none⟩) 1 1]) (by kernel_rfl)) rfl hf rfl hK ⟨Zr,rfl,hg8,Zd,hn8⟩
  ·intro a w Q' hf hi H G hK hE;obtain⟨_,h21,Zr,rfl,hg8,Zd,hn8⟩:=H 5 ⟨.data,by simp,rfl⟩ _ _ rfl rfl;exact dn (f:=fun n=>.slice (some ⟨n,0,none⟩) 1 1) (on rfl) (pU rfl zU j5 yV (by decide) (by decide) (pv:=#[(0,.agg #[.int .i64 y.kind,.int .u64 y.src.a,.int .u64 y.src.b,.int .u64 y.src.c,.int .u64 y.src.d,.int .u64 y.tgt.a,.int .u64 y.tgt.b,.int .u64 y.tgt.c,.int .u64 y.tgt.d,.bool y.self,.int .i64 y.cls,.int .u32 y.perms,.int .i64 y.cond,.slice (some ⟨Zr,0,none⟩) 1 1])]) (by simp[h21.ev]) (cells:=#[.int .i64 y.kind,.int .u64 y.src.a,.int .u64 y.src.b,.int .u64 y.src.c,.int .u64 y.src.d,.int .u64 y.tgt.a,.int .u64 y.tgt.b,.int .u64 y.tgt.c,.int .u64 y.tgt.d,.bool y.self,.int .i64 y.cls,.int .u32 y.perms,.int .i64 y.cond,.slice (some ⟨Zr,0,none⟩) 1 1]) (by kernel_rfl)) rfl hf rfl hK (fun b w' n=>⟨b,Zr,rfl,n.whole,n.at_▸hi.1.size,by have:=n.at_;have:=(M.map 2 rfl).lt;have:=hi.1.size;omega,Whole.under n.below hg8 hg8.lt,Zd,hn8⟩)
  (repeat clear F);intro _ _ LG F D
  obtain⟨_,h,rfl⟩:=D 0 _ _ rfl rfl;have F:=F.add h;obtain⟨_,h,b8,Zr,rfl,Wq,ajn,-,hg8,Zd,-⟩:=D 6 _ _ rfl rfl;have F:=F.add h;obtain⟨ajq,⟨L9,P9,hL9⟩,-⟩:=LG.2 hT8;have M:=M.Yh 2 rfl LG.1 P9 Wq ajn;have hN:=hN.old M.old;have MR:=MR.comp M;have M:=M.F4;have hL:DL _ _ _ _:=hL9;clear D LG;intro Qt hQt;refine kp (on rfl) rfl zU V1 rfl M 0 rfl (F.u rf) (F.u rf) (M.slice 0 rfl rfl rfl (by simp[maxLen])) ⟨by unfold maxLen;omega,by omega⟩ rfl F rfl fun v5 _ _ F M=>avp (hQt _ _ ?_)
  intro Qt hQt;refine xA F rf rf rf fun _ F=>avp (hQt _ _ ?_)
  refine CW _ _ ?_
  refine ah<|
   ke (on rfl) (gN rfl (F.u rf) rfl) rfl F rfl (congrArg (Value.int .i64) (wrap_i64 (by omega))) fun _ F=>
   xM F rf rf rf fun _ F=>
   avp<|?_
  exact⟨(m+1,v5,N++[((y,(eu (aG p.bools.length) p.bools.length p.conds (Gx y))),Zr)],L9),⟨F.sub ⟨rfl,rfl,rfl,rfl,rfl,trivial⟩,(MR.comp (M.only (.cons _ (.cons _ (.cons_cons _ (.cons_cons _ .slnil)))) (.cons_cons _ .slnil))).cast rfl (by rw[avJ,avK];rfl),by omega,MH hy D8,(hN.old M.old).snoc (M.old _ _ hg8) Zd,hL.old M.old⟩,by show p.rules.length-(m+1)<p.rules.length-m;omega⟩
 ·have hd6:=of_decide_eq_false hc2;refine wp_exit<|p9 _ _ ?_;refine avo fun X0 nP=>ah<|xM F rf rf rf fun _ F=>xA F rf rf rf fun _ F=>avp<|nP _ _ ?_
  refine wp_ret<|ct _ _ _ _ F rfl ?_;exact⟨_,rfl,⟨N,(by rw[D8,List.take_of_length_le (by omega)]),M.r 0 rfl,hN⟩,(MR.below.trans M.below)⟩
def sV{α:Type}(x y:(α×Int)×Nat):Bool:=decide ([x.1.2]=[y.1.2])
theorem Et{α:Type}(N:List ((α×Int)×Nat)):∀ u∈N.flatMap sR,u.oneCell'=true:=fun u hu=>by
 obtain⟨z,-,hz⟩:=List.mem_flatMap.1 hu;rw[avy.1 hz];rfl
theorem Ri(w0:World)(g1 g2:Nat)(x y:Int)(hx:w0.cell? ⟨g1,0,none⟩=some (.int .u64 x))(hy:w0.cell? ⟨g2,0,none⟩=some (.int .u64 y)):Calls Tryz.prog 76 #[.slice (some ⟨g1,0,none⟩) 1 1,.slice (some ⟨g2,0,none⟩) 1 1] w0 (fun(r:Ending) (w':World)=>r=.returned (.bool (decide ([x]=[y])))∧avn w0.heap.size w0 w'):=by
 exact bP [] (fn:=Tryz.f76) Tryz.func76 rfl Tryz.ntmps76 rfl<|cl<|an (ru _ _ _ [x] [y] (xg hx) (xg hy)) fun w1 M1=>fun M=>⟨rfl,M.below⟩
theorem GF{α:Type}(w0:World)(base:Nat)(v1 v2:Value)(l1 l2:List ((α×Int)×Nat))(h1:SliceAt w0 v1 1 l1.length (l1.flatMap sR))(h2:SliceAt w0 v2 1 l2.length (l2.flatMap sR))(hN1:cG w0 base l1)(hN2:cG w0 base l2):Calls Tryz.prog 75 #[v1,v2,.func (.func 76) #[] #[]] w0 (fun(r:Ending) (w':World)=>r=.returned (.bool (au sV l1 l2))∧avn w0.heap.size w0 w'):=by
 obtain⟨_,_,rfl,-,hm1,-⟩:=h1.form (by decide);obtain⟨_,_,rfl,-⟩:=h2.form (by decide);refine bP [] (fn:=Tryz.f75) Tryz.func75 rfl Tryz.ntmps75 rfl<|an (fun h M=>⟨rb (uD (by simp at h;omega)).symm,M.below⟩) fun h=>?_
 have hl:l1.length=l2.length:=by simp at h;omega
 refine lr (ι:=Nat) (fun m=>[(17,.int .i64 (m:Int))]) (fun m _=>m≤l1.length∧au sV l1 l2=au sV (l1.drop m) (l2.drop m)) (fun m=>l1.length-m) 0 (an ⟨⟨rfl,trivial⟩,fun M=>⟨M,avu _,rfl⟩⟩ ?_);intro m w M ⟨hm,hI⟩;refine an (fun h3=>?_) fun h3 M=>⟨rb (DB (by simp at h3;omega) hl hI).symm,M.below⟩
 have hlt:m<l1.length:=by simp at h3;omega
 have hlt2:m<l2.length:=by omega
 obtain⟨x,hx⟩:∃ x,l1[m]?=some x:=⟨_,avw hlt⟩;obtain⟨y,hy⟩:∃ y,l2[m]?=some y:=⟨_,avw hlt2⟩;obtain⟨b1,o1,e1,hc1⟩:=SliceAt.elt h1 (fun _=>rfl) (by decide) hx hlt;obtain⟨b2,o2,e2,hc2⟩:=SliceAt.elt h2 (fun _=>rfl) (by decide) hy hlt2;have hwx:=avv M.below ((Whole.cell (hN1 x (avs hx)).1) 0);have hwy:=avv M.below ((Whole.cell (hN2 y (avs hy)).1) 0);exact ia<|an ⟨e1,rfl,hlt⟩<|lc (x:=.slice (some ⟨x.2,0,none⟩) 1 1)<|an (bY M.below hc1 0 _ rfl)<|ia<|an ⟨e2,rfl,hlt2⟩<|lc (x:=.slice (some ⟨y.2,0,none⟩) 1 1)<|an (bY M.below hc2 0 _ rfl)<|cl<|an (Ri _ x.2 y.2 x.1.2 y.1.2 hwx hwy) fun w5 M5=>an (fun hq M=>⟨rb (Lh hx hy hI (by simpa[sV] using hq)).symm,M.below⟩) fun hq=>an (by omega)<|bk (m+1) ⟨rfl,trivial⟩ (fun M=>⟨M,by omega,Lg hx hy hI (by simpa[sV] using hq)⟩) (by dsimp only;omega)
def mJ(p:aA):aA:={ p with rules:=[],conds:=[],trans:=[] }
def ou(N:List ((bE×Int)×Nat)):List bE:=N.map fun z=>z.1.1
theorem Jh{w:World}{v:Value}{N:List ((bE×Int)×Nat)}(h:SliceAt w v 13 N.length (N.flatMap EB)):SliceAt w v 13 (ou N).length ((ou N).flatMap bE.cells):=by
 unfold ou;rw[avE,List.flatMap_map];exact h
theorem cG.low{α:Type}{w:World}{b:Nat}{N:List ((α×Int)×Nat)}(h:cG w b N):cG w 0 N:=fun z hz=>⟨(h z hz).1,avu _⟩
theorem EA(N:List ((bE×Int)×Nat)):∀ u∈N.flatMap EB,u.oneCell'=true:=fun u hu=>by
 obtain⟨z,-,hz⟩:=List.mem_flatMap.1 hu;simp only[EB,bE.cells,avC,List.not_mem_nil,or_false] at hz;rcases hz with rfl|rfl|rfl|rfl|rfl|rfl|rfl|rfl|rfl|rfl|rfl|rfl|rfl<;>rfl
def eZ(p:aA):List (aj×Int):=p.rules.map fun y=>(y,eu (aG p.bools.length) p.bools.length p.conds (Gx y))
theorem gQ.low{w:World}{b:Nat}{v:Value}{l:List (aj×Int)}(h:gQ w b v l):gQ w 0 v l:=by
 obtain⟨es,h1,h2,h3,h4⟩:=h
 exact⟨es,h1,h2,h3,fun i x y hx hy=>by
  obtain⟨v,e,hs⟩:=h4 i x y hx hy;exact⟨v,e,hs.low (avu _)⟩⟩
theorem F2{p:aA}(h:p.rules.length≤1000):(eZ p).length≤1000:=by unfold eZ;rw[avE];exact h
theorem Pt{p:aA}(h:p.Ok):∀ y∈eZ p,y.1.Ok:=fun y hy=>by
 obtain⟨r,hr,rfl⟩:=avD.1 hy;exact⟨(h.rules r hr).src,(h.rules r hr).tgt⟩
theorem ER(w0:World)(c0 c1 c2 c3 c4 c5 c6 c7 c8 c9 aQ aL aK aP aO aN aM:Value)(p:aA)(hp:aJ w0 c0 c1 c2 c3 c4 c5 c6 c7 c8 c9 aQ aL aK aP aO aN aM p)(hok:p.Ok)(hn:p.bools.length≤5)(hcl:p.conds.length≤1000)(hcr:p.rules.length≤1000):Calls Tryz.prog 78 #[.agg #[c0,c1,c2,c3,c4,c5,c6,c7,c8,c9,aQ,aL,aK,aP,aO,aN,aM]] w0 fun e w'=>∃ v,e=.returned v∧(gQ w' 0 v (eZ p)∧avn w0.heap.size w0 w'):=
 (Cx w0 c0 c1 c2 c3 c4 c5 c6 c7 c8 c9 aQ aL aK aP aO aN aM p hp hok hn hcl (by omega)).mono fun _ _ ⟨v,e,⟨N,hN,ho,hs⟩,hb⟩=>⟨v,e,(by have h:=(Ns ho rfl hs).low;rw[hN] at h;exact h),hb⟩
def Pc(p:aA):List (bE×Int):=p.trans.filterMap (D4 (aG p.bools.length) p.bools.length p.conds)
def Pp{α:Type}(x y:α×Int):Bool:=decide ([x.2]=[y.2])
def zk(p q:aA):Bool:=gU (mJ p) (mJ q)&&((decide ((Pc p).map (·.1)=(Pc q).map (·.1))&&au Pp (Pc p) (Pc q))&&(vE (eZ p) (eZ q)&&vE (eZ q) (eZ p)))
theorem zL{α β:Type}{f:α→β}{P:β→β→Bool}{P':α→α→Bool}(h:∀ x y,P' x y=P (f x) (f y)):∀ l m:List α,au P' l m=au P (l.map f) (m.map f)
 | [],[]=>rfl
 | [],_::_=>rfl
 | _::_,[]=>rfl
 | x::l,y::m=>by
  show(P' x y&&au P' l m)=(P (f x) (f y)&&au P (l.map f) (m.map f));rw[h,zL h l m]
section
variable {p q:aA} {Np Nq:List ((bE×Int)×Nat)}
theorem abN(h:gU (mJ p) (mJ q)=false):false=zk p q:=by unfold zk;rw[h];rfl
theorem UU(hp:Np.map (·.1)=Pc p)(hq:Nq.map (·.1)=Pc q):(decide (ou Np=ou Nq)&&au sV Np Nq)=(decide ((Pc p).map (·.1)=(Pc q).map (·.1))&&au Pp (Pc p) (Pc q)):=by
 rw[show au sV Np Nq=au Pp (Np.map (·.1)) (Nq.map (·.1)) from zL (f:=fun z:(bE×Int)×Nat=>z.1) (P:=Pp) (P':=sV) (fun x y=>rfl) Np Nq,hp,hq];have e:∀ N:List ((bE×Int)×Nat),ou N=(N.map (·.1)).map (·.1):=fun N=>by unfold ou;rw[List.map_map];rfl
 rw[e,e,hp,hq]
theorem abM(hp:Np.map (·.1)=Pc p)(hq:Nq.map (·.1)=Pc q)(h:((!(decide (ou Np=ou Nq)))||(!(au sV Np Nq)))=true):false=zk p q:=by
 rw[← Bool.not_and,Bool.not_eq_true',UU hp hq] at h;unfold zk;rw[h,Bool.false_and,Bool.and_false]
theorem abL(hp:Np.map (·.1)=Pc p)(hq:Nq.map (·.1)=Pc q)(h1:gU (mJ p) (mJ q)=true)(h:((!(decide (ou Np=ou Nq)))||(!(au sV Np Nq)))=false):(vE (eZ p) (eZ q)&&vE (eZ q) (eZ p))=zk p q:=by
 rw[← Bool.not_and,Bool.not_eq_false',UU hp hq] at h;unfold zk;rw[h,h1,Bool.true_and,Bool.true_and]
end
theorem Bh{w:World}{c0 c1 c2 c3 c4 c5 c6 c7 c8 c9 aQ aL aK aP aO aN aM:Value}{p:aA}(h:aJ w c0 c1 c2 c3 c4 c5 c6 c7 c8 c9 aQ aL aK aP aO aN aM p):aJ w c0 c1 c2 c3 c4 c5 c6 c7 (.slice none 0 0) (.slice none 0 0) (.slice none 0 0) aL aK aP aO aN aM (mJ p):=
 { h with conds:=⟨[],rfl,by simp,SliceAt.nil _ _,by simp⟩,rules:=SliceAt.nil _ _,trans:=SliceAt.nil _ _ }
theorem UY(w0:World)(c0 c1 c2 c3 c4 c5 c6 c7 c8 c9 aQ aL aK aP aO aN aM d0 d1 d2 d3 d4 d5 d6 d7 d8 d9 Bc Bb Ba A_ A9 A8 AZ:Value)(p q:aA)(hp:aJ w0 c0 c1 c2 c3 c4 c5 c6 c7 c8 c9 aQ aL aK aP aO aN aM p)(hq:aJ w0 d0 d1 d2 d3 d4 d5 d6 d7 d8 d9 Bc Bb Ba A_ A9 A8 AZ q)(Zb:p.Ok)(Za:q.Ok)(hnp:p.bools.length≤5)(afU:p.conds.length≤1000)(ajg:p.trans.length≤4096)(hnq:q.bools.length≤5)(afT:q.conds.length≤1000)(ajf:q.trans.length≤4096)(acD:p.rules.length≤1000)(acC:q.rules.length≤1000):Calls Tryz.prog 26 #[.agg #[c0,c1,c2,c3,c4,c5,c6,c7,c8,c9,aQ,aL,aK,aP,aO,aN,aM],.agg #[d0,d1,d2,d3,d4,d5,d6,d7,d8,d9,Bc,Bb,Ba,A_,A9,A8,AZ]] w0 (fun(r:Ending) (w':World)=>r=.returned (.bool (zk p q))∧avn w0.heap.size w0 w'):=by
 obtain⟨_,_,_,_,_,_,_,_,_,_,_,_,_,_,_,_,_,_,_,_,_,_,_,_,_,_,_,_,_,_,_,_,_,_,rfl,rfl,rfl,rfl,rfl,rfl,rfl,rfl,rfl,rfl,rfl,rfl,rfl,rfl,rfl,rfl,rfl⟩:=hp.open;obtain⟨_,_,_,_,_,_,_,_,_,_,_,_,_,_,_,_,_,_,_,_,_,_,_,_,_,_,_,_,_,_,_,_,_,_,rfl,rfl,rfl,rfl,rfl,rfl,rfl,rfl,rfl,rfl,rfl,rfl,rfl,rfl,rfl,rfl,rfl⟩:=hq.open;refine bP [] (fn:=Tryz.f26) Tryz.func26 rfl Tryz.ntmps26 rfl<|fun g1 w1 M1=>fun g2 w2 M2=>dp (by kernel_rfl)<|lb 1<|an rfl<|lb 0<|an rfl<|ei<|ei<|an ⟨kE,kE⟩<|an ⟨rfl,rfl⟩ fun g3 g4 w3 pQ M3=>?_
 refine lb 0<|an ⟨rfl,rfl⟩ fun w4 M4=>lb 0<|an ⟨rfl,rfl⟩ fun w5 M5=>lb 0<|an ⟨rfl,rfl⟩ fun w6 M6=>lb 1<|an ⟨rfl,rfl⟩ fun w7 M7=>lb 1<|an ⟨rfl,rfl⟩ fun w8 M8=>lb 1<|an ⟨rfl,rfl⟩ fun w9 M9=>lb 0<|an rfl<|lb 1<|an rfl<|cl<|an (GD _ _ _ _ _ _ _ _ _ _ _ _ _ _ _ _ _ _ _ _ _ _ _ _ _ _ _ _ _ _ _ _ _ _ _ (mJ p) (mJ q) (Bh (hp.keep M9.below)) (Bh (hq.keep M9.below))) fun qq jZ=>an (fun h1 M=>⟨rb (abN (by simpa using h1)).symm,M.below⟩) fun h1=>?_
 refine lb 3<|an rfl<|cf jZ (p8 _ _ _ _ _ _ _ _ _ _ _ _ _ _ _ _ _ _ p (hp.keep jZ.below) Zb hnp afU ajg) fun _ zS ⟨tp,up,Np,hv,af_,hop,hwp,hNp⟩ yp M11=>?_
 subst hv;refine lb 2<|an rfl<|cf M11 (p8 _ _ _ _ _ _ _ _ _ _ _ _ _ _ _ _ _ _ q (hq.keep M11.below) Za hnq afT ajf) fun _ DZ ⟨tq,uq,Nq,hv,af9,hoq,hwq,hNq⟩ Kl Bn=>?_
 subst hv;refine cb Bn (zD _ _ _ (ou Np) (ou Nq) (Jh ((SliceAt.bq hop (EA Np)).keep Kl)) (Jh (SliceAt.bq hoq (EA Nq)))) fun Jb Zl wz=>cl<|an (fun _=>GF _ 0 _ _ Np Nq ((SliceAt.bq hwp (Et Np)).keep (Kl.trans (Zl.mono Kl.size))) ((SliceAt.bq hwq (Et Nq)).keep Zl) (hNp.keep (Kl.trans (Zl.mono Kl.size))).low (hNq.keep Zl).low) fun Uv IL=>an (fun h2 M=>⟨rb (abM af_ af9 h2).symm,M.below⟩) fun h2=>?_
 refine dr (by kernel_rfl)<|lb 3<|an rfl<|cr (fun u w=>gQ w 0 u (eZ p))<|an (fun _ _ _ h hb=>h.keep hb)<|an (fun w' hb' M'=>ER _ _ _ _ _ _ _ _ _ _ _ _ _ _ _ _ _ _ p (hp.keep M'.below) Zb hnp afU acD)<|lb 2<|an rfl<|cr (fun u w=>gQ w 0 u (eZ q))<|an (fun _ _ _ h hb=>h.keep hb)<|an (fun w' hb' M'=>ER _ _ _ _ _ _ _ _ _ _ _ _ _ _ _ _ _ _ q (hq.keep M'.below) Za hnq afT acC)<|mva (R:=fun u w=>gQ w 0 u (eZ p)) (fun _ _ _ h hb=>h.keep hb)<|mva (R:=fun u w=>gQ w 0 u (eZ q)) (fun _ _ _ h hb=>h.keep hb)<|fun u1 u2 O4 hR apX Fp=>?_
 have hLp:gQ O4 0 u2 (eZ p):=hR.1;have hLq:gQ O4 0 u1 (eZ q):=hR.2;exact cb Fp (vD _ 0 _ (eZ q) hLq (F2 acC) (Pt Za) _ (eZ p) hLp (F2 acD) (Pt Zb)) fun X8 acG LI=>cl<|an (fun _=>vD _ 0 _ (eZ p) (hLp.keep acG) (F2 acD) (Pt Zb) _ (eZ q) (hLq.keep acG) (F2 acC) (Pt Za)) fun X7 XI M=>⟨rb (abL af_ af9 (by simpa using h1) h2).symm,M.below⟩
end Go.Proofs.YtdcofoaihmongaaGreat
namespace Go.Proofs.YtdcofoaihmongaaGreat
section
variable {α:Type} (J:α→α→Option α)
def eN(a:α):List α→Option (α×List α)
 | []=>none
 | b::r=>match J a b with
  | some c=>some (c,r)
  | none=>(eN a r).map fun z=>(z.1,b::z.2)
def dN:List α→Option (List α)
 | []=>none
 | a::r=>match eN J a r with
  | some z=>some (z.1::z.2)
  | none=>(dN r).map (a::·)
def TR:Nat→List α→List α
 | 0,l=>l
 | n+1,l=>match dN J l with
  | some l'=>TR n l'
  | none=>l
def zu(l:List α):List α:=TR J l.length l
theorem C4{a:α}:∀ {l:List α} {z:α×List α},eN J a l=some z→z.2.length+1=l.length
 | [],_,h=>by cases h
 | b::r,z,h=>by
  unfold eN at h
  cases e:J a b with
  | some c=>rw[e] at h;obtain rfl:=avx h;rfl
  | none=>
   rw[e] at h
   cases e2:eN J a r with
   | none=>rw[e2] at h;cases h
   | some y=>rw[e2] at h;obtain rfl:=avx h;have:=C4 e2;simp;omega
theorem lH:∀ {l l':List α},dN J l=some l'→l'.length+1=l.length
 | [],_,h=>by cases h
 | a::r,l',h=>by
  unfold dN at h
  cases e:eN J a r with
  | some z=>rw[e] at h;obtain rfl:=avx h;have:=C4 J e;simp;omega
  | none=>
   rw[e] at h
   cases e2:dN J r with
   | none=>rw[e2] at h;cases h
   | some y=>rw[e2] at h;obtain rfl:=avx h;have:=lH e2;simp;omega
theorem Ct{l l':List α}(h:dN J l=some l'):zu J l=zu J l':=by
 unfold zu;have:=lH J h;rw[← this,TR,h]
theorem JO{l:List α}(h:dN J l=none):zu J l=l:=by
 unfold zu
 cases l with
 | nil=>rfl
 | cons a r=>rw[List.length_cons,TR,h]
def DK:List α→List α→Prop
 | [],_=>True
 | x::p,r=>(∀ y∈p++r,J x y=none)∧DK p r
theorem q6{a:α}:∀ {l:List α},(∀ y∈l,J a y=none)→eN J a l=none
 | [],_=>rfl
 | b::r,h=>by unfold eN;rw[h b (by simp),q6 fun y hy=>h y (by simp[hy])];rfl
theorem E3{a b c:α}:∀ {l r:List α},(∀ y∈l,J a y=none)→J a b=some c→eN J a (l++b::r)=some (c,l++r)
 | [],r,_,h=>by show eN J a (b::r)=_;unfold eN;rw[h];rfl
 | x::l,r,hl,h=>by
  show eN J a (x::(l++b::r))=_;unfold eN;rw[hl x (by simp),E3 (fun y hy=>hl y (by simp[hy])) h];rfl
theorem EL:∀ {p r:List α},DK J p r→dN J (p++r)=(dN J r).map (p++·)
 | [],r,_=>by cases h:dN J r<;>simp[h]
 | x::p,r,h=>by
  show dN J (x::(p++r))=_
  have e:dN J (x::(p++r))=(dN J (p++r)).map (x::·):=by
   rw[dN,q6 J h.1]
  rw[e,EL h.2];cases dN J r<;>rfl
theorem Cq:∀ {p:List α},DK J p []→dN J p=none
 | [],_=>rfl
 | x::p,h=>by unfold dN;rw[q6 J (by simpa using h.1),Cq h.2];rfl
theorem JJ{p m r:List α}{a b c:α}(hp:DK J p (a::(m++b::r)))(hm:∀ y∈m,J a y=none)(h:J a b=some c):dN J (p++a::(m++b::r))=some (p++c::(m++r)):=by
 rw[EL J hp];unfold dN;rw[E3 J hm h];rfl
theorem DK.append{p q r:List α}(h1:DK J p (q++r))(h2:DK J q r):DK J (p++q) r:=by
 induction p with
 | nil=>exact h2
 | cons x p ih=>exact⟨fun y hy=>h1.1 y (by simpa using hy),ih h1.2⟩
theorem DK.left{p q r:List α}(h:DK J (p++q) r):DK J p (q++r):=by
 induction p with
 | nil=>trivial
 | cons x p ih=>exact⟨fun y hy=>h.1 y (by simpa using hy),ih h.2⟩
theorem DK.right{p q r:List α}(h:DK J (p++q) r):DK J q r:=by
 induction p with
 | nil=>exact h
 | cons x p ih=>exact ih h.2
theorem DK.mono{p r r':List α}(h:DK J p r)(hr:∀ y∈r',y∈r):DK J p r':=by
 induction p with
 | nil=>trivial
 | cons x p ih=>exact⟨fun y hy=>h.1 y (by
  rcases avB.1 hy with hy|hy
  ·exact avB.2 (.inl hy)
  ·exact avB.2 (.inr (hr y hy))),ih h.2⟩
def seg(f:Nat→Option α)(i n:Nat):List α:=(List.range' i (n-i)).filterMap f
theorem Ao(f:Nat→Option α){i n:Nat}(h:n≤i):seg f i n=[]:=by unfold seg;rw[Nat.sub_eq_zero_of_le h];rfl
theorem jd(f:Nat→Option α){i n:Nat}(h:i<n):seg f i n=(f i).toList++seg f (i+1) n:=by
 unfold seg;rw[show n-i=(n-(i+1))+1 by omega,List.range'_succ,List.filterMap_cons];cases f i<;>rfl
theorem iT(f:Nat→Option α){i j n:Nat}(h1:i≤j)(h2:j≤n):seg f i n=seg f i j++seg f j n:=by
 unfold seg;have h:=List.range'_append_1 (s:=i) (m:=j-i) (n:=n-j);rw[show i+(j-i)=j by omega,show j-i+(n-j)=n-i by omega] at h;rw[← avL,h]
theorem xq{f g:Nat→Option α}{i n:Nat}(h:∀ k,i≤k→k<n→f k=g k):seg f i n=seg g i n:=by
 unfold seg
 have key:∀ l:List Nat,(∀ k∈l,f k=g k)→l.filterMap f=l.filterMap g:=by
  intro l
  induction l with
  | nil=>intro _;rfl
  | cons x l ih=>intro h;rw[List.filterMap_cons,List.filterMap_cons,h x (by simp),ih fun k hk=>h k (by simp[hk])]
 refine key _ fun k hk=>?_
 rw[List.mem_range'_1] at hk;exact h k hk.1 (by omega)
theorem PU{f:Nat→Option α}{i n:Nat}{y:α}:y∈seg f i n↔∃ k,i≤k∧k<n∧f k=some y:=by
 unfold seg;rw[List.mem_filterMap];constructor
 ·rintro⟨k,hk,e⟩;rw[List.mem_range'_1] at hk;exact⟨k,hk.1,by omega,e⟩
 ·rintro⟨k,h1,h2,e⟩;exact⟨k,List.mem_range'_1.2 ⟨h1,by omega⟩,e⟩
def NP(f:Nat→Option α)(n i e:Nat):Prop:=∀ h x k y,h<i→f h=some x→h<k→k<n→k≠e→f k=some y→J x y=none
theorem Vs{f:Nat→Option α}{n:Nat}:∀ {i s:Nat},s≤i→i≤n→(∀ h x k y,s≤h→h<i→f h=some x→h<k→k<n→f k=some y→J x y=none)→DK J (seg f s i) (seg f i n):=by
 intro i s hsi hin H;obtain⟨d,hd⟩:∃ d,d=i-s:=⟨_,rfl⟩
 induction d generalizing s with
 | zero=>rw[Ao f (by omega)];trivial
 | succ d ih=>
  have hlt:s<i:=by omega
  have h2:=ih (s:=s+1) (by omega) (fun h x k y h1=>H h x k y (by omega)) (by omega);rw[jd f hlt]
  cases e:f s with
  | none=>exact h2
  | some x=>
   refine⟨fun y hy=>?_,h2⟩
   change y∈seg f (s+1) i++seg f i n at hy
   rw[← iT f (by omega) hin] at hy;obtain⟨k,k1,k2,k3⟩:=PU.1 hy;exact H s x k y (Nat.le_refl _) hlt e (by omega) k2 k3
def kF(f:Nat→Option α)(i:Nat)(v:Option α):Nat→Option α:=fun k=>if k=i then v else f k
theorem rP(f:Nat→Option α)(i:Nat)(v:Option α):kF f i v i=v:=if_pos rfl
theorem fK(f:Nat→Option α){i k:Nat}(v:Option α)(h:k≠i):kF f i v k=f k:=if_neg h
theorem Jw{f:Nat→Option α}{n i k:Nat}{a b c:α}(hi:i<k)(hk:k<n)(ha:f i=some a)(hb:f k=some b)(hc:J a b=some c)
 (hp:NP J f n i n) (hm:∀ j y,i<j→j<k→f j=some y→J a y=none):dN J (seg f 0 n)=some (seg (kF (kF f i (some c)) k none) 0 n):=by
 have e1:seg f 0 n=seg f 0 i++a::(seg f (i+1) k++b::seg f (k+1) n):=by
  rw[iT f (avu i) (by omega:i≤n),jd f (by omega:i<n),ha,iT f (by omega:i+1≤k) (by omega:k≤n),jd f hk,hb];rfl
 have e2:seg (kF (kF f i (some c)) k none) 0 n=seg f 0 i++c::(seg f (i+1) k++seg f (k+1) n):=by
  rw[iT _ (avu i) (by omega:i≤n),jd _ (by omega:i<n),iT _ (by omega:i+1≤k) (by omega:k≤n),jd _ hk,rP,fK _ _ (by omega:i≠k),rP,
   xq (g:=f) (i:=0) (n:=i) (fun j h1 h2=>by rw[fK _ _ (by omega),fK _ _ (by omega)]),
   xq (g:=f) (i:=i+1) (n:=k) (fun j h1 h2=>by rw[fK _ _ (by omega),fK _ _ (by omega)]),
   xq (g:=f) (i:=k+1) (n:=n) (fun j h1 h2=>by rw[fK _ _ (by omega),fK _ _ (by omega)])];rfl
 rw[e1,e2];refine JJ J ?_ (fun y hy=>?_) hc
 ·have h:=Vs J (f:=f) (n:=n) (avu i) (by omega) (fun h x k y _ h1 h2 h3 h4 h5=>hp h x k y h1 h2 h3 h4 (by omega) h5);rw[jd f (by omega:i<n),ha,iT f (by omega:i+1≤k) (by omega:k≤n),jd f hk,hb] at h;exact h
 ·obtain⟨j,j1,j2,j3⟩:=PU.1 hy;exact hm j y (by omega) j2 j3
theorem NP.joined{f:Nat→Option α}{n i k:Nat}{c:α}(hp:NP J f n i n):NP J (kF (kF f i (some c)) k none) n i i:=by
 intro h x j y h1 h2 h3 h4 h5 h6;have hj:j≠k:=fun e=>by subst e;rw[rP] at h6;cases h6
 rw[fK _ _ hj,fK _ _ h5] at h6;have hh:h≠k:=fun e=>by subst e;rw[rP] at h2;cases h2
 rw[fK _ _ hh,fK _ _ (by omega)] at h2;exact hp h x j y h1 h2 h3 h4 (by omega) h6
end
end Go.Proofs.YtdcofoaihmongaaGreat
namespace Go.Proofs.YtdcofoaihmongaaGreat
open Go Go.RowKit
def ay.or(x y:ay):ay:=⟨x.a|||y.a,x.b|||y.b,x.c|||y.c,x.d|||y.d⟩
def orW(m:Nat)(x y:ay)(i:Nat):Nat:=if i<m then x.word i|||y.word i else x.word i
def aC(a b:aj):Option aj:=
 if (((!decide (a.kind=b.kind)||!decide (a.cls=b.cls))||!decide (a.cond=b.cond))||!(a.self == b.self))=true then none
 else if (decide (a.src=b.src)&&decide (a.tgt=b.tgt))=true then some { a with perms:=bits .or .u32 a.perms b.perms }
 else if (decide (a.perms=b.perms)&&decide (a.src=b.src))=true then some { a with tgt:=a.tgt.or b.tgt }
 else if (decide (a.perms=b.perms)&&decide (a.tgt=b.tgt))=true then some { a with src:=a.src.or b.src }
 else none
theorem join_none{a b:aj}(h:aC a b=none):Ending.returned (.tuple #[.agg #[.int .i64 a.kind,.int .u64 a.src.a,.int .u64 a.src.b,.int .u64 a.src.c,.int .u64 a.src.d,.int .u64 a.tgt.a,.int .u64 a.tgt.b,.int .u64 a.tgt.c,.int .u64 a.tgt.d,.bool a.self,.int .i64 a.cls,.int .u32 a.perms,.int .i64 a.cond],.bool false])=.returned (.tuple #[.agg #[.int .i64 (((aC a b).getD a).kind),.int .u64 (((aC a b).getD a).src.a),.int .u64 (((aC a b).getD a).src.b),.int .u64 (((aC a b).getD a).src.c),.int .u64 (((aC a b).getD a).src.d),.int .u64 (((aC a b).getD a).tgt.a),.int .u64 (((aC a b).getD a).tgt.b),.int .u64 (((aC a b).getD a).tgt.c),.int .u64 (((aC a b).getD a).tgt.d),.bool (((aC a b).getD a).self),.int .i64 (((aC a b).getD a).cls),.int .u32 (((aC a b).getD a).perms),.int .i64 (((aC a b).getD a).cond)],.bool (aC a b).isSome]):=by rw[h];rfl
theorem join_some{a b c:aj}(h:aC a b=some c):Ending.returned (.tuple #[.agg #[.int .i64 c.kind,.int .u64 c.src.a,.int .u64 c.src.b,.int .u64 c.src.c,.int .u64 c.src.d,.int .u64 c.tgt.a,.int .u64 c.tgt.b,.int .u64 c.tgt.c,.int .u64 c.tgt.d,.bool c.self,.int .i64 c.cls,.int .u32 c.perms,.int .i64 c.cond],.bool true])=.returned (.tuple #[.agg #[.int .i64 (((aC a b).getD a).kind),.int .u64 (((aC a b).getD a).src.a),.int .u64 (((aC a b).getD a).src.b),.int .u64 (((aC a b).getD a).src.c),.int .u64 (((aC a b).getD a).src.d),.int .u64 (((aC a b).getD a).tgt.a),.int .u64 (((aC a b).getD a).tgt.b),.int .u64 (((aC a b).getD a).tgt.c),.int .u64 (((aC a b).getD a).tgt.d),.bool (((aC a b).getD a).self),.int .i64 (((aC a b).getD a).cls),.int .u32 (((aC a b).getD a).perms),.int .i64 (((aC a b).getD a).cond)],.bool (aC a b).isSome]):=by rw[h];rfl
theorem Ey(w0:World)(x y:ay)(hx:x.Ok)(hy:y.Ok):Calls Tryz.prog 227 #[.agg #[.int .u64 x.a,.int .u64 x.b,.int .u64 x.c,.int .u64 x.d],.agg #[.int .u64 y.a,.int .u64 y.b,.int .u64 y.c,.int .u64 y.d]] w0 (fun(r:Ending) (w':World)=>r=.returned (.agg #[.int .u64 ((x.or y).a),.int .u64 ((x.or y).b),.int .u64 ((x.or y).c),.int .u64 ((x.or y).d)])∧avn w0.heap.size w0 w'):=by
 refine bP [] (fn:=Tryz.f227) Tryz.func227 rfl Tryz.ntmps227 rfl<|fun gx w1 M1=>fun gy w2 M2=>ei<|an tE fun go w3 M3=>lp (ι:=Nat) (fun m=>[(6,.int .i64 (m:Int))]) (fun m=>[(go,54,#[.int .u64 0,.int .u64 0,.int .u64 0,.int .u64 0]),(gy,54,#[.int .u64 y.a,.int .u64 y.b,.int .u64 y.c,.int .u64 y.d]),(gx,54,#[.int .u64 ((orW m x y 0:Nat):Int),.int .u64 ((orW m x y 1:Nat):Int),.int .u64 ((orW m x y 2:Nat):Int),.int .u64 ((orW m x y 3:Nat):Int)])]) (fun _=>[]) (fun m _=>m≤4) (fun m=>4-m) 0 (an ⟨⟨rfl,trivial⟩,fun M=>⟨M,avu _⟩⟩ ?_)
 intro m w M hm;refine an (fun h=>?_) fun h=>?_
 ·have hlt:m<4:=by simp at h;omega
  obtain rfl|rfl|rfl|rfl:m=0∨m=1∨m=2∨m=3:=by omega
  all_goals
   refine dr (by kernel_rfl)<|ei<|an ⟨rfl,by decide⟩<|lb 2<|an rfl<|ei<|an ⟨rfl,by decide⟩<|lb 1<|an rfl<|ei<|an rfl<|ei<|an ⟨rfl,by decide⟩<|fun w hb M=>lb 2<|an ⟨rfl,rfl⟩ fun w M=>an (by omega)<|bk _ ⟨rfl,trivial⟩ (fun M=>⟨M.cast ?_ rfl,by decide⟩) (by decide)
  ·exact congrArg (fun v:Int=>[(_:Bx),_,(gx,54,(#[Value.int .u64 v,_,_,_]:Array Value))]) (bits_or_u64_nat _ _ hx.a hy.a)
  ·exact congrArg (fun v:Int=>[(_:Bx),_,(gx,54,(#[_,Value.int .u64 v,_,_]:Array Value))]) (bits_or_u64_nat _ _ hx.b hy.b)
  ·exact congrArg (fun v:Int=>[(_:Bx),_,(gx,54,(#[_,_,Value.int .u64 v,_]:Array Value))]) (bits_or_u64_nat _ _ hx.c hy.c)
  ·exact congrArg (fun v:Int=>[(_:Bx),_,(gx,54,(#[_,_,_,Value.int .u64 v]:Array Value))]) (bits_or_u64_nat _ _ hx.d hy.d)
 obtain rfl:m=4:=by simp at h;omega
 exact lb 2<|an rfl<|lb 0<|an ⟨rfl,rfl⟩ fun w M=>ei (x:=0)<|an rfl fun M=>⟨rfl,M.below⟩
theorem BZ(w0:World)(x y:ay)(hx:x.Ok)(hy:y.Ok):Calls Tryz.prog 228 #[.agg #[.int .u64 x.a,.int .u64 x.b,.int .u64 x.c,.int .u64 x.d],.agg #[.int .u64 y.a,.int .u64 y.b,.int .u64 y.c,.int .u64 y.d]] w0 (fun(r:Ending) (w':World)=>r=.returned (.agg #[.int .u64 ((x.or y).a),.int .u64 ((x.or y).b),.int .u64 ((x.or y).c),.int .u64 ((x.or y).d)])∧avn w0.heap.size w0 w'):=by
 refine bP [] (fn:=Tryz.f228) Tryz.func228 rfl Tryz.ntmps228 rfl<|fun gx w1 M1=>fun gy w2 M2=>ei<|an tE fun go w3 M3=>lp (ι:=Nat) (fun m=>[(5,.int .i64 (m:Int))]) (fun m=>[(go,54,#[.int .u64 0,.int .u64 0,.int .u64 0,.int .u64 0]),(gy,54,#[.int .u64 y.a,.int .u64 y.b,.int .u64 y.c,.int .u64 y.d]),(gx,54,#[.int .u64 ((orW m x y 0:Nat):Int),.int .u64 ((orW m x y 1:Nat):Int),.int .u64 ((orW m x y 2:Nat):Int),.int .u64 ((orW m x y 3:Nat):Int)])]) (fun _=>[]) (fun m _=>m≤4) (fun m=>4-m) 0 (an ⟨⟨rfl,trivial⟩,fun M=>⟨M,avu _⟩⟩ ?_)
 intro m w M hm;refine an (fun h=>?_) fun h=>?_
 ·have hlt:m<4:=by simp at h;omega
  obtain rfl|rfl|rfl|rfl:m=0∨m=1∨m=2∨m=3:=by omega
  all_goals
   refine dr (by kernel_rfl)<|ei<|an ⟨rfl,by decide⟩<|lb 2<|an rfl<|ei<|an ⟨rfl,by decide⟩<|lb 1<|an rfl<|ei<|an rfl<|ei<|an ⟨rfl,by decide⟩<|fun w hb M=>lb 2<|an ⟨rfl,rfl⟩ fun w M=>an (by omega)<|bk _ ⟨rfl,trivial⟩ (fun M=>⟨M.cast ?_ rfl,by decide⟩) (by decide)
  ·exact congrArg (fun v:Int=>[(_:Bx),_,(gx,54,(#[Value.int .u64 v,_,_,_]:Array Value))]) (bits_or_u64_nat _ _ hx.a hy.a)
  ·exact congrArg (fun v:Int=>[(_:Bx),_,(gx,54,(#[_,Value.int .u64 v,_,_]:Array Value))]) (bits_or_u64_nat _ _ hx.b hy.b)
  ·exact congrArg (fun v:Int=>[(_:Bx),_,(gx,54,(#[_,_,Value.int .u64 v,_]:Array Value))]) (bits_or_u64_nat _ _ hx.c hy.c)
  ·exact congrArg (fun v:Int=>[(_:Bx),_,(gx,54,(#[_,_,_,Value.int .u64 v]:Array Value))]) (bits_or_u64_nat _ _ hx.d hy.d)
 obtain rfl:m=4:=by simp at h;omega
 exact lb 2<|an rfl<|lb 0<|an ⟨rfl,rfl⟩ fun w M=>ei (x:=0)<|an rfl fun M=>⟨rfl,M.below⟩
theorem J7(w0:World)(a b:aj)(ha:a.Ok)(hb:b.Ok):Calls Tryz.prog 169 #[.agg #[.int .i64 a.kind,.int .u64 a.src.a,.int .u64 a.src.b,.int .u64 a.src.c,.int .u64 a.src.d,.int .u64 a.tgt.a,.int .u64 a.tgt.b,.int .u64 a.tgt.c,.int .u64 a.tgt.d,.bool a.self,.int .i64 a.cls,.int .u32 a.perms,.int .i64 a.cond],.agg #[.int .i64 b.kind,.int .u64 b.src.a,.int .u64 b.src.b,.int .u64 b.src.c,.int .u64 b.src.d,.int .u64 b.tgt.a,.int .u64 b.tgt.b,.int .u64 b.tgt.c,.int .u64 b.tgt.d,.bool b.self,.int .i64 b.cls,.int .u32 b.perms,.int .i64 b.cond]] w0 (fun(r:Ending) (w':World)=>r=.returned (.tuple #[.agg #[.int .i64 (((aC a b).getD a).kind),.int .u64 (((aC a b).getD a).src.a),.int .u64 (((aC a b).getD a).src.b),.int .u64 (((aC a b).getD a).src.c),.int .u64 (((aC a b).getD a).src.d),.int .u64 (((aC a b).getD a).tgt.a),.int .u64 (((aC a b).getD a).tgt.b),.int .u64 (((aC a b).getD a).tgt.c),.int .u64 (((aC a b).getD a).tgt.d),.bool (((aC a b).getD a).self),.int .i64 (((aC a b).getD a).cls),.int .u32 (((aC a b).getD a).perms),.int .i64 (((aC a b).getD a).cond)],.bool (aC a b).isSome])∧avn w0.heap.size w0 w'):=by
 refine bP [] (fn:=Tryz.f169) Tryz.func169 rfl Tryz.ntmps169 rfl<|fun g1 w1 M1=>fun g2 w2 M2=>ei<|an mP fun g3 w3 M3=>lb 2<|an rfl<|lb 1<|an rfl<|lb 2<|an (fun _=>rfl)<|lb 1<|an (fun _=>rfl)<|lb 2<|an (fun _=>rfl)<|lb 1<|an (fun _=>rfl)<|lb 2<|an (fun _=>rfl)<|lb 1<|an (fun _=>rfl)<|an (fun h1=>?_) fun h1=>?_
 ·exact lb 2<|an rfl<|lb 0<|an ⟨rfl,rfl⟩ fun w4 M4=>ei (x:=0)<|an rfl fun M=>⟨join_none (by unfold aC;rw[if_pos h1]),M.below⟩
 refine lb 2<|an rfl<|lb 1<|an rfl<|ei (x:=decide (a.src=b.src))<|an ⟨rA,fun w=>oM a.src b.src w⟩<|lb 2<|an (fun _=>rfl)<|lb 1<|an (fun _=>rfl)<|ei (x:=decide (a.tgt=b.tgt))<|an (fun _=>⟨rA,fun w=>oM a.tgt b.tgt w⟩)<|an (fun h2=>?_) fun h2=>?_
 ·exact lb 2<|an rfl<|lb 1<|an rfl<|ei (x:=bits .or .u32 a.perms b.perms)<|an rfl<|lb 2<|an ⟨rfl,rfl⟩ fun w5 M5=>lb 2<|an rfl<|lb 0<|an ⟨rfl,rfl⟩ fun w6 M6=>ei (x:=0)<|an rfl fun M=>⟨join_some (by unfold aC;rw[if_neg (by rw[h1];decide),if_pos h2]),M.below⟩
 refine lb 2<|an rfl<|lb 1<|an rfl<|lb 2<|an (fun _=>rfl)<|lb 1<|an (fun _=>rfl)<|ei (x:=decide (a.src=b.src))<|an (fun _=>⟨rA,fun w=>oM a.src b.src w⟩)<|an (fun h3=>?_) fun h3=>?_
 ·exact lb 2<|an rfl<|lb 1<|an rfl<|cl<|an (Ey _ a.tgt b.tgt ha.tgt hb.tgt) fun w7 M7=>lb 2<|an ⟨rfl,rfl⟩ fun w8 M8=>lb 2<|an rfl<|lb 0<|an ⟨rfl,rfl⟩ fun w9 M9=>ei (x:=0)<|an rfl fun M=>⟨join_some (by unfold aC;rw[if_neg (by rw[h1];decide),if_neg (by rw[h2];decide),if_pos h3]),M.below⟩
 refine lb 2<|an rfl<|lb 1<|an rfl<|lb 2<|an (fun _=>rfl)<|lb 1<|an (fun _=>rfl)<|ei (x:=decide (a.tgt=b.tgt))<|an (fun _=>⟨rA,fun w=>oM a.tgt b.tgt w⟩)<|an (fun h4=>?_) fun h4=>?_
 ·exact lb 2<|an rfl<|lb 1<|an rfl<|cl<|an (Ey _ a.src b.src ha.src hb.src) fun qq jZ=>lb 2<|an ⟨rfl,rfl⟩ fun zS M11=>lb 2<|an rfl<|lb 0<|an ⟨rfl,rfl⟩ fun DZ Bn=>ei (x:=0)<|an rfl fun M=>⟨join_some (by unfold aC;rw[if_neg (by rw[h1];decide),if_neg (by rw[h2];decide),if_neg (by rw[h3];decide),if_pos h4]),M.below⟩
 exact lb 2<|an rfl<|lb 0<|an ⟨rfl,rfl⟩ fun Jb wz=>ei (x:=0)<|an rfl fun M=>⟨join_none (by unfold aC;rw[if_neg (by rw[h1];decide),if_neg (by rw[h2];decide),if_neg (by rw[h3];decide),if_neg (by rw[h4];decide)]),M.below⟩
theorem Ry(w0:World)(a b:aj)(ha:a.Ok)(hb:b.Ok):Calls Tryz.prog 170 #[.agg #[.int .i64 a.kind,.int .u64 a.src.a,.int .u64 a.src.b,.int .u64 a.src.c,.int .u64 a.src.d,.int .u64 a.tgt.a,.int .u64 a.tgt.b,.int .u64 a.tgt.c,.int .u64 a.tgt.d,.bool a.self,.int .i64 a.cls,.int .u32 a.perms,.int .i64 a.cond],.agg #[.int .i64 b.kind,.int .u64 b.src.a,.int .u64 b.src.b,.int .u64 b.src.c,.int .u64 b.src.d,.int .u64 b.tgt.a,.int .u64 b.tgt.b,.int .u64 b.tgt.c,.int .u64 b.tgt.d,.bool b.self,.int .i64 b.cls,.int .u32 b.perms,.int .i64 b.cond]] w0 (fun(r:Ending) (w':World)=>r=.returned (.tuple #[.agg #[.int .i64 (((aC a b).getD a).kind),.int .u64 (((aC a b).getD a).src.a),.int .u64 (((aC a b).getD a).src.b),.int .u64 (((aC a b).getD a).src.c),.int .u64 (((aC a b).getD a).src.d),.int .u64 (((aC a b).getD a).tgt.a),.int .u64 (((aC a b).getD a).tgt.b),.int .u64 (((aC a b).getD a).tgt.c),.int .u64 (((aC a b).getD a).tgt.d),.bool (((aC a b).getD a).self),.int .i64 (((aC a b).getD a).cls),.int .u32 (((aC a b).getD a).perms),.int .i64 (((aC a b).getD a).cond)],.bool (aC a b).isSome])∧avn w0.heap.size w0 w'):=by
 refine bP [] (fn:=Tryz.f170) Tryz.func170 rfl Tryz.ntmps170 rfl<|fun g1 w1 M1=>fun g2 w2 M2=>ei<|an mP fun g3 w3 M3=>lb 2<|an rfl<|lb 1<|an rfl<|lb 2<|an (fun _=>rfl)<|lb 1<|an (fun _=>rfl)<|lb 2<|an (fun _=>rfl)<|lb 1<|an (fun _=>rfl)<|lb 2<|an (fun _=>rfl)<|lb 1<|an (fun _=>rfl)<|an (fun h1=>?_) fun h1=>?_
 ·exact lb 2<|an rfl<|lb 0<|an ⟨rfl,rfl⟩ fun w4 M4=>ei (x:=0)<|an rfl fun M=>⟨join_none (by unfold aC;rw[if_pos h1]),M.below⟩
 refine lb 2<|an rfl<|lb 1<|an rfl<|ei (x:=decide (a.src=b.src))<|an ⟨rA,fun w=>oM a.src b.src w⟩<|lb 2<|an (fun _=>rfl)<|lb 1<|an (fun _=>rfl)<|ei (x:=decide (a.tgt=b.tgt))<|an (fun _=>⟨rA,fun w=>oM a.tgt b.tgt w⟩)<|an (fun h2=>?_) fun h2=>?_
 ·exact lb 2<|an rfl<|lb 1<|an rfl<|ei (x:=bits .or .u32 a.perms b.perms)<|an rfl<|lb 2<|an ⟨rfl,rfl⟩ fun w5 M5=>lb 2<|an rfl<|lb 0<|an ⟨rfl,rfl⟩ fun w6 M6=>ei (x:=0)<|an rfl fun M=>⟨join_some (by unfold aC;rw[if_neg (by rw[h1];decide),if_pos h2]),M.below⟩
 refine lb 2<|an rfl<|lb 1<|an rfl<|lb 2<|an (fun _=>rfl)<|lb 1<|an (fun _=>rfl)<|ei (x:=decide (a.src=b.src))<|an (fun _=>⟨rA,fun w=>oM a.src b.src w⟩)<|an (fun h3=>?_) fun h3=>?_
 ·exact lb 2<|an rfl<|lb 1<|an rfl<|cl<|an (BZ _ a.tgt b.tgt ha.tgt hb.tgt) fun w7 M7=>lb 2<|an ⟨rfl,rfl⟩ fun w8 M8=>lb 2<|an rfl<|lb 0<|an ⟨rfl,rfl⟩ fun w9 M9=>ei (x:=0)<|an rfl fun M=>⟨join_some (by unfold aC;rw[if_neg (by rw[h1];decide),if_neg (by rw[h2];decide),if_pos h3]),M.below⟩
 refine lb 2<|an rfl<|lb 1<|an rfl<|lb 2<|an (fun _=>rfl)<|lb 1<|an (fun _=>rfl)<|ei (x:=decide (a.tgt=b.tgt))<|an (fun _=>⟨rA,fun w=>oM a.tgt b.tgt w⟩)<|an (fun h4=>?_) fun h4=>?_
 ·exact lb 2<|an rfl<|lb 1<|an rfl<|cl<|an (BZ _ a.src b.src ha.src hb.src) fun qq jZ=>lb 2<|an ⟨rfl,rfl⟩ fun zS M11=>lb 2<|an rfl<|lb 0<|an ⟨rfl,rfl⟩ fun DZ Bn=>ei (x:=0)<|an rfl fun M=>⟨join_some (by unfold aC;rw[if_neg (by rw[h1];decide),if_neg (by rw[h2];decide),if_neg (by rw[h3];decide),if_pos h4]),M.below⟩
 exact lb 2<|an rfl<|lb 0<|an ⟨rfl,rfl⟩ fun Jb wz=>ei (x:=0)<|an rfl fun M=>⟨join_none (by unfold aC;rw[if_neg (by rw[h1];decide),if_neg (by rw[h2];decide),if_neg (by rw[h3];decide),if_neg (by rw[h4];decide)]),M.below⟩
theorem Nr{s:ay}{k:Nat}:k∈elems s↔k<256∧s.has k=true:=by
 unfold elems cE;rw[List.mem_filter,List.mem_range]
theorem bT{r:aj}{s o:Nat}(hs:s<256)(ho:o<256):(s,o)∈r.pairs↔r.src.has s=true∧(r.tgt.has o||r.self&&decide (s=o))=true:=by
 unfold aj.pairs aj.cO;simp only[List.mem_flatMap,avD,Prod.mk.injEq,Nr];constructor
 ·rintro⟨a,⟨-,ha⟩,b,⟨-,hb⟩,rfl,rfl⟩;refine⟨ha,?_⟩;unfold aj.tgts at hb
  cases hq:r.self with
  | false=>rw[hq] at hb;simpa using hb
  | true=>
   rw[hq,if_pos rfl] at hb;unfold ay.with at hb;rw[if_pos ⟨by omega,by omega⟩,Int.toNat_natCast,ay.has_add _ hs ho] at hb;rcases Bool.or_eq_true_iff.1 hb with h|h
   ·have:b=a:=by simpa using h
    subst this;simp
   ·simp[h]
 ·rintro⟨h1,h2⟩;refine⟨s,⟨hs,h1⟩,o,⟨ho,?_⟩,rfl,rfl⟩;unfold aj.tgts
  cases hq:r.self with
  | false=>rw[hq] at h2;simpa using h2
  | true=>
   rw[if_pos rfl]
   unfold ay.with
   rw[if_pos ⟨by omega,by omega⟩,Int.toNat_natCast,ay.has_add _ hs ho];rw[hq] at h2;rcases Bool.or_eq_true_iff.1 h2 with h|h
   ·simp[h]
   ·have:s=o:=by simpa using h
    subst this;simp
theorem jw{r:aj}{p:Nat×Nat}(h:p∈r.pairs):p.1<256∧p.2<256:=by
 unfold aj.pairs aj.cO at h;obtain⟨s,hs,hp⟩:=List.mem_flatMap.1 h;obtain⟨t,ht,rfl⟩:=avD.1 hp;simp[elems,cE] at hs ht;exact⟨hs.1,ht.1⟩
def ib(x:Int)(r:Nat):Bool:=x.toNat.testBit r
def uH(x:Int):Prop:=0≤x∧x<18446744073709551616
def qj(x:Int):Prop:=0≤x∧x<4294967296
theorem Fx(n:Int):IntKind.u64.wrap n=n%18446744073709551616:=by simp[IntKind.wrap,IntKind.bits,IntKind.signed]
theorem dD(op:BinOp)(a b:Int):uH (bits op .u64 a b):=by
 unfold bits;simp only[Fx];constructor<;>omega
theorem qp(op:BinOp)(a b:Int):qj (bits op .u32 a b):=by
 unfold bits;simp only[IntKind.wrap_u32];constructor<;>omega
theorem zq{x:Int}(h:uH x):(BitVec.ofInt 64 x).toNat=x.toNat:=by
 obtain⟨a,rfl⟩:=Int.eq_ofNat_of_zero_le h.1;rw[BitVec.ofInt_natCast,BitVec.toNat_ofNat];have:=h.2;simp only[Int.toNat_natCast];exact Nat.mod_eq_of_lt (by omega)
theorem kM(op:BinOp){a b:Int}(ha:uH a)(hb:uH b)(r:Nat):ib (bits op .u64 a b) r=match op with|.and=>ib a r&&ib b r|.or=>ib a r||ib b r|.xor=>ib a r ^^ ib b r|_=>ib a r&&!ib b r:=by
 have key:∀ v:BitVec 64,ib (IntKind.u64.wrap (v.toNat:Int)) r=v.getLsbD r:=by
  intro v;have:=v.isLt;unfold ib;rw[Fx,Int.emod_eq_of_lt (by omega) (by omega),Int.toNat_natCast];rfl
 have ga:(BitVec.ofInt 64 a).getLsbD r=ib a r:=by unfold BitVec.getLsbD;rw[zq ha];rfl
 have gb:(BitVec.ofInt 64 b).getLsbD r=ib b r:=by unfold BitVec.getLsbD;rw[zq hb];rfl
 have aqy:ib b r=true→r<64:=fun h=>by rw[← gb] at h;exact BitVec.lt_of_getLsbD h
 have ac0:ib a r=true→r<64:=fun h=>by rw[← ga] at h;exact BitVec.lt_of_getLsbD h
 unfold bits;show ib (IntKind.u64.wrap ((BitVec.toNat (match op with|.and=>BitVec.ofInt 64 a&&&BitVec.ofInt 64 b|.or=>BitVec.ofInt 64 a|||BitVec.ofInt 64 b|.xor=>BitVec.ofInt 64 a ^^^ BitVec.ofInt 64 b|_=>BitVec.ofInt 64 a&&&~~~BitVec.ofInt 64 b):Nat):Int)) r=_;rw[key];cases op<;>simp only[BitVec.getLsbD_and,BitVec.getLsbD_or,BitVec.getLsbD_xor,BitVec.getLsbD_not,ga,gb] <;>
 ·cases h:ib a r<;>simp;intro _;exact ac0 h
theorem Gp(r:Nat):ib 18446744073709551615 r=decide (r<64):=by
 unfold ib;rw[show(18446744073709551615:Int).toNat=2^64-1 from rfl,Nat.testBit_two_pow_sub_one]
theorem Y6(n r:Nat):ib (2^n-1) r=decide (r<n):=by
 unfold ib
 have:((2:Int)^n-1).toNat=2^n-1:=by
  rw[show((2:Int)^n-1)=((2^n-1:Nat):Int) by rw[Int.natCast_sub (Nat.two_pow_pos n)];simp];exact Int.toNat_natCast _
 rw[this,Nat.testBit_two_pow_sub_one]
theorem yg{x y:Int}(hx:0≤x)(hy:0≤y)(h:∀ r,ib x r=ib y r):x=y:=by
 have:=Nat.eq_of_testBit_eq (x:=x.toNat) (y:=y.toNat) h;omega
theorem iK(r:Nat):ib 0 r=false:=by unfold ib;simp
theorem X1(n:Int):IntKind.u32.wrap n=n%4294967296:=by simp[IntKind.wrap,IntKind.bits,IntKind.signed]
theorem tj{x:Int}(h:qj x):(BitVec.ofInt 32 x).toNat=x.toNat:=by
 obtain⟨a,rfl⟩:=Int.eq_ofNat_of_zero_le h.1;rw[BitVec.ofInt_natCast,BitVec.toNat_ofNat];have:=h.2;simp only[Int.toNat_natCast];exact Nat.mod_eq_of_lt (by omega)
theorem AQ(op:BinOp){a b:Int}(ha:qj a)(hb:qj b)(r:Nat):ib (bits op .u32 a b) r=match op with|.and=>ib a r&&ib b r|.or=>ib a r||ib b r|.xor=>ib a r ^^ ib b r|_=>ib a r&&!ib b r:=by
 have key:∀ v:BitVec 32,ib (IntKind.u32.wrap (v.toNat:Int)) r=v.getLsbD r:=by
  intro v;have:=v.isLt;unfold ib;rw[X1,Int.emod_eq_of_lt (by omega) (by omega),Int.toNat_natCast];rfl
 have ga:(BitVec.ofInt 32 a).getLsbD r=ib a r:=by unfold BitVec.getLsbD;rw[tj ha];rfl
 have gb:(BitVec.ofInt 32 b).getLsbD r=ib b r:=by unfold BitVec.getLsbD;rw[tj hb];rfl
 have ac0:ib a r=true→r<32:=fun h=>by rw[← ga] at h;exact BitVec.lt_of_getLsbD h
 unfold bits;show ib (IntKind.u32.wrap ((BitVec.toNat (match op with|.and=>BitVec.ofInt 32 a&&&BitVec.ofInt 32 b|.or=>BitVec.ofInt 32 a|||BitVec.ofInt 32 b|.xor=>BitVec.ofInt 32 a ^^^ BitVec.ofInt 32 b|_=>BitVec.ofInt 32 a&&&~~~BitVec.ofInt 32 b):Nat):Int)) r=_;rw[key];cases op<;>simp only[BitVec.getLsbD_and,BitVec.getLsbD_or,BitVec.getLsbD_xor,BitVec.getLsbD_not,ga,gb] <;>
 ·cases h:ib a r<;>simp;intro _;exact ac0 h
theorem V6(k r:Nat):ib ((2:Int)^k) r=decide (k=r):=by
 unfold ib;rw[show((2:Int)^k).toNat=2^k by rw[show((2:Int)^k)=((2^k:Nat):Int) by simp];exact Int.toNat_natCast _,Nat.testBit_two_pow]
theorem Gn{x:Int}(h:0≤x):x=0↔∀ r,ib x r=false:=⟨fun e r=>by rw[e];exact iK r,fun H=>yg h (Int.le_refl _) fun r=>by rw[H r,iK]⟩
theorem Y7{x:Int}(h:qj x){r:Nat}(hr:ib x r=true):r<32:=by
 refine Classical.byContradiction fun hn=>?_
 unfold ib at hr;have h2:x.toNat<2^r:=Nat.lt_of_lt_of_le (show x.toNat<2^32 by have:=h.2;have:=h.1;omega) (Nat.pow_le_pow_right (by decide) (by omega));rw[Nat.testBit_lt_two_pow h2] at hr;cases hr
theorem ZM(k:Nat):qj (nX k):=by
 unfold nX;split
 ·rename_i h;refine⟨Int.pow_nonneg (by decide),?_⟩;have h2:(2:Nat)^k<2^32:=Nat.pow_lt_pow_right (by decide) h;rw[show((2:Int)^k)=((2^k:Nat):Int) by simp];omega
 ·exact⟨Int.le_refl _,by decide⟩
theorem Iq{p:Int}(hp:qj p){k:Nat}(hk:k<32):decide (bits .and .u32 p (nX k)=0)=!ib p k:=by
 have h:=AQ .and hp (ZM k);have hb:∀ r,ib (nX k) r=decide (k=r):=fun r=>by unfold nX;rw[if_pos hk];exact V6 k r
 cases e:ib p k with
 | true=>
  rw[decide_eq_false];rfl;intro h0;have h1:=h k;rw[h0,iK,e,hb] at h1;simp at h1
 | false=>
  rw[decide_eq_true];rfl;refine(Gn (qp _ _ _).1).2 fun r=>?_
  rw[h r,hb];by_cases hkr:k=r
  ·subst hkr;simp[e]
  ·simp[hkr]
def Gv(l:List (aj×Int))(kind cls:Int)(s t k r:Nat):Prop:=∃ y∈l,y.1.kind=kind∧y.1.cls=cls∧ib y.1.perms k=true∧mR y.1 s t=true∧ib y.2 r=true
structure OI (l:List (aj×Int)):Prop where
 perms:∀ y∈l,qj y.1.perms
 Bv:∀ y∈l,uH y.2
theorem Jo{s t:Int}{k:Nat}(hk:k<32):∀ (l:List (aj×Int)) (x:Int),OI l→uH x→uH (l.foldl (w_ s t (nX k)) x)∧∀ r,ib (l.foldl (w_ s t (nX k)) x) r=(ib x r&&l.all fun y=>!(ib y.1.perms k&&mR y.1 s t&&ib y.2 r))
 | [],x,_,hx=>⟨hx,fun r=>by simp⟩
 | y::l,x,hl,hx=>by
  have hl':OI l:=⟨fun z hz=>hl.perms z (by simp[hz]),fun z hz=>hl.Bv z (by simp[hz])⟩;have hy:=hl.perms y (by simp);have hw:=hl.Bv y (by simp);rw[List.foldl_cons]
  have e:w_ s t (nX k) x y=if (ib y.1.perms k&&mR y.1 s t)=true then bits .andNot .u64 x y.2 else x:=by
   unfold w_;rw[Iq hy hk];cases ib y.1.perms k<;>cases mR y.1 s t<;>rfl
  have hx':uH (w_ s t (nX k) x y):=by rw[e];split;exact dD _ _ _;exact hx
  obtain⟨h1,h2⟩:=Jo hk l _ hl' hx';refine⟨h1,fun r=>?_⟩;rw[h2 r,e,List.all_cons];split
  ·rename_i hc;rw[kM .andNot hx hw r,hc,Bool.true_and,← Bool.and_assoc]
  ·rename_i hc;rw[show(ib y.1.perms k&&mR y.1 s t)=false by simpa using hc];simp
theorem Pk{l:List (aj×Int)}{x:Int}(hl:OI l)(hx:uH x){s t:Int}{k:Nat}(hk:k<32):Q9 x l s t (nX k)=true↔∀ r,ib x r=true→∃ y∈l,ib y.1.perms k=true∧mR y.1 s t=true∧ib y.2 r=true:=by
 obtain⟨h1,h2⟩:=Jo (s:=s) (t:=t) hk l x hl hx;unfold Q9;rw[decide_eq_true_iff,Gn h1.1];constructor
 ·intro H r hr;have h:=H r;rw[h2 r,hr,Bool.true_and,List.all_eq_false] at h;obtain⟨y,hy,hn⟩:=h;refine⟨y,hy,?_⟩;simpa[avM,and_assoc] using hn
 ·intro H r;rw[h2 r]
  cases e:ib x r with
  | false=>rfl
  | true=>
   obtain⟨y,hy,a1,a2,a3⟩:=H r e;rw[Bool.true_and,List.all_eq_false];exact⟨y,hy,by simp[a1,a2,a3]⟩
theorem Zs(r:aj){s t:Nat}(hs:s<256)(ht:t<256):mR r s t=(r.src.has s&&(r.tgt.has t||r.self&&decide (s=t))):=by
 have e1:∀ (a:ay) (n:Nat),n<256→a.mem (n:Int)=a.has n:=fun a n hn=>by
  unfold ay.mem;rw[Int.toNat_natCast,decide_eq_true (by omega:(0:Int)≤n∧(n:Int)<256),Bool.true_and]
 have e2:decide ((s:Int)=(t:Int))=decide (s=t):=decide_eq_decide.2 (by omega);unfold mR;rw[e1 _ _ hs,e1 _ _ ht,e2]
theorem lJ{r:aj}{s t:Nat}(hs:s<256)(ht:t<256):mR r s t=true↔(s,t)∈r.pairs:=by
 rw[Zs r hs ht,bT hs ht,avM]
theorem YU{x y:aj}(hx:qj x.perms)(hy:qj y.perms)(h1:y.kind=x.kind)(h2:y.cls=x.cls){k:Nat}(hk1:ib x.perms k=true)(hk2:ib y.perms k=true):mh x y=true:=by
 unfold mh;rw[decide_eq_true h1,decide_eq_true h2,decide_eq_false];rfl;intro h0;have h:=AQ .and hy hx k;rw[h0,iK,hk1,hk2] at h;cases h
theorem G3{x:aj×Int}{l:List (aj×Int)}(hx:qj x.1.perms)(hw:uH x.2)(hl:OI l):iG x l=true↔∀ s t k r:Nat,s<256→t<256→mR x.1 s t=true→ib x.1.perms k=true→ib x.2 r=true→Gv l x.1.kind x.1.cls s t k r:=by
 have hf:OI (l.filter fun y=>mh x.1 y.1):=⟨fun y hy=>hl.perms y (List.mem_filter.1 hy).1,fun y hy=>hl.Bv y (List.mem_filter.1 hy).1⟩;unfold iG;rw[Bool.or_eq_true,decide_eq_true_iff];constructor
 ·intro H s t k r hs ht hg hk hr;rcases H with H|H
  ·rw[H,iK] at hr;cases hr
  ·have CR:=Y7 hx hk;have h:=avH.1 (avH.1 H (s,t) ((lJ hs ht).1 hg)) k (List.mem_range.2 CR);unfold Lc at h;rw[Iq hx CR,hk] at h;obtain⟨y,hy,a1,a2,a3⟩:=(Pk hf hw CR).1 (by simpa using h) r hr;obtain⟨b1,b2⟩:=List.mem_filter.1 hy;unfold mh at b2;simp only[avM,decide_eq_true_iff] at b2;exact⟨y,b1,b2.1.1,b2.1.2,a1,a2,a3⟩
 ·intro H;refine .inr (avH.2 fun p hp=>avH.2 fun k hk=>?_);have CR:=List.mem_range.1 hk;obtain⟨hs,ht⟩:=jw hp;unfold Lc;rw[Iq hx CR]
  cases e:ib x.1.perms k with
  | false=>rfl
  | true=>
   have:Q9 x.2 (l.filter fun y=>mh x.1 y.1) p.1 p.2 (nX k)=true:=(Pk hf hw CR).2 fun r hr=>by
    obtain⟨y,hy,a1,a2,a3,a4,a5⟩:=H p.1 p.2 k r hs ht ((lJ hs ht).2 hp) e hr;exact⟨y,List.mem_filter.2 ⟨hy,YU hx (hl.perms y hy) a1 a2 e a3⟩,a3,a4,a5⟩
   rw[this];rfl
theorem AO{a b:List (aj×Int)}(ha:OI a)(hb:OI b):vE a b=true↔∀ (kind cls:Int) (s t k r:Nat),s<256→t<256→Gv a kind cls s t k r→Gv b kind cls s t k r:=by
 unfold vE;rw[avH];constructor
 ·rintro H kind cls s t k r hs ht ⟨y,hy,rfl,rfl,a3,a4,a5⟩;exact(G3 (ha.perms y hy) (ha.Bv y hy) hb).1 (H y hy) s t k r hs ht a4 a3 a5
 ·intro H x hx;exact(G3 (ha.perms x hx) (ha.Bv x hx) hb).2 fun s t k r hs ht hg hk hr=>H _ _ s t k r hs ht ⟨x,hx,rfl,rfl,hk,hg,hr⟩
def D9(n r:Nat)(op a:Int)(l:List Bool):Bool:=
 if dG n op a l.length=true then false else if op=1 then r.testBit a.toNat else if op=2 then !(l.getD 0 false) else
  if op=3 then l.getD 0 false&&l.getD 1 false else if op=4 then l.getD 0 false||l.getD 1 false else if op=6 then !(l.getD 0 false ^^ l.getD 1 false) else l.getD 0 false ^^ l.getD 1 false
mutual
def jH(n r:Nat):ak→Bool
 | .node op a _ _ _ _ kids=>D9 n r op a (XW n r kids)
def XW(n r:Nat):List ak→List Bool
 | []=>[]
 | k::l=>jH n r k::XW n r l
end
theorem nV(n r:Nat)(e:ak):jH n r e=D9 n r e.op e.a (XW n r e.kids):=by cases e;rw[jH];rfl
theorem Af{n:Nat}(h:n≤5):uH (aG n):=by
 unfold uH aG;rcases five h with rfl|rfl|rfl|rfl|rfl|rfl<;>decide
theorem vH(n r:Nat):ib (aG n) r=decide (r<2^n):=Y6 (2^n) r
theorem Bw:uH 18446744073709551615:=by unfold uH;decide
theorem nZ:uH 0:=by unfold uH;decide
theorem Ni(u x:Int):uH (notM u x):=dD _ _ _
theorem tZ{n:Nat}(hn:n≤5){x:Int}(hx:uH x)(r:Nat):ib (notM (aG n) x) r=(decide (r<2^n)&&!ib x r):=by
 have h6:=nt6 hn;unfold notM;rw[kM .and (dD _ _ _) (Af hn),kM .xor Bw hx,Gp,vH];by_cases h:r<2^n
 ·simp[h,show r<64 by omega]
 ·simp[h]
theorem Dx{i:Int}{k:Nat}(hk:k<64):jY i k=k.testBit i.toNat:=by
 unfold jY
 have e:((0*64+(k:Int))/2^i.toNat)=((k/2^i.toNat:Nat):Int):=by
  rw[show(0*64+(k:Int))=(k:Int) by omega,Int.natCast_ediv];simp
 have hd:k/2^i.toNat<64:=Nat.lt_of_le_of_lt (Nat.div_le_self _ _) hk;have hb:=(bits_nat .i64 63 (by decide) (fun n h0 h1=>by rw[IntKind.wrap_i64];omega) (k/2^i.toNat) 1 (by omega) (by decide)).1;rw[e];have h1:((1:Nat):Int)=1:=rfl;rw[h1] at hb;rw[hb,Nat.and_one_is_mod,Nat.testBit_eq_decide_div_mod_eq];exact decide_eq_decide.2 (by omega)
theorem EG{k:Nat}(h:k<64):∃ m:Nat,(2:Int)^k=(m:Int)∧m<18446744073709551616:=
 ⟨2^k,by simp,Nat.pow_lt_pow_right (by decide) h⟩
theorem sA(i:Int):∀ k,uH (eP i k)
 | 0=>nZ
 | k+1=>by
  unfold eP;split
  ·exact dD _ _ _
  ·exact sA i k
theorem yh(i:Int)(afJ:∀ k:Nat,k<64→jY i k=k.testBit i.toNat):∀ k,k≤64→∀ r,ib (eP i k) r=(decide (r<k)&&r.testBit i.toNat)
 | 0,_,r=>by unfold eP;rw[iK];simp
 | k+1,hk,r=>by
  have ih:=yh i afJ k (by omega) r;have hb:=afJ k (by omega)
  have hp:IntKind.u64.wrap (1*2^((k:Int)).toNat)=(2:Int)^k:=by
   rw[Fx,Int.toNat_natCast,Int.one_mul];obtain⟨m,e,hm⟩:=EG (by omega:k<64);rw[e];omega
  have hw:uH ((2:Int)^k):=by
   obtain⟨m,e,hm⟩:=EG (by omega:k<64);unfold uH;rw[e];omega
  unfold eP;rw[hb,hp];split
  ·rename_i hc;rw[kM .or (sA i k) hw,ih,V6];by_cases e:k=r
   ·subst e;simp[hc]
   ·have:decide (r<k+1)=decide (r<k):=decide_eq_decide.2 (by omega);simp[e,this]
  ·rename_i hc;rw[ih];by_cases e:r=k
   ·subst e;simp[show r.testBit i.toNat=false by simpa using hc]
   ·have:decide (r<k+1)=decide (r<k):=decide_eq_decide.2 (by omega);rw[this]
theorem ZK(u i:Int):uH (zI u i):=dD _ _ _
theorem Y8{n:Nat}(hn:n≤5)(i:Int)(r:Nat):ib (zI (aG n) i) r=(decide (r<2^n)&&r.testBit i.toNat):=by
 have h6:=nt6 hn;unfold zI;rw[kM .and (sA i 64) (Af hn),yh i (fun k hk=>Dx hk) 64 (Nat.le_refl _),vH];by_cases h:r<2^n
 ·simp[h,show r<64 by omega]
 ·simp[h]
theorem adw{u op x y:Int}:uH (Ei u op x y):=by
 unfold Ei;split
 ·exact dD _ _ _
 ·split
  ·exact dD _ _ _
  ·split<;>exact dD _ _ _
theorem lN{n:Nat}(hn:n≤5):∀ e:ak,uH (bJ (aG n) n e)∧∀ r,ib (bJ (aG n) n e) r=(decide (r<2^n)&&jH n r e):=by
 refine ak.ind fun e ih=>?_
 have hlen:∀ l:List ak,(og (aG n) n l).length=l.length:=fun l=>by induction l with
  | nil=>rw[og];rfl
  | cons k l h=>rw[og,List.length_cons,h,List.length_cons]
 have afG:∀ (r:Nat) (l:List ak),(XW n r l).length=l.length:=fun r l=>by induction l with
  | nil=>rw[XW];rfl
  | cons k l h=>rw[XW,List.length_cons,h,List.length_cons]
 have hget:∀ (l:List ak),(∀ k∈l,uH (bJ (aG n) n k)∧∀ r,ib (bJ (aG n) n k) r=(decide (r<2^n)&&jH n r k))→∀ i,uH ((og (aG n) n l).getD i 0)∧∀ r,ib ((og (aG n) n l).getD i 0) r=(decide (r<2^n)&&(XW n r l).getD i false):=by
  intro l
  induction l with
  | nil=>intro _ i;rw[og];exact⟨nZ,fun r=>by rw[XW];simp[iK]⟩
  | cons k l h=>
   intro H i;rw[og]
   cases i with
   | zero=>exact⟨(H k (by simp)).1,fun r=>by rw[XW];exact(H k (by simp)).2 r⟩
   | succ i=>
    have:=h (fun k hk=>H k (by simp[hk])) i;exact⟨this.1,fun r=>by rw[XW];exact this.2 r⟩
 have h0:=hget e.kids ih 0;have h1:=hget e.kids ih 1;rw[uL];unfold Me;constructor
 ·split
  ·exact nZ
  ·split
   ·exact ZK _ _
   ·split
    ·exact Ni _ _
    ·exact adw
 ·intro r;rw[nV];unfold D9;rw[hlen,afG];split
  ·rw[iK];simp
  ·split
   ·exact Y8 hn e.a r
   ·split
    ·rw[tZ hn h0.1,h0.2];by_cases hr:r<2^n<;>simp[hr]
    ·unfold Ei;split
     ·rw[kM .and h0.1 h1.1,h0.2,h1.2];by_cases hr:r<2^n<;>simp[hr]
     ·split
      ·rw[kM .or h0.1 h1.1,h0.2,h1.2];by_cases hr:r<2^n<;>simp[hr]
      ·split
       ·rw[show bits .and .u64 (bits .xor .u64 18446744073709551615 (bits .xor .u64 ((og (aG n) n e.kids).getD 0 0) ((og (aG n) n e.kids).getD 1 0))) (aG n)=notM (aG n) (bits .xor .u64 ((og (aG n) n e.kids).getD 0 0) ((og (aG n) n e.kids).getD 1 0)) from rfl,tZ hn (dD _ _ _),kM .xor h0.1 h1.1,h0.2,h1.2];by_cases hr:r<2^n<;>simp[hr]
       ·rw[kM .xor h0.1 h1.1,h0.2,h1.2];by_cases hr:r<2^n<;>simp[hr]
def Aw(n:Nat)(conds:List ak)(k:Int)(r:Nat):Bool:=
 if 0<k∧k≤conds.length then (match conds[(k-1).toNat]? with|some e=>jH n r e|none=>false)
 else if k<0∧0-(conds.length:Int)≤k then !(match conds[(0-k-1).toNat]? with|some e=>jH n r e|none=>false)
 else true
theorem Oz{n:Nat}(hn:n≤5)(conds:List ak)(k:Int):uH (eu (aG n) n conds k)∧∀ r,ib (eu (aG n) n conds k) r=(decide (r<2^n)&&Aw n conds k r):=by
 unfold eu Aw;by_cases h1:0<k∧k≤conds.length
 ·rw[if_pos h1]
  cases h:conds[(k-1).toNat]? with
  | some e=>exact⟨(lN hn e).1,fun r=>by rw[if_pos h1];exact(lN hn e).2 r⟩
  | none=>exact⟨nZ,fun r=>by rw[if_pos h1,iK];exact(Bool.and_false _).symm⟩
 ·rw[if_neg h1];by_cases h2:k<0∧0-(conds.length:Int)≤k
  ·rw[if_pos h2];refine⟨Ni _ _,fun r=>?_⟩;rw[if_neg h1,if_pos h2]
   cases h:conds[(0-k-1).toNat]? with
   | some e=>
    show ib (notM (aG n) (bJ (aG n) n e)) r=(decide (r<2^n)&&!jH n r e);rw[tZ hn (lN hn e).1,(lN hn e).2];by_cases hr:r<2^n<;>simp[hr]
   | none=>
    show ib (notM (aG n) 0) r=(decide (r<2^n)&&!false);rw[tZ hn nZ,iK]
  ·rw[if_neg h2];refine⟨Ni _ _,fun r=>?_⟩;rw[if_neg h1,if_neg h2,tZ hn nZ,iK];simp
def AL(T C:Nat)(r:aj)(p:Nat×Nat):Nat:=(((r.kind-1).toNat*T+p.1)*T+p.2)*C+r.cls.toNat
def xE(at_:Nat)(v:Int)(out:List Int):List Int:=out.set at_ (bits .or .u32 (out.getD at_ 0) v)
def oD(T C:Nat)(r:aj)(out:List Int)(l:List (Nat×Nat)):List Int:=l.foldl (fun o p=>xE (AL T C r p) r.perms o) out
def dV(T C:Nat)(on:aj→Bool)(out:List Int)(l:List aj):List Int:=l.foldl (fun o r=>if on r=true then oD T C r o r.pairs else o) out
structure RV (T C:Nat) (r:aj):Prop where
 kind:1≤r.kind∧r.kind≤4
 cls:0≤r.cls∧r.cls<C
 perms:qj r.perms
 pairs:∀ p∈r.pairs,p.1<T∧p.2<T
theorem JD(i:Nat)(v:Int)(o:List Int):(xE i v o).length=o.length:=List.length_set ..
theorem vg(T C:Nat)(r:aj):∀ (l:List (Nat×Nat)) (o:List Int),(oD T C r o l).length=o.length
 | [],_=>rfl
 | p::l,o=>by
  show(oD T C r (xE (AL T C r p) r.perms o) l).length=_;rw[vg T C r l,JD]
theorem pS(T C:Nat)(on:aj→Bool):∀ (l:List aj) (o:List Int),(dV T C on o l).length=o.length
 | [],_=>rfl
 | r::l,o=>by
  show(dV T C on (if on r=true then oD T C r o r.pairs else o) l).length=_;rw[pS T C on l];split
  ·exact vg ..
  ·rfl
theorem YE{i:Nat}{v:Int}{o:List Int}(hv:qj v)(ho:∀ x∈o,qj x)(hi:i<o.length):(∀ x∈xE i v o,qj x)∧∀ j k,ib ((xE i v o).getD j 0) k=(ib (o.getD j 0) k||(decide (i=j)&&ib v k)):=by
 have hg:qj (o.getD i 0):=by rw[avN,avw hi];exact ho _ (List.getElem_mem hi)
 constructor
 ·intro x hx;rcases List.mem_or_eq_of_mem_set hx with hx|rfl
  ·exact ho x hx
  ·exact qp _ _ _
 ·intro j k;by_cases e:i=j
  ·subst e;rw[show(xE i v o).getD i 0=bits .or .u32 (o.getD i 0) v by unfold xE;rw[avN,List.getElem?_set_self hi];rfl,AQ .or hg hv];simp
  ·rw[show(xE i v o).getD j 0=o.getD j 0 by unfold xE;rw[avN,List.getElem?_set_ne e,← avN]];simp[e]
theorem afe{T C:Nat}{r:aj}(h:RV T C r){p:Nat×Nat}(hp:p∈r.pairs):AL T C r p<4*T*T*C:=by
 obtain⟨h1,h2⟩:=h.pairs p hp;have hk:(r.kind-1).toNat≤3:=by have:=h.kind;omega
 have hc:r.cls.toNat<C:=by have:=h.cls;omega
 unfold AL;generalize (r.kind-1).toNat=K at hk ⊢;generalize r.cls.toNat=c at hc ⊢
 have e1:K*T+p.1+1≤4*T:=by
  have:K*T≤3*T:=avz T hk;omega
 have e2:(K*T+p.1)*T+p.2+1≤4*T*T:=by
  have:=avz T e1;rw[Nat.add_mul,Nat.one_mul] at this;omega
 have e3:=avz C e2;rw[Nat.add_mul,Nat.one_mul] at e3;omega
theorem VR{T C K c s t K' c' s' t':Nat}(hc:c<C)(hc':c'<C)(hs:s<T)(hs':s'<T)(ht:t<T)(ht':t'<T)(h:((K*T+s)*T+t)*C+c=((K'*T+s')*T+t')*C+c'):K=K'∧s=s'∧t=t'∧c=c':=by
 have key:∀ {x y a b m:Nat},a<m→b<m→x*m+a=y*m+b→x=y∧a=b:=by
  intro x y a b m ha hb e;have e1:(x*m+a)/m=x:=by rw[Nat.mul_comm,Nat.mul_add_div (by omega),Nat.div_eq_of_lt ha];omega
  have e2:(y*m+b)/m=y:=by rw[Nat.mul_comm,Nat.mul_add_div (by omega),Nat.div_eq_of_lt hb];omega
  have hx:x=y:=by rw[← e1,e,e2]
  subst hx;exact⟨rfl,by omega⟩
 obtain⟨h1,h2⟩:=key hc hc' h;obtain⟨h3,h4⟩:=key ht ht' h1;obtain⟨h5,h6⟩:=key hs hs' h3;exact⟨h5,h6,h4,h2⟩
theorem PA{T C:Nat}{r:aj}(hv:qj r.perms):∀ (l:List (Nat×Nat)) (o:List Int),(∀ x∈o,qj x)→(∀ p∈l,AL T C r p<o.length)→(∀ x∈oD T C r o l,qj x)∧∀ j k,ib ((oD T C r o l).getD j 0) k=(ib (o.getD j 0) k||(l.any fun p=>decide (AL T C r p=j))&&ib r.perms k)
 | [],o,ho,_=>⟨ho,fun j k=>by show ib (o.getD j 0) k=_;simp⟩
 | p::l,o,ho,hl=>by
  obtain⟨h1,h2⟩:=YE hv ho (hl p (by simp));obtain⟨h3,h4⟩:=PA hv l (xE (AL T C r p) r.perms o) h1 (fun q hq=>by rw[JD];exact hl q (by simp[hq]));refine⟨h3,fun j k=>?_⟩;show ib ((oD T C r (xE (AL T C r p) r.perms o) l).getD j 0) k=_;rw[h4,h2,List.any_cons];cases ib (o.getD j 0) k<;>cases decide (AL T C r p=j)<;>cases ib r.perms k<;>simp
theorem yw{T C:Nat}{on:aj→Bool}:∀ (l:List aj) (o:List Int),(∀ r∈l,RV T C r)→(∀ x∈o,qj x)→o.length=4*T*T*C→(∀ x∈dV T C on o l,qj x)∧∀ j k,ib ((dV T C on o l).getD j 0) k=(ib (o.getD j 0) k||l.any fun r=>(on r&&r.pairs.any fun p=>decide (AL T C r p=j))&&ib r.perms k)
 | [],o,_,ho,_=>⟨ho,fun j k=>by show ib (o.getD j 0) k=_;simp⟩
 | r::l,o,hl,ho,hn=>by
  have hr:=hl r (by simp);have hl':∀ r∈l,RV T C r:=fun q hq=>hl q (by simp[hq])
  cases e:on r with
  | false=>
   obtain⟨h3,h4⟩:=yw l o hl' ho hn;have e':dV T C on o (r::l)=dV T C on o l:=by show dV T C on (if on r=true then _ else o) l=_;rw[e];rfl
   rw[e'];refine⟨h3,fun j k=>?_⟩;rw[h4,List.any_cons,e];simp
  | true=>
   obtain⟨h1,h2⟩:=PA (T:=T) (C:=C) hr.perms r.pairs o ho (fun p hp=>by rw[hn];exact afe hr hp);obtain⟨h3,h4⟩:=yw (on:=on) l (oD T C r o r.pairs) hl' h1 (by rw[vg];exact hn);have e':dV T C on o (r::l)=dV T C on (oD T C r o r.pairs) l:=by show dV T C on (if on r=true then _ else o) l=_;rw[e];rfl
   rw[e'];refine⟨h3,fun j k=>?_⟩;rw[h4,h2,List.any_cons,e];simp[Bool.or_assoc]
def bU(T C:Nat)(on:aj→Bool)(l:List aj):List Int:=dV T C on (List.replicate (4*T*T*C) 0) l
theorem gJ(T C:Nat)(on:aj→Bool)(l:List aj):(bU T C on l).length=4*T*T*C:=by unfold bU;rw[pS,List.length_replicate]
theorem YB(n j:Nat):(List.replicate n (0:Int)).getD j 0=0:=by
 rw[avN,List.getElem?_replicate];split<;>rfl
theorem lI{T C:Nat}{on:aj→Bool}{l:List aj}(hl:∀ r∈l,RV T C r):(∀ x∈bU T C on l,qj x)∧∀ j k,ib ((bU T C on l).getD j 0) k=l.any fun r=>(on r&&r.pairs.any fun p=>decide (AL T C r p=j))&&ib r.perms k:=by
 obtain⟨h1,h2⟩:=yw (on:=on) l (List.replicate (4*T*T*C) 0) hl (fun x hx=>by rw[(List.mem_replicate.1 hx).2];exact⟨Int.le_refl _,by decide⟩) List.length_replicate;refine⟨h1,fun j k=>?_⟩;unfold bU;rw[h2,YB,iK,Bool.false_or]
theorem yx{T C:Nat}{on on':aj→Bool}{l l':List aj}(hl:∀ r∈l,RV T C r)(hl':∀ r∈l',RV T C r):bU T C on l=bU T C on' l' ↔
 ∀ (kind cls:Int) (s t k:Nat),s<256→t<256→((∃ r∈l,on r=true∧r.kind=kind∧r.cls=cls∧ib r.perms k=true∧mR r s t=true)↔∃ r∈l',on' r=true∧r.kind=kind∧r.cls=cls∧ib r.perms k=true∧mR r s t=true):=by
 obtain⟨a1,a2⟩:=lI (on:=on) hl;obtain⟨b1,b2⟩:=lI (on:=on') hl'
 have look:∀ {on:aj→Bool} {l:List aj},(∀ r∈l,RV T C r)→∀ {x:aj} {s t:Nat},RV T C x→s<256→t<256→s<T→t<T→∀ k,((l.any fun r=>(on r&&r.pairs.any fun p=>decide (AL T C r p=AL T C x (s,t)))&&ib r.perms k)=true↔∃ r∈l,on r=true∧r.kind=x.kind∧r.cls=x.cls∧ib r.perms k=true∧mR r s t=true):=by
  intro on l hl x s t hx hs ht hsT htT k;rw[List.any_eq_true];constructor
  ·rintro⟨r,hr,h⟩;simp only[avM,List.any_eq_true,decide_eq_true_iff] at h;obtain⟨⟨h1,p,hp,h2⟩,h3⟩:=h;have hv:=hl r hr;obtain⟨g1,g2⟩:=hv.pairs p hp;have c1:=hv.cls;have c2:=hx.cls;have k1:=hv.kind;have k2:=hx.kind;obtain⟨e1,e2,e3,e4⟩:=VR (by omega) (by omega) g1 hsT g2 htT h2;refine⟨r,hr,h1,by omega,by omega,h3,?_⟩;rw[lJ hs ht];have:p=(s,t):=Prod.ext e2 e3
   rwa [← this]
  ·rintro⟨r,hr,h1,h2,h3,h4,h5⟩;refine⟨r,hr,?_⟩;rw[h1,h4,Bool.true_and,Bool.and_true,List.any_eq_true];exact⟨(s,t),(lJ hs ht).1 h5,decide_eq_true (by unfold AL;rw[h2,h3])⟩
 constructor
 ·intro H kind cls s t k hs ht
  have one:∀ {on on':aj→Bool} {l l':List aj},(∀ r∈l,RV T C r)→(∀ r∈l',RV T C r)→bU T C on l=bU T C on' l'→(∃ r∈l,on r=true∧r.kind=kind∧r.cls=cls∧ib r.perms k=true∧mR r s t=true)→∃ r∈l',on' r=true∧r.kind=kind∧r.cls=cls∧ib r.perms k=true∧mR r s t=true:=by
   rintro on on' l l' hl hl' H ⟨r,hr,h1,rfl,rfl,h4,h5⟩;have hv:=hl r hr;obtain⟨g1,g2⟩:=hv.pairs _ ((lJ hs ht).1 h5);refine(look hl' hv hs ht g1 g2 k).1 ?_;rw[← (lI hl').2,← H,(lI hl).2];exact(look hl hv hs ht g1 g2 k).2 ⟨r,hr,h1,rfl,rfl,h4,h5⟩
  exact⟨one hl hl' H,one hl' hl H.symm⟩
 ·intro H;refine List.ext_getElem? fun j=>?_
  have el:∀ {o:List Int} {j:Nat},j<o.length→o[j]?=some (o.getD j 0):=fun hj=>by rw[avN,avw hj];rfl
  by_cases hj:j<4*T*T*C
  ·rw[el (by rw[gJ];exact hj),el (by rw[gJ];exact hj)];congr 1;have m1:qj ((bU T C on l).getD j 0):=a1 _ (avs (el (by rw[gJ];exact hj)));have m2:qj ((bU T C on' l').getD j 0):=b1 _ (avs (el (by rw[gJ];exact hj)));refine yg m1.1 m2.1 fun k=>?_
   rw[a2,b2]
   have one:∀ {on on':aj→Bool} {l l':List aj},(∀ r∈l,RV T C r)→(∀ r∈l',RV T C r) →
    (∀ (kind cls:Int) (s t k:Nat),s<256→t<256→(∃ r∈l,on r=true∧r.kind=kind∧r.cls=cls∧ib r.perms k=true∧mR r s t=true)→∃ r∈l',on' r=true∧r.kind=kind∧r.cls=cls∧ib r.perms k=true∧mR r s t=true) →
    (l.any fun r=>(on r&&r.pairs.any fun p=>decide (AL T C r p=j))&&ib r.perms k)=true→(l'.any fun r=>(on' r&&r.pairs.any fun p=>decide (AL T C r p=j))&&ib r.perms k)=true:=by
    intro on on' l l' hl hl' H h;obtain⟨r,hr,h⟩:=List.any_eq_true.1 h;simp only[avM,List.any_eq_true,decide_eq_true_iff] at h;obtain⟨⟨h1,p,hp,rfl⟩,h3⟩:=h;have hv:=hl r hr;obtain⟨g1,g2⟩:=hv.pairs p hp;obtain⟨q1,q2⟩:=jw hp;exact(look hl' hv q1 q2 g1 g2 k).2 (H _ _ _ _ _ q1 q2 ⟨r,hr,h1,rfl,rfl,h3,(lJ q1 q2).2 hp⟩)
   rw[Bool.eq_iff_iff];exact⟨one hl hl' fun kind cls s t k hs ht=>(H kind cls s t k hs ht).1,one hl' hl fun kind cls s t k hs ht=>(H kind cls s t k hs ht).2⟩
  ·rw[List.getElem?_eq_none (by rw[gJ];omega),List.getElem?_eq_none (by rw[gJ];omega)]
def rlM(nB:Nat)(conds:List ak)(l:List aj):List (aj×Int):=l.map fun y=>(y,eu (aG nB) nB conds (Gx y))
theorem ML{nB:Nat}(hn:nB≤5){conds:List ak}{l:List aj}(hl:∀ r∈l,qj r.perms):OI (rlM nB conds l):=by
 constructor
 ·intro y hy;obtain⟨r,hr,rfl⟩:=avD.1 hy;exact hl r hr
 ·intro y hy;obtain⟨r,hr,rfl⟩:=avD.1 hy;exact(Oz hn _ _).1
theorem qJ{nB:Nat}(hn:nB≤5){conds:List ak}{l:List aj}(h4:∀ r∈l,r.kind=4→r.cond=0){kind cls:Int}{s t k n:Nat}:Gv (rlM nB conds l) kind cls s t k n↔n<2^nB∧∃ r∈l,Aw nB conds r.cond n=true∧r.kind=kind∧r.cls=cls∧ib r.perms k=true∧mR r s t=true:=by
 have hg:∀ r∈l,Gx r=r.cond:=fun r hr=>by
  unfold Gx;split
  ·rename_i h;exact(h4 r hr h).symm
  ·rfl
 constructor
 ·rintro⟨y,hy,h1,h2,h3,h5,h6⟩;obtain⟨r,hr,rfl⟩:=avD.1 hy;rw[(Oz hn _ _).2,hg r hr,avM,decide_eq_true_iff] at h6;exact⟨h6.1,r,hr,h6.2,h1,h2,h3,h5⟩
 ·rintro⟨hn2,r,hr,h0,h1,h2,h3,h5⟩;exact⟨_,avD.2 ⟨r,hr,rfl⟩,h1,h2,h3,h5,by rw[(Oz hn _ _).2,hg r hr,h0,decide_eq_true hn2];rfl⟩
theorem Vz{T C nB:Nat}(hn:nB≤5){ca cb:List ak}{la lb:List aj}(ha:∀ r∈la,RV T C r)(hb:∀ r∈lb,RV T C r)(ha4:∀ r∈la,r.kind=4→r.cond=0)(hb4:∀ r∈lb,r.kind=4→r.cond=0):
 (∀ n,n<2^nB→bU T C (fun r=>Aw nB ca r.cond n) la=bU T C (fun r=>Aw nB cb r.cond n) lb)↔(vE (rlM nB ca la) (rlM nB cb lb)=true∧vE (rlM nB cb lb) (rlM nB ca la)=true):=by
 have oa:=ML hn (conds:=ca) fun r hr=>(ha r hr).perms
 have ob:=ML hn (conds:=cb) fun r hr=>(hb r hr).perms
 rw[AO oa ob,AO ob oa];constructor
 ·intro H
  exact⟨fun kind cls s t k n hs ht h=>by
   rw[qJ hn ha4] at h;rw[qJ hn hb4]
   exact⟨h.1,((yx ha hb).1 (H n h.1) kind cls s t k hs ht).1 h.2⟩,fun kind cls s t k n hs ht h=>by
   rw[qJ hn hb4] at h;rw[qJ hn ha4];exact⟨h.1,((yx ha hb).1 (H n h.1) kind cls s t k hs ht).2 h.2⟩⟩
 ·rintro⟨H1,H2⟩ n hn2;refine(yx ha hb).2 fun kind cls s t k hs ht=>⟨fun h=>?_,fun h=>?_⟩
  ·have:=H1 kind cls s t k n hs ht ((qJ hn ha4).2 ⟨hn2,h⟩);exact((qJ hn hb4).1 this).2
  ·have:=H2 kind cls s t k n hs ht ((qJ hn hb4).2 ⟨hn2,h⟩);exact((qJ hn ha4).1 this).2
def iU{α:Type}(l:List α)(o:List Nat)(m:Nat):List α:=(List.range l.length).filterMap fun k=>if (o.contains k||decide (k=m))=true then none else l[k]?
def fF(l:List (aj×Int)):Nat→List Nat
 | 0=>[]
 | m+1=>match l[m]? with
  | some x=>if iG x (iU l (fF l m) m)=true then fF l m++[m] else fF l m
  | none=>fF l m
theorem oC(l:List (aj×Int)):∀ m,∀ k∈fF l m,k<m
 | 0,k,h=>by cases h
 | m+1,k,h=>by
  unfold fF at h;split at h
  ·split at h
   ·rcases avB.1 h with h|h
    ·have:=oC l m k h;omega
    ·rw[avy.1 h];omega
   ·have:=oC l m k h;omega
  ·have:=oC l m k h;omega
theorem tU{α:Type}{l:List α}{o:List Nat}{m:Nat}{y:α}:y∈iU l o m↔∃ k,k∉o∧k≠m∧l[k]?=some y:=by
 unfold iU;rw[List.mem_filterMap];constructor
 ·rintro⟨k,hk,h⟩;split at h
  ·cases h
  ·rename_i hc;simp only[Bool.or_eq_true,List.contains_eq_mem,decide_eq_true_iff,not_or] at hc;exact⟨k,by simpa using hc.1,hc.2,h⟩
 ·rintro⟨k,h1,h2,h3⟩;refine⟨k,List.mem_range.2 (avG.1 h3).1,?_⟩;rw[if_neg (by simp[h1,h2])];exact h3
def kg{α:Type}(l:List α)(o:List Nat):List α:=(List.range l.length).filterMap fun k=>if o.contains k=true then none else l[k]?
theorem mem_left{α:Type}{l:List α}{o:List Nat}{y:α}:y∈kg l o↔∃ k,k∉o∧l[k]?=some y:=by
 unfold kg;rw[List.mem_filterMap];constructor
 ·rintro⟨k,hk,h⟩;split at h
  ·cases h
  ·rename_i hc;exact⟨k,by simpa using hc,h⟩
 ·rintro⟨k,h1,h3⟩;refine⟨k,List.mem_range.2 (avG.1 h3).1,?_⟩;rw[if_neg (by simpa using h1)];exact h3
theorem VG{α β:Type}(f:α→β)(l:List α)(o:List Nat):kg (l.map f) o=(kg l o).map f:=by
 unfold kg;rw[avE,List.map_filterMap];congr 1
 funext k
 split
 ·rfl
 ·rw[avF]
def jK(a b:List (aj×Int)):Prop:=∀ (kind cls:Int) (s t k r:Nat),s<256→t<256→(Gv a kind cls s t k r↔Gv b kind cls s t k r)
theorem OI.sub{l l':List (aj×Int)}(h:OI l)(hs:∀ y∈l',y∈l):OI l':=⟨fun y hy=>h.perms y (hs y hy),fun y hy=>h.Bv y (hs y hy)⟩
theorem JW{α:Type}{l:List α}{o:List Nat}:∀ y∈kg l o,y∈l:=fun y hy=>by
 obtain⟨k,-,h⟩:=mem_left.1 hy;exact avs h
theorem Cd{α:Type}{l:List α}{o:List Nat}{m:Nat}:∀ y∈iU l o m,y∈l:=fun y hy=>by
 obtain⟨k,-,-,h⟩:=tU.1 hy;exact avs h
theorem KJ{l:List (aj×Int)}(hl:OI l){o:List Nat}{m:Nat}{x:aj×Int}(hx:l[m]?=some x)(hm:m∉o):iG x (iU l o m)=true↔jK (kg l (o++[m])) (kg l o):=by
 have hxm:=avs hx;rw[G3 (hl.perms x hxm) (hl.Bv x hxm) (hl.sub Cd)]
 have e:∀ y,y∈kg l (o++[m])↔y∈iU l o m:=fun y=>by
  rw[mem_left,tU];constructor
  ·rintro⟨k,h1,h2⟩;exact⟨k,fun h=>h1 (avB.2 (.inl h)),fun h=>h1 (avB.2 (.inr (avy.2 h))),h2⟩
  ·rintro⟨k,h1,h2,h3⟩;exact⟨k,fun h=>(avB.1 h).elim h1 fun h=>h2 (avy.1 h),h3⟩
 constructor
 ·intro H kind cls s t k r hs ht;constructor
  ·rintro⟨y,hy,h⟩;obtain⟨j,h1,h2⟩:=mem_left.1 hy;exact⟨y,mem_left.2 ⟨j,fun h=>h1 (avB.2 (.inl h)),h2⟩,h⟩
  ·rintro⟨y,hy,h1,h2,h3,h4,h5⟩;obtain⟨j,g1,g2⟩:=mem_left.1 hy;by_cases ej:j=m
   ·subst ej;obtain rfl:x=y:=avx (hx.symm.trans g2);obtain⟨z,hz,h⟩:=H s t k r hs ht h4 h3 h5;exact⟨z,(e z).2 hz,by rw[← h1,← h2];exact h⟩
   ·exact⟨y,(e y).2 (tU.2 ⟨j,g1,ej,g2⟩),h1,h2,h3,h4,h5⟩
 ·intro H s t k r hs ht hg hk hr;obtain⟨z,hz,h⟩:=(H x.1.kind x.1.cls s t k r hs ht).2 ⟨x,mem_left.2 ⟨m,hm,hx⟩,rfl,rfl,hk,hg,hr⟩;exact⟨z,(e z).1 hz,h⟩
theorem jK.refl(a:List (aj×Int)):jK a a:=fun _ _ _ _ _ _ _ _=>Iff.rfl
theorem jK.trans{a b c:List (aj×Int)}(h:jK a b)(h':jK b c):jK a c:=fun _ _ _ _ _ _ hs ht=>(h _ _ _ _ _ _ hs ht).trans (h' _ _ _ _ _ _ hs ht)
theorem jK.symm{a b:List (aj×Int)}(h:jK a b):jK b a:=fun _ _ _ _ _ _ hs ht=>(h _ _ _ _ _ _ hs ht).symm
theorem VF{α:Type}(l:List α):kg l []=l:=by
 have key:∀ (n:Nat),n≤l.length→(List.range n).filterMap (fun k=>if ([]:List Nat).contains k=true then none else l[k]?)=l.take n:=by
  intro n
  induction n with
  | zero=>intro _;rfl
  | succ n ih=>
   intro hn;rw[List.range_succ,avL,ih (by omega),List.take_add_one];rfl
 unfold kg;rw[key l.length (Nat.le_refl _),avA]
theorem oB{l:List (aj×Int)}(hl:OI l):∀ m,jK (kg l (fF l m)) l
 | 0=>by unfold fF;rw[VF];exact .refl _
 | m+1=>by
  unfold fF;split
  ·rename_i x hx;split
   ·rename_i hc;exact((KJ hl hx (fun h=>Nat.lt_irrefl _ (oC l m m h))).1 hc).trans (oB hl m)
   ·exact oB hl m
  ·exact oB hl m
theorem U7{l:List (aj×Int)}(hl:OI l){m:Nat}{x:aj×Int}(hx:l[m]?=some x):iG x (iU l (fF l m) m)=true↔jK (kg l (fF l m++[m])) l:=by
 rw[KJ hl hx (fun h=>Nat.lt_irrefl _ (oC l m m h))];exact⟨fun h=>h.trans (oB hl m),fun h=>h.trans (oB hl m).symm⟩
section
variable {ops:Array Oper} {Q:Exit→Act→World→Prop} {rest:List Oper} {a:Act} {B:Nat} {w w0:World} {o:Oper} {bs:List Bx} {rs:List Rw} {mb:Nat} {L:List (Int×Value)}
theorem air(hg:o.guard=none){t e:TypeId}{m x:Operand}{k:Int}(ho:o.op=.call { callee:=.builtin .delete,args:=#[m,x],argTypes:=#[t,3] })(ht:Tryz.prog.underlying t=some (.map 3 e))(hm:a.eval m=.map (some mb))(hx:a.eval x=.int .i64 k)(hk:iX k)(hd:o.dst=none)(M:aV B w0 w bs rs)(i:Nat)(h:bs[i]?=some (mb,9003,eC L))(hin:(jT L k).isSome=true)
 (next:∀ w',aV B w0 w' (bs.set i (mb,9003,eC (iq L k))) rs→wpList Tryz.prog ops Q rest a w'):wpList Tryz.prog ops Q (o::rest) a w:=
 sN w hg m x t 3 ho _ _ hm hx _ (M.aij ht i h hk hin) fun w' M'=>by
  rw[hd];exact next w' M'
end
def lval(z:(aj×Int)×Nat):Value:=.agg (ni z).toArray
def IQ(N:List ((aj×Int)×Nat))(A:Nat→Bool)(L:List (Int×Value)):Prop:=∀ k:Nat,jT L (k:Int)=if A k=true then (N[k]?).map lval else none
section
variable {N:List ((aj×Int)×Nat)} {A A':Nat→Bool} {L:List (Int×Value)} {m:Nat} {z:(aj×Int)×Nat}
theorem IQ.congr(h:IQ N A L)(e:∀ k,k<N.length→A' k=A k):IQ N A' L:=fun k=>by
 rw[h k];by_cases hk:k<N.length
 ·rw[e k hk]
 ·rw[List.getElem?_eq_none (by omega)];split<;>split<;>rfl
theorem IQ.put(h:IQ N A L)(hz:N[m]?=some z):IQ N (fun k=>decide (k=m)||A k) (((m:Int),lval z)::iq L (m:Int)):=fun k=>by
 rw[AB];by_cases e:k=m
 ·subst e;simp[hz]
 ·rw[if_neg (by omega),h k];simp[e]
theorem IQ.cut(h:IQ N A L):IQ N (fun k=>A k&&!decide (k=m)) (iq L (m:Int)):=fun k=>by
 rw[Gh];by_cases e:k=m
 ·subst e;simp
 ·rw[if_neg (by omega),h k];simp[e]
theorem IQ.yes(h:IQ N A L){k:Nat}(hA:A k=true)(hz:N[k]?=some z):jT L (k:Int)=some (lval z):=by rw[h k,if_pos hA,hz];rfl
theorem IQ.no(h:IQ N A L){k:Nat}(hA:A k=false):jT L (k:Int)=none:=by rw[h k,if_neg (by rw[hA];decide)]
theorem IQ.nil:IQ N (fun k=>decide (k<0)) []:=fun k=>by simp[jT]
end
def fq{α:Type}(l:List α)(o:List Nat)(m n:Nat):List α:=(List.range n).filterMap fun k=>if (o.contains k||decide (k=m))=true then none else l[k]?
section
variable {α:Type} {l:List α} {o:List Nat} {m j:Nat} {z:α}
theorem YI(hz:l[j]?=some z)(h:(o.contains j||decide (j=m))=false):fq l o m (j+1)=fq l o m j++[z]:=by
 unfold fq;rw[List.range_succ,avL,List.filterMap_cons,if_neg (by rw[h];decide),hz];rfl
theorem abR(h:(o.contains j||decide (j=m))=true):fq l o m (j+1)=fq l o m j:=by
 unfold fq;rw[List.range_succ,avL,List.filterMap_cons,if_pos h];simp
theorem PE{β:Type}(f:α→β):(iU l o m).map f=iU (l.map f) o m:=by
 unfold iU;rw[avE,List.map_filterMap];congr 1
 funext k
 split
 ·rfl
 ·rw[avF]
theorem PG:∀ n,(fq l o m n).length≤n:=fun n=>avr (List.length_filterMap_le _ _) (by simp)
end
section
variable {N:List ((aj×Int)×Nat)} {o:List Nat} {m:Nat} {z:(aj×Int)×Nat}
theorem YC(ho:o=fF (N.map (·.1)) m)(hz:N[m]?=some z)(h:iG z.1 ((iU N o m).map (·.1))=true):o++[m]=fF (N.map (·.1)) (m+1):=by
 rw[fF,avF,hz,← ho];show _=if iG z.1 (iU (N.map (·.1)) o m)=true then o++[m] else o
 rw[← PE,if_pos h]
theorem abP(ho:o=fF (N.map (·.1)) m)(hz:N[m]?=some z)(h:iG z.1 ((iU N o m).map (·.1))=false):o=fF (N.map (·.1)) (m+1):=by
 rw[fF,avF,hz,← ho];show _=if iG z.1 (iU (N.map (·.1)) o m)=true then o++[m] else o
 rw[← PE,if_neg (by rw[h];decide)]
theorem YD(ho:o=fF (N.map (·.1)) m):o.contains m=false:=by
 cases h:o.contains m with
 | false=>rfl
 | true=>
  have:m∈o:=by simpa using h
  rw[ho] at this;exact absurd (oC _ _ _ this) (Nat.lt_irrefl _)
end
theorem YJ{N:List ((aj×Int)×Nat)}{o:List Nat}{m j:Nat}{z:(aj×Int)×Nat}{v:Value}{e:TypeId}{k:Nat}{rs:List Rw}(hz:N[j]?=some z)(h:(o.contains j||decide (j=m))=false):
 (⟨v,e,k,(fq N o m j).length+1,(fq N o m j).flatMap ni++ni z⟩::rs:List Rw)=⟨v,e,k,(fq N o m (j+1)).length,(fq N o m (j+1)).flatMap ni⟩::rs:=by
 rw[YI hz h,avJ,avK,List.flatMap_cons,List.flatMap_nil,List.append_nil];rfl
theorem qx{x:Option Value}{v z:Value}(h:x=some v):Value.tuple #[x.getD z,.bool x.isSome]=.tuple #[v,.bool true]:=by rw[h];rfl
theorem qy{x:Option Value}{z:Value}(h:x=none):Value.tuple #[x.getD z,.bool x.isSome]=.tuple #[z,.bool false]:=by rw[h];rfl
theorem cG.sub{α:Type}{w:World}{b:Nat}{N N':List ((α×Int)×Nat)}(h:cG w b N)(hs:∀ z∈N',z∈N):cG w b N':=fun z hz=>h z (hs z hz)
theorem PD{α:Type}{l:List α}{o:List Nat}{m:Nat}:∀ z∈iU l o m,z∈l:=Cd
theorem YZ{p:aA}(hok:p.Ok){N:List ((aj×Int)×Nat)}{f:aj→Int}(hN:N.map (·.1)=p.rules.map fun y=>(y,f y)):∀ z∈N,z.1.1.Ok:=fun z hz=>by
 have:z.1∈N.map (·.1):=avD.2 ⟨z,hz,rfl⟩;rw[hN] at this;obtain⟨r,hr,e⟩:=avD.1 this;rw[← e];exact⟨(hok.rules r hr).src,(hok.rules r hr).tgt⟩
theorem su(o:List Nat)(m:Nat):ints o++[Value.int .i64 (m:Int)]=ints (o++[m]):=by unfold ints;rw[avI];rfl
def vf(p:aA):List Nat:=fF (eZ p) p.rules.length
theorem Pv(l:List (aj×Int)):∀ m,(fF l m).length≤m
 | 0=>Nat.le_refl _
 | m+1=>by
  have:=Pv l m;unfold fF;split
  ·split
   ·rw[avJ];simp;omega
   ·omega
  ·omega
theorem tg(w0:World)(c0 c1 c2 c3 c4 c5 c6 c7 c8 c9 aQ aL aK aP aO aN aM:Value)(p:aA)(hp:aJ w0 c0 c1 c2 c3 c4 c5 c6 c7 c8 c9 aQ aL aK aP aO aN aM p)(hok:p.Ok)(hn:p.bools.length≤5)(hcl:p.conds.length≤1000)(hcr:p.rules.length≤900):Calls Tryz.prog 27 #[.agg #[c0,c1,c2,c3,c4,c5,c6,c7,c8,c9,aQ,aL,aK,aP,aO,aN,aM]] w0 (fun(r:Ending) (w':World)=>∃ v,r=.returned v∧((w'.ownsRow w0.heap.size 3 1 v (vf p).length (ints (vf p)))∧avn w0.heap.size w0 w')):=by
 obtain⟨iz,iy,rfl,hk5,hm5,NZ⟩:=SliceAt.form hp.bools (by decide);obtain⟨Y0,VE,rfl,hk9,hm9,Wp⟩:=SliceAt.form hp.rules (by decide);have ct:=hr1 Tryz.prog Tryz.f27 (fun(r:Ending) (w':World)=>∃ v,r=.returned v∧((w'.ownsRow w0.heap.size 3 1 v (vf p).length (ints (vf p)))∧avn w0.heap.size w0 w')) 66 2 rfl;refine en Tryz.func27 rfl Tryz.ntmps27 rfl (vs:=[.agg #[c0,c1,c2,c3,c4,.slice iz p.bools.length iy,c6,c7,c8,.slice Y0 p.rules.length VE,aQ,aL,aK,aP,aO,aN,aM]]) rfl fun _ F=>?_
 have M:=Mm.start w0;refine avo fun K1 jq=>ah<|PZ (on rfl) rfl (F.u rf) rfl F rfl M fun g1 _ _ F M=>xA (v:=.slice none 0 0) F rf rf rf fun _ F=>avp<|jq _ _ ?_
 refine avo fun K2 jW=>ah<|xW F (M.b 0 rfl) rf rf rf O_ rf BO rf fun _ F=>kt (on rfl) (fO rfl Tryz.func78 aic rfl (args1 (F.u rf))) (Cx _ _ _ _ _ _ _ _ _ _ _ _ _ _ _ _ _ _ p (hp.keep M.below) hok hn hcl (by omega)) rfl F rfl fun v9 _ w1 hR F=>?_
 obtain⟨⟨N,D8,hoR,hN⟩,hB1⟩:=hR;have Fq:=(M.below).trans (hB1.mono (M.below).size);have HS1:=M.below.trans (hB1.mono M.below.size);have aiM:∀ j uu,[c0,c1,c2,c3,c4,.slice iz p.bools.length iy,c6,c7,c8,.slice Y0 p.rules.length VE,aQ,aL,aK,aP,aO,aN,aM][j]?=some uu→w1.cell? ⟨g1,0+j,none⟩=some uu:=fun j u hu=>by rw[Nat.zero_add];exact((Whole.under hB1 (M.b 0 rfl) (M.b 0 rfl).lt).cell j).trans (by simpa using hu)
 replace M:=Mm.start w1;have hLs:=SliceAt.bq hoR (ES N);obtain⟨ra,rc,rfl,hrc,hrm,Wb⟩:=hLs.form (by decide)
 have hNl:N.length=p.rules.length:=by
  have h:=congrArg List.length D8;simpa using h
 refine xA F rf rf rf fun _ F=>avp<|jW _ _ ?_
 refine avo fun K3 pR=>ah<|kmk (on rfl) rfl rfl F rfl M fun mb _ _ F M=>xA F rf rf rf fun _ F=>avp<|pR _ _ ?_
 refine avo fun K4 p9=>avo fun K5 q5=>ah<|xM F rf rf rf fun _ F=>kz F rf (h_ rfl (F.u rf) zU) fun _ F=>xM (v:=.int .i64 0) F rf rf rf fun _ F=>avp<|q5 _ _ ?_
 refine avt<|?_;refine gj (ι:=Nat×List (Int×Value)) (fun|(t,L),a,w=>Fs a 66 [(3,.slice ra N.length rc),(4,(.map (some mb))),(17,.slice ra N.length rc),(18,.int .i64 (N.length:Int)),(19,.int .i64 (t:Int))]∧Mm w1 w [(mb,9003,eC L)] []∧t≤N.length∧IQ N (fun k=>decide (k<t)) L) (fun|(t,L)=>N.length-t) (0,[]) ⟨F.sub ⟨rfl,rfl,rfl,rfl,rfl,trivial⟩,M,avu _,IQ.nil⟩ ?_
 (repeat clear F);(repeat clear M)
 rintro⟨t,L⟩ _ _ ⟨F,M,hm,hLv⟩;refine avo fun K6 tu=>ah<|kz F rf (kO rfl (F.u rf) (F.u rf)) fun _ F=>avp<|tu _ _ ?_
 refine avo fun K7 vK=>?_
 refine avq (F.e 20 rfl) (fun hc2=>?_) (fun hc2=>?_)
 ·have hd3:=of_decide_eq_true hc2;refine wp_skip<|vK _ _ ?_;refine avo fun K8 CW=>avt<|avo fun K9 AV=>?_
  have hltz:t<N.length:=by omega
  obtain⟨z,hz⟩:∃ z,N[t]?=some z:=⟨_,avw hltz⟩;obtain⟨bz,obz,rfl,acF⟩:=Wb t hltz
  have acg:∀ j uu,[.int .i64 z.1.1.kind,.int .u64 z.1.1.src.a,.int .u64 z.1.1.src.b,.int .u64 z.1.1.src.c,.int .u64 z.1.1.src.d,.int .u64 z.1.1.tgt.a,.int .u64 z.1.1.tgt.b,.int .u64 z.1.1.tgt.c,.int .u64 z.1.1.tgt.d,.bool z.1.1.self,.int .i64 z.1.1.cls,.int .u32 z.1.1.perms,.int .i64 z.1.1.cond,.slice (some ⟨z.2,0,none⟩) 1 1][j]?=some uu→w1.cell? ⟨bz,obz+t*14+j,none⟩=some uu:=fun j u hu=>acF j u (by
   rw[nr xY hz j (avG.1 hu).1];exact hu)
  refine ah<|xM F rf rf rf fun _ F=>
   kz F rf (cB (i:=t) rfl (F.u rf) (F.u rf) (by omega) zU j5) fun _ F=>
   kz F rf (g_ [.int .i64 z.1.1.kind,.int .u64 z.1.1.src.a,.int .u64 z.1.1.src.b,.int .u64 z.1.1.src.c,.int .u64 z.1.1.src.d,.int .u64 z.1.1.tgt.a,.int .u64 z.1.1.tgt.b,.int .u64 z.1.1.tgt.c,.int .u64 z.1.1.tgt.d,.bool z.1.1.self,.int .i64 z.1.1.cls,.int .u32 z.1.1.perms,.int .i64 z.1.1.cond,.slice (some ⟨z.2,0,none⟩) 1 1] rfl (F.u rf) Jf rfl j5 (bY M.below acg)) fun _ F=>
   NJ (on rfl) rfl yV rfl F rfl M fun g4 _ _ F M=>
   xA F rf rf rf fun _ F=>
   ND (on rfl) rfl (F.u rf) (F.u rf) F M 0 rfl j5 rfl rfl rfl fun _ M=>
   avp<|
   AV _ _ ?_
  refine ah<|xM F rf rf rf fun _ F=>xM F rf rf rf fun _ F=>xW F (M.b 0 rfl) rf rf rf Jf rf j5 rf fun _ F=>
   kmp rfl rfl rfl UD (F.u rf) (F.u rf) (F.u rf) (by constructor<;>omega) M 1 rfl fun _ M=>
   avp<|
   CW _ _ ?_
  refine ah<|
   ke (on rfl) (gN rfl (F.u rf) rfl) rfl F rfl (congrArg (Value.int .i64) (wrap_i64 (by omega))) fun _ F=>
   xM F rf rf rf fun _ F=>
   avp<|?_
  exact⟨(t+1,((t:Int),.agg #[.int .i64 z.1.1.kind,.int .u64 z.1.1.src.a,.int .u64 z.1.1.src.b,.int .u64 z.1.1.src.c,.int .u64 z.1.1.src.d,.int .u64 z.1.1.tgt.a,.int .u64 z.1.1.tgt.b,.int .u64 z.1.1.tgt.c,.int .u64 z.1.1.tgt.d,.bool z.1.1.self,.int .i64 z.1.1.cls,.int .u32 z.1.1.perms,.int .i64 z.1.1.cond,.slice (some ⟨z.2,0,none⟩) 1 1])::iq L (t:Int)),⟨F.sub ⟨rfl,rfl,rfl,rfl,rfl,trivial⟩,(M.only (.cons _ (.cons_cons _ .slnil)) .slnil),by omega,(hLv.put hz).congr fun k _=>by rw[← Bool.decide_or];exact decide_eq_decide.2 (by omega)⟩,by show N.length-(t+1)<N.length-t;omega⟩
 ·have Wn:=of_decide_eq_false hc2;refine wp_exit<|p9 _ _ ?_;refine avo fun X0 nP=>?_
  have M:=M.bB 3 1;refine ah<|xA (v:=.slice none 0 0) F rf rf rf fun _ F=>avp<|nP _ _ ?_
  refine avo fun K11 ud=>avo fun K12 t_=>?_
  have afl:=YZ hok D8;refine ah<|xM F rf rf rf fun _ F=>kz F rf (h_ rfl (F.u rf) zU) fun _ F=>xM (v:=.int .i64 0) F rf rf rf fun _ F=>avp<|t_ _ _ ?_
  refine avt<|?_;refine gj (ι:=Nat×Value×List Nat×List (Int×Value)) (fun|(m,v,o,L),a,w=>Fs a 66 [(3,.slice ra N.length rc),(4,(.map (some mb))),(7,v),(28,.slice ra N.length rc),(29,.int .i64 (N.length:Int)),(30,.int .i64 (m:Int))]∧Mm w1 w [(mb,9003,eC L)] [⟨v,3,1,o.length,ints o⟩]∧m≤N.length∧o=fF (N.map (·.1)) m∧IQ N (fun k=>!o.contains k) L) (fun|(m,v,o,L)=>N.length-m) (0,.slice none 0 0,[],L) ⟨F.sub ⟨rfl,rfl,rfl,rfl,rfl,rfl,trivial⟩,M,avu _,rfl,hLv.congr fun k hk=>by simp;omega⟩ ?_
  (repeat clear F);(repeat clear M)
  rintro⟨m,v,o,L⟩ _ _ ⟨F,M,hm,ho,hLv⟩;refine avo fun K13 sH=>ah<|kz F rf (kO rfl (F.u rf) (F.u rf)) fun _ F=>avp<|sH _ _ ?_
  refine avo fun K14 yq=>?_
  refine avq (F.e 31 rfl) (fun yj=>?_) (fun yj=>?_)
  ·have hd7:=of_decide_eq_true yj;refine wp_skip<|yq _ _ ?_;refine avo fun K15 vL=>avt<|avo fun K16 Gu=>?_
   have hltz:m<N.length:=by omega
   obtain⟨z,hz⟩:∃ z,N[m]?=some z:=⟨_,avw hltz⟩;obtain⟨bz,obz,rfl,acF⟩:=Wb m hltz
   have acg:∀ j uu,[.int .i64 z.1.1.kind,.int .u64 z.1.1.src.a,.int .u64 z.1.1.src.b,.int .u64 z.1.1.src.c,.int .u64 z.1.1.src.d,.int .u64 z.1.1.tgt.a,.int .u64 z.1.1.tgt.b,.int .u64 z.1.1.tgt.c,.int .u64 z.1.1.tgt.d,.bool z.1.1.self,.int .i64 z.1.1.cls,.int .u32 z.1.1.perms,.int .i64 z.1.1.cond,.slice (some ⟨z.2,0,none⟩) 1 1][j]?=some uu→w1.cell? ⟨bz,obz+m*14+j,none⟩=some uu:=fun j u hu=>acF j u (by
    rw[nr xY hz j (avG.1 hu).1];exact hu)
   have hmo:=YD ho
   refine ah<|xM F rf rf rf fun _ F=>
    kz F rf (cB (i:=m) rfl (F.u rf) (F.u rf) (by omega) zU j5) fun _ F=>
    kz F rf (g_ [.int .i64 z.1.1.kind,.int .u64 z.1.1.src.a,.int .u64 z.1.1.src.b,.int .u64 z.1.1.src.c,.int .u64 z.1.1.src.d,.int .u64 z.1.1.tgt.a,.int .u64 z.1.1.tgt.b,.int .u64 z.1.1.tgt.c,.int .u64 z.1.1.tgt.d,.bool z.1.1.self,.int .i64 z.1.1.cls,.int .u32 z.1.1.perms,.int .i64 z.1.1.cond,.slice (some ⟨z.2,0,none⟩) 1 1] rfl (F.u rf) Jf rfl j5 (bY M.below acg)) fun _ F=>
    NJ (on rfl) rfl yV rfl F rfl M fun g8 _ _ F M=>
    xA F rf rf rf fun _ F=>
    ND (on rfl) rfl (F.u rf) (F.u rf) F M 0 rfl j5 rfl rfl rfl fun _ M=>
    avp<|
    Gu _ _ ?_
   refine avo fun K17 WE=>ah<|xM F rf rf rf fun _ F=>xM F rf rf rf fun _ F=>
    air rfl rfl UD (F.u rf) (F.u rf) (by constructor<;>omega) rfl M 1 rfl (by rw[hLv.yes (by rw[hmo];rfl) hz];rfl) fun _ M=>
    avp<|
    WE _ _ ?_
   refine avo fun K18 acW=>?_
   have M:=M.bB 146 14;refine ah<|xA (v:=.slice none 0 0) F rf rf rf fun _ F=>avp<|acW _ _ ?_
   refine avo fun K19 acV=>avo fun K20 acU=>ah<|xM F rf rf rf fun _ F=>kz F rf (h_ rfl (F.u rf) zU) fun _ F=>xM (v:=.int .i64 0) F rf rf rf fun _ F=>avp<|acU _ _ ?_
   refine avt<|?_;refine gj (ι:=Nat×Value) (fun|(j,v2),a,w=>Fs a 66 [(3,.slice (some ⟨bz,obz,none⟩) N.length rc),(4,(.map (some mb))),(7,v),(8,.int .i64 (m:Int)),(9,.pointer (some ⟨g8,0,none⟩)),(10,v2),(28,.slice (some ⟨bz,obz,none⟩) N.length rc),(29,.int .i64 (N.length:Int)),(30,.int .i64 (m:Int)),(38,.int .i64 (N.length:Int)),(39,.int .i64 (j:Int))]∧Mm w1 w [(g8,146,#[.int .i64 z.1.1.kind,.int .u64 z.1.1.src.a,.int .u64 z.1.1.src.b,.int .u64 z.1.1.src.c,.int .u64 z.1.1.src.d,.int .u64 z.1.1.tgt.a,.int .u64 z.1.1.tgt.b,.int .u64 z.1.1.tgt.c,.int .u64 z.1.1.tgt.d,.bool z.1.1.self,.int .i64 z.1.1.cls,.int .u32 z.1.1.perms,.int .i64 z.1.1.cond,.slice (some ⟨z.2,0,none⟩) 1 1]),(mb,9003,eC (iq L (m:Int)))] [⟨v2,146,14,(fq N o m j).length,(fq N o m j).flatMap ni⟩,⟨v,3,1,o.length,ints o⟩]∧j≤N.length) (fun|(j,v2)=>N.length-j) (0,.slice none 0 0) ⟨F.sub ⟨rfl,rfl,rfl,rfl,rfl,rfl,rfl,rfl,rfl,rfl,rfl,trivial⟩,M,avu _⟩ ?_
   (repeat clear F);(repeat clear M)
   rintro⟨j,v2⟩ _ _ ⟨F,M,hj⟩;refine avo fun K21 acT=>ah<|kz F rf (kO rfl (F.u rf) (F.u rf)) fun _ F=>avp<|acT _ _ ?_
   refine avo fun K22 acS=>?_
   refine avq (F.e 40 rfl) (fun hc9=>?_) (fun hc9=>?_)
   ·have ajd:=of_decide_eq_true hc9;refine wp_skip<|acS _ _ ?_;refine avo fun K23 Zp=>avt<|avo fun K24 acR=>ah<|xM F rf rf rf fun _ F=>xA F rf rf rf fun _ F=>avp<|acR _ _ ?_
    refine avo fun K25 Zo=>?_
    have hlty:j<N.length:=by omega
    obtain⟨y,hy⟩:∃ y,N[j]?=some y:=⟨_,avw hlty⟩
    cases afy:((o.contains j||decide (j=m)):Bool) with
    | true=>
     have hoff:(o.contains j||decide (j=m))=true:=afy;have hlk:=hLv.cut.no (k:=j) (by rw[← Bool.not_or,hoff];rfl)
     refine ah<|xM F rf rf rf fun _ F=>xM F rf rf rf fun _ F=>
      ke (on rfl) (GW (z:=.agg #[.int .i64 0,.int .u64 0,.int .u64 0,.int .u64 0,.int .u64 0,.int .u64 0,.int .u64 0,.int .u64 0,.int .u64 0,.bool false,.int .i64 0,.int .u32 0,.int .i64 0,.slice none 0 0]) UD (by kernel_rfl) M 1 rfl rfl (F.u rf) (F.u rf) (by constructor<;>omega)) rfl F rfl (show _=.tuple #[.agg #[.int .i64 0,.int .u64 0,.int .u64 0,.int .u64 0,.int .u64 0,.int .u64 0,.int .u64 0,.int .u64 0,.int .u64 0,.bool false,.int .i64 0,.int .u32 0,.int .i64 0,.slice none 0 0],.bool false] from qy hlk) fun _ F=>
      xM F rf rf rf fun _ F=>
      kz F rf (bW rfl (F.u rf) rfl) fun _ F=>
      kz F rf (bW rfl (F.u rf) rfl) fun _ F=>
      NJ (on rfl) rfl yV rfl F rfl M fun g12 _ _ F M=>
      ND (on rfl) rfl (F.u rf) (F.u rf) F M 0 rfl j5 rfl rfl rfl fun _ M=>
      xA F rf rf rf fun _ F=>
      avp<|
      Zo _ _ ?_
     refine avo fun K26 acQ=>ah<|xM F rf rf rf fun _ F=>avp<|acQ _ _ ?_
     refine wp_cond_false (F.e 48 rfl) ?_;refine wp_skip<|Zp _ _ ?_
     refine ah<|
      ke (on rfl) (gN rfl (F.u rf) rfl) rfl F rfl (congrArg (Value.int .i64) (wrap_i64 (by omega))) fun _ F=>
      xM F rf rf rf fun _ F=>
      avp<|?_
     exact⟨(j+1,v2),⟨F.sub ⟨rfl,rfl,rfl,rfl,rfl,rfl,rfl,rfl,rfl,rfl,rfl,trivial⟩,((M.only (.cons _ (.cons_cons _ (.cons_cons _ .slnil))) (.cons_cons _ (.cons_cons _ .slnil)))).cast rfl (by rw[abR hoff]),by omega⟩,by show N.length-(j+1)<N.length-j;omega⟩
    | false=>
     have hoff:(o.contains j||decide (j=m))=false:=afy;have hlk:=hLv.cut.yes (k:=j) (by rw[← Bool.not_or,hoff];rfl) hy
     refine ah<|xM F rf rf rf fun _ F=>xM F rf rf rf fun _ F=>
      ke (on rfl) (GW (z:=.agg #[.int .i64 0,.int .u64 0,.int .u64 0,.int .u64 0,.int .u64 0,.int .u64 0,.int .u64 0,.int .u64 0,.int .u64 0,.bool false,.int .i64 0,.int .u32 0,.int .i64 0,.slice none 0 0]) UD (by kernel_rfl) M 1 rfl rfl (F.u rf) (F.u rf) (by constructor<;>omega)) rfl F rfl (show _=.tuple #[.agg #[.int .i64 y.1.1.kind,.int .u64 y.1.1.src.a,.int .u64 y.1.1.src.b,.int .u64 y.1.1.src.c,.int .u64 y.1.1.src.d,.int .u64 y.1.1.tgt.a,.int .u64 y.1.1.tgt.b,.int .u64 y.1.1.tgt.c,.int .u64 y.1.1.tgt.d,.bool y.1.1.self,.int .i64 y.1.1.cls,.int .u32 y.1.1.perms,.int .i64 y.1.1.cond,.slice (some ⟨y.2,0,none⟩) 1 1],.bool true] from qx hlk) fun _ F=>
      xM F rf rf rf fun _ F=>
      kz F rf (bW rfl (F.u rf) rfl) fun _ F=>
      kz F rf (bW rfl (F.u rf) rfl) fun _ F=>
      NJ (on rfl) rfl yV rfl F rfl M fun g13 _ _ F M=>
      ND (on rfl) rfl (F.u rf) (F.u rf) F M 0 rfl j5 rfl rfl rfl fun _ M=>
      xA F rf rf rf fun _ F=>
      avp<|
      Zo _ _ ?_
     refine avo fun K27 acP=>ah<|xM F rf rf rf fun _ F=>avp<|acP _ _ ?_
     refine wp_cond_true (F.e 48 rfl) ?_;have apc:=PG (l:=N) (o:=o) (m:=m) j
     refine ah<|xM F rf rf rf fun _ F=>xW F (M.b 0 rfl) rf rf rf Jf rf j5 rf fun _ F=>
      kl (on rfl) rfl zU j5 yV rfl (pv:=#[(0,.agg #[.int .i64 y.1.1.kind,.int .u64 y.1.1.src.a,.int .u64 y.1.1.src.b,.int .u64 y.1.1.src.c,.int .u64 y.1.1.src.d,.int .u64 y.1.1.tgt.a,.int .u64 y.1.1.tgt.b,.int .u64 y.1.1.tgt.c,.int .u64 y.1.1.tgt.d,.bool y.1.1.self,.int .i64 y.1.1.cls,.int .u32 y.1.1.perms,.int .i64 y.1.1.cond,.slice (some ⟨y.2,0,none⟩) 1 1])]) (by simp[(F.e 50 rfl)]) (cells:=#[.int .i64 y.1.1.kind,.int .u64 y.1.1.src.a,.int .u64 y.1.1.src.b,.int .u64 y.1.1.src.c,.int .u64 y.1.1.src.d,.int .u64 y.1.1.tgt.a,.int .u64 y.1.1.tgt.b,.int .u64 y.1.1.tgt.c,.int .u64 y.1.1.tgt.d,.bool y.1.1.self,.int .i64 y.1.1.cls,.int .u32 y.1.1.perms,.int .i64 y.1.1.cond,.slice (some ⟨y.2,0,none⟩) 1 1]) (by kernel_rfl) rfl F rfl M fun g14 _ _ F M=>
      kp (on rfl) rfl zU V1 rfl M 0 rfl (F.u rf) (F.u rf) (M.slice 0 rfl rfl rfl (by simp[maxLen])) ⟨by unfold maxLen;omega,by omega⟩ rfl F rfl fun v15 _ _ F M=>
      xA F rf rf rf fun _ F=>
      avp<|
      Zp _ _ ?_
     refine ah<|
      ke (on rfl) (gN rfl (F.u rf) rfl) rfl F rfl (congrArg (Value.int .i64) (wrap_i64 (by omega))) fun _ F=>
      xM F rf rf rf fun _ F=>
      avp<|?_
     exact⟨(j+1,v15),⟨F.sub ⟨rfl,rfl,rfl,rfl,rfl,rfl,rfl,rfl,rfl,rfl,rfl,trivial⟩,((M.only (.cons _ (.cons _ (.cons_cons _ (.cons_cons _ .slnil)))) (.cons_cons _ (.cons_cons _ .slnil)))).cast rfl (YJ hy hoff),by omega⟩,by show N.length-(j+1)<N.length-j;omega⟩
   ·have apI:=of_decide_eq_false hc9;refine wp_exit<|acV _ _ ?_;refine avo fun K28 acO=>?_
    have hjN:j=N.length:=by omega
    subst hjN
    have hol:((iU N o m).map (·.1)).length≤1000:=by
     rw[avE];exact avr (PG N.length) (by omega)
    refine ah<|xW F (M.b 0 rfl) rf rf rf Jf rf j5 rf fun _ F=>xM F rf rf rf fun _ F=>
     xC F M rf rf q80 (args2 (F.u rf) (F.u rf)) (zG _ z.1 (afl z (avs hz)) z.2 (by simpa using((hN.keep M.below) z (avs hz)).1.cell 0) _ v2 ((iU N o m).map (·.1)) (Ns (M.r 0 rfl) rfl ((hN.keep M.below).sub PD)) hol (fun y hy=>by obtain⟨x,hx,rfl⟩:=avD.1 hy;exact afl x (PD x hx))) fun _ _ F M=>
     avp<|
     acO _ _ ?_
    refine avq (F.e 56 rfl) (fun hc17=>?_) (fun hc17=>?_)
    ·have hcv:iG z.1 ((iU N o m).map (·.1))=true:=hc17;have apb:o.length≤1000:=by rw[ho];exact avr (Pv _ _) (by omega)
     refine ah<|xM F rf rf rf fun _ F=>xM F rf rf rf fun _ F=>xS F M rf rf rf u64 Z9 zr3 rf rf fun g18 _ _ F M=>
      kp (on rfl) rfl u64 aiy rfl M 1 rfl (F.u rf) (F.u rf) (M.slice 0 rfl rfl rfl (by simp[maxLen])) ⟨by unfold maxLen;omega,by omega⟩ rfl F rfl fun v19 _ _ F M=>
      xA F rf rf rf fun _ F=>
      avp<|
      vL _ _ ?_
     refine ah<|
      ke (on rfl) (gN rfl (F.u rf) rfl) rfl F rfl (congrArg (Value.int .i64) (wrap_i64 (by omega))) fun _ F=>
      xM F rf rf rf fun _ F=>
      avp<|?_
     exact⟨(m+1,v19,o++[m],iq L (m:Int)),⟨F.sub ⟨rfl,rfl,rfl,rfl,rfl,rfl,trivial⟩,((M.only (.cons _ (.cons _ (.cons_cons _ .slnil))) (.cons _ (.cons_cons _ .slnil)))).cast rfl (by rw[su,avJ];rfl),by omega,YC ho hz hcv,hLv.cut.congr fun k _=>by simp[Bool.and_comm]⟩,by show N.length-(m+1)<N.length-m;omega⟩
    ·have hcv:iG z.1 ((iU N o m).map (·.1))=false:=hc17
     refine ah<|xM F rf rf rf fun _ F=>xM F rf rf rf fun _ F=>xW F (M.b 0 rfl) rf rf rf Jf rf j5 rf fun _ F=>
      kmp rfl rfl rfl UD (F.u rf) (F.u rf) (F.u rf) (by constructor<;>omega) M 1 rfl fun _ M=>
      avp<|
      vL _ _ ?_
     refine ah<|
      ke (on rfl) (gN rfl (F.u rf) rfl) rfl F rfl (congrArg (Value.int .i64) (wrap_i64 (by omega))) fun _ F=>
      xM F rf rf rf fun _ F=>
      avp<|?_
     exact⟨(m+1,v,o,((m:Int),.agg #[.int .i64 z.1.1.kind,.int .u64 z.1.1.src.a,.int .u64 z.1.1.src.b,.int .u64 z.1.1.src.c,.int .u64 z.1.1.src.d,.int .u64 z.1.1.tgt.a,.int .u64 z.1.1.tgt.b,.int .u64 z.1.1.tgt.c,.int .u64 z.1.1.tgt.d,.bool z.1.1.self,.int .i64 z.1.1.cls,.int .u32 z.1.1.perms,.int .i64 z.1.1.cond,.slice (some ⟨z.2,0,none⟩) 1 1])::iq (iq L (m:Int)) (m:Int)),⟨F.sub ⟨rfl,rfl,rfl,rfl,rfl,rfl,trivial⟩,(M.only (.cons _ (.cons_cons _ .slnil)) (.cons _ (.cons_cons _ .slnil))),by omega,abP ho hz hcv,(hLv.cut.put hz).congr fun k _=>by
      by_cases e:k=m
      ·subst e;rw[hmo];simp
      ·simp[e]⟩,by show N.length-(m+1)<N.length-m;omega⟩
  ·have apH:=of_decide_eq_false yj;refine wp_exit<|ud _ _ ?_;refine avo fun K29 acN=>ah<|xM F rf rf rf fun _ F=>xA F rf rf rf fun _ F=>avp<|acN _ _ ?_
   refine wp_ret<|ct _ _ _ _ F rfl ?_;have hmN:m=N.length:=by omega
   have hor:o=vf p:=by rw[ho,hmN,hNl,D8];rfl
   subst hor;exact⟨_,rfl,mZ (M.r 0 rfl) Fq.size,(Fq.trans (M.below.mono Fq.size))⟩
end Go.Proofs.YtdcofoaihmongaaGreat

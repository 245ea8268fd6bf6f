import Derived.Test.YtdcofoaihmongaaGreatS3
open Bool renaming and_eq_true→awd
open Go renaming wp_seq_k→avS,wpList_nil→avT,wp_block→avU,wp_cond_split→avV,wp_cond_false→avW,cell_later→awi
open Go.RowKit renaming Below→avZ
open Go.Sem renaming run_bind→awc
open List renaming mem_singleton→avP,mem_append→av0,mem_cons→av1,getElem?_eq_getElem→av2,getElem?_eq_some_iff→av3,getElem?_append_left→av4,length_append→av5,getElem?_append_right→av6,mem_of_getElem?→av7,mem_cons_of_mem→av8,mem_cons_self→av9,filterMap_append→av_,flatMap_append→awa,take_length→awb,mem_map→awe,length_map→awf,getD_eq_getElem?_getD→awg,getElem?_map→awh
open Nat renaming lt_of_lt_of_le→avO,le_trans→avQ,zero_le→avX,mul_le_mul_right→avY
open Option.some renaming inj→avR
set_option maxRecDepth 100000
set_option maxHeartbeats 8000000
namespace Go.Proofs.YtdcofoaihmongaaGreat
open Go Go.RowKit
theorem aV.Pb{w0 w w':World}{bs:List Bx}{rs:List Rw}{mb:Nat}(M:aV w0.heap.size w0 w bs rs)(hlt:mb<w0.heap.size)(hg:w.grownBy w' (some mb))(afE:∀ g cs,Whole w' g 52 cs→g≠mb):
 ∃ wa:World,St [mb] w0 wa∧wa.heap[mb]?=w'.heap[mb]?∧aV wa.heap.size wa w' bs rs:=by
 have aiC:mb<w.heap.size:=avO hlt M.below.size;have V9:mb<w'.heap.size:=avO aiC hg.size;have hS:=St.grown (X:=[mb]) hg (avP.2 rfl)
 obtain⟨wa,ho,ht,hp,e1,e2,e3⟩:∃ wa:World,wa.os=w0.os∧wa.tape=w0.tape∧wa.output=w0.output∧wa.heap.size=w0.heap.size∧(∀ k,k≠mb→wa.heap[k]?=w0.heap[k]?)∧wa.heap[mb]?=w'.heap[mb]?:=
  ⟨{ w0 with heap:=w0.heap.setIfInBounds mb (w'.heap[mb]'V9) },rfl,rfl,rfl,Array.size_setIfInBounds ..,fun k hk=>Array.getElem?_setIfInBounds_ne (Ne.symm hk),by
   show(w0.heap.setIfInBounds mb (w'.heap[mb]'V9))[mb]?=_;rw[Array.getElem?_setIfInBounds_self_of_lt hlt,Array.getElem?_eq_getElem V9]⟩
 refine⟨wa,⟨ho,ht,hp,Nat.le_of_eq e1.symm,fun k _ hx=>e2 k (by simpa using hx)⟩,e3,?_⟩;refine⟨⟨hS.os.trans (M.below.os.trans ho.symm),hS.tape.trans (M.below.tape.trans ht.symm),hS.output.trans (M.below.output.trans hp.symm),by rw[e1];exact avQ M.below.size hS.size,fun k hk=>?_⟩,Nat.le_refl _,fun g cs h=>?_,fun b hb=>?_,fun b hb=>by rw[e1];exact M.lo b hb,M.nd,fun r hr=>?_,M.far,M.wJ⟩
 ·by_cases hkm:k=mb
  ·subst hkm;exact e3.symm
  ·rw[e1] at hk;rw[e2 k hkm,hS.block k (avO hk M.below.size) (by simpa using hkm),M.below.block k hk]
 ·have hne:g≠mb:=fun e=>by
   subst e;have h':wa.heap[g]?=some (.cells cs 52 (0,0)):=h;rw[e3] at h';exact afE g cs h' rfl
  have h0:Whole w0 g 52 cs:=by
   have h':wa.heap[g]?=some (.cells cs 52 (0,0)):=h;rw[e2 g hne] at h';exact h'
  exact hS.whole (M.old g cs h0) (by simpa using hne)
 ·exact(M.box b hb).kept (hS.block _ (M.box b hb).lt fun hm=>by
   have:=M.lo b hb;rw[avP.1 hm] at this;omega)
 ·rw[e1]
  exact hS.own (M.row r hr) fun q hq e=>by
   rw[avP.1 hq] at e;have:=((M.row r hr).lt _ e).1;omega
section
variable {ops:Array Oper} {Q:Exit→Act→World→Prop} {rest:List Oper} {a:Act} {w w0:World} {o:Oper} {bs:List Bx} {rs:List Rw} {mb:Nat} {L:List (Int×Value)}
theorem kpo(hg:o.guard=none)(hd:o.dst=none){t e:TypeId}{m x y:Operand}{v:Value}{k:Int}(ho:o.op=.mapUpdate t m x y)(ht:Tryz.prog.underlying t=some (.map 3 e))(hm:a.eval m=.map (some mb))(hx:a.eval x=.int .i64 k)(hy:a.eval y=v)(hk:iX k)(M:aV w0.heap.size w0 w bs rs)(hM:aU w0 Tryz.prog 3 mb (L.map ival))
 (next:∀ wa w',St [mb] w0 wa→aU wa Tryz.prog 3 mb (((k,v)::iq L k).map ival)→aV wa.heap.size wa w' bs rs→wpList Tryz.prog ops Q rest a w'):wpList Tryz.prog ops Q (o::rest) a w:=
 kmu hg hd ho hm hx hy (aU.U8 ht (hM.kept (M.below.block _ hM.lt)) hk v) fun w' ⟨N_,hg'⟩=>by
  obtain⟨wa,hS,e3,M'⟩:=M.Pb hM.lt hg' fun g cs h=>gW h N_
  exact next wa w' hS (N_.kept e3) M'
theorem aU.aj8{t e ty:TypeId}(ht:Tryz.prog.underlying t=some (.map 3 e))(hM:aU w Tryz.prog 3 mb (L.map ival)){k:Int}(hk:iX k)(hin:(jT L k).isSome=true):
 ∃ w',(Builtin.delete_ #[t,3] ty #[.map (some mb),.int .i64 k]).run Tryz.prog w=.ok (.tuple #[]) w'∧(aU w' Tryz.prog 3 mb ((iq L k).map ival)∧w.grownBy w' (some mb)):=by
 obtain⟨l,hl⟩:=Y4 hk;obtain⟨u,hf⟩:=Option.isSome_iff_exists.1 hin;obtain⟨w',hw,N_,hg,-⟩:=hM.del (ty:=ty) (key:=.int .i64 k) (old:=u) (R:=(iq L k).map ival) yd ht hl ((yH hM.Nj hf).map ival);exact⟨w',hw,N_,hg⟩
theorem kdo(hg:o.guard=none)(hd:o.dst=none){t e:TypeId}{m x:Operand}{k:Int}(ho:o.op=.call { callee:=.builtin .delete,args:=#[m,x],argTypes:=#[t,3] })(ht:Tryz.prog.underlying t=some (.map 3 e))(hm:a.eval m=.map (some mb))(hx:a.eval x=.int .i64 k)(hk:iX k)(M:aV w0.heap.size w0 w bs rs)(hM:aU w0 Tryz.prog 3 mb (L.map ival))(hin:(jT L k).isSome=true)
 (next:∀ wa w',St [mb] w0 wa→aU wa Tryz.prog 3 mb ((iq L k).map ival)→aV wa.heap.size wa w' bs rs→wpList Tryz.prog ops Q rest a w'):wpList Tryz.prog ops Q (o::rest) a w:=
 sN w hg m x t 3 ho _ _ hm hx _ (aU.aj8 ht (hM.kept (M.below.block _ hM.lt)) hk hin) fun w' ⟨N_,hg'⟩=>by
  rw[hd];obtain⟨wa,hS,e3,M'⟩:=M.Pb hM.lt hg' fun g cs h=>gW h N_
  exact next wa w' hS (N_.kept e3) M'
theorem rB{t e:TypeId}{m x:Operand}{z:Value}{k:Int}(ht:Tryz.prog.underlying t=some (.map 3 e))(hz:(zeroValue e).run Tryz.prog w=.ok z w)(hM:aU w Tryz.prog 3 mb (L.map ival))(ho:o.op=.lookup t m x false)(hm:a.eval m=.map (some mb))(hx:a.eval x=.int .i64 k)(hk:iX k):
 (execOp a.eval o).run Tryz.prog w=.ok (.value ((jT L k).getD z)) w:=by
 have hl:=aU.VB ht hz hM hk false;unfold execOp;simp[ho,hm,hx,hl]
end
def rval(r:aj):Value:=.agg r.cells.toArray
def El(f:Nat→Option aj)(L:List (Int×Value)):Prop:=∀ k:Nat,jT L (k:Int)=(f k).map rval
section
variable {f:Nat→Option aj} {L:List (Int×Value)} {m:Nat} {r:aj}
theorem El.put(h:El f L):El (kF f m (some r)) (((m:Int),rval r)::iq L (m:Int)):=fun k=>by
 rw[AB];unfold kF;by_cases e:k=m
 ·subst e;simp
 ·rw[if_neg (by omega),if_neg e,h k]
theorem El.cut(h:El f L):El (kF f m none) (iq L (m:Int)):=fun k=>by
 rw[Gh];unfold kF;by_cases e:k=m
 ·subst e;simp
 ·rw[if_neg (by omega),if_neg e,h k]
theorem El.yes(h:El f L){k:Nat}(e:f k=some r):jT L (k:Int)=some (rval r):=by rw[h k,e];rfl
theorem El.no(h:El f L){k:Nat}(e:f k=none):jT L (k:Int)=none:=by rw[h k,e];rfl
end
theorem Kp{x:Option Value}{v z:Value}(h:x=some v):x.getD z=v:=by rw[h];rfl
theorem JI{x y:ay}(hx:x.Ok)(hy:y.Ok):(x.or y).Ok:=⟨Nat.or_lt_two_pow (n:=64) hx.a hy.a,Nat.or_lt_two_pow (n:=64) hx.b hy.b,Nat.or_lt_two_pow (n:=64) hx.c hy.c,Nat.or_lt_two_pow (n:=64) hx.d hy.d⟩
theorem Gl{a b c:aj}(ha:a.Ok)(hb:b.Ok)(h:aC a b=some c):c.Ok:=by
 unfold aC at h;split at h
 ·cases h
 ·split at h
  ·obtain rfl:=avR h;exact⟨ha.src,ha.tgt⟩
  ·split at h
   ·obtain rfl:=avR h;exact⟨ha.src,JI ha.tgt hb.tgt⟩
   ·split at h
    ·obtain rfl:=avR h;exact⟨JI ha.src hb.src,ha.tgt⟩
    ·cases h
def TX(f:Nat→Option aj):Prop:=∀ k r,f k=some r→r.Ok
theorem TX.set{f:Nat→Option aj}(h:TX f){m:Nat}{v:Option aj}(hv:∀ r,v=some r→r.Ok):TX (kF f m v):=fun k r e=>by
 unfold kF at e;split at e
 ·exact hv r e
 ·exact h k r e
def IE(f f':Nat→Option aj)(i n:Nat)(t:Bool):Prop:=
 (t=false∧f'=f∧∀ a,f i=some a→∀ k y,i<k→k<n→f k=some y→aC a y=none) ∨
 (t=true∧∃ k a b c,i<k∧k<n∧f i=some a∧f k=some b∧aC a b=some c∧(∀ j y,i<j→j<k→f j=some y→aC a y=none)∧f'=kF (kF f i (some c)) k none)
theorem Gm{α:Type}{x:Option α}{v:α}(h:x=some v):x.isSome=true:=by rw[h];rfl
theorem PO{f:Nat→Option aj}{a:aj}{i k:Nat}(h:∀ j y,i<j→j<k→f j=some y→aC a y=none)(h2:∀ y,f k=some y→aC a y=none):∀ j y,i<j→j<k+1→f j=some y→aC a y=none:=fun j y h1 h3 h4=>by
 by_cases e:j=k
 ·subst e;exact h2 y h4
 ·exact h j y h1 (by omega) h4
structure XM (f f':Nat→Option aj) (n t0 t:Nat):Prop where
 le:t≤t0
 some_:(f' t).isSome=true
 np:NP aC f' n t n
 nf:zu aC (seg f' 0 n)=zu aC (seg f 0 n)
 len:(seg f' 0 n).length≤(seg f 0 n).length
theorem Po{f:Nat→Option aj}{h t:Nat}(hs:∀ j x y,j<h→f j=some x→f t=some y→aC x y=none)(h2:∀ x y,f h=some x→f t=some y→aC x y=none):∀ j x y,j<h+1→f j=some x→f t=some y→aC x y=none:=fun j x y h1 h3 h4=>by
 by_cases e:j=h
 ·subst e;exact h2 x y h3 h4
 ·exact hs j x y (by omega) h3 h4
theorem abY{f:Nat→Option aj}{n h t:Nat}(ht:t≤h)(hp:NP aC f n t t)(hs:∀ j x y,j<h→f j=some x→f t=some y→aC x y=none):NP aC f n t n:=fun j x k y h1 h2 h3 h4 _ h6=>by
 by_cases e:k=t
 ·subst e;exact hs j x y (by omega) h2 h6
 ·exact hp j x k y h1 h2 h3 h4 e h6
theorem Oj{f:Nat→Option aj}{n h t:Nat}{a b c:aj}(hlt:h<t)(ht:t<n)(ha:f h=some a)(hb:f t=some b)(hc:aC a b=some c)(hp:NP aC f n t t)(hs:∀ j x y,j<h→f j=some x→f t=some y→aC x y=none):
 NP aC (kF (kF f h (some c)) t none) n h h∧zu aC (seg (kF (kF f h (some c)) t none) 0 n)=zu aC (seg f 0 n)∧(seg (kF (kF f h (some c)) t none) 0 n).length≤(seg f 0 n).length:=by
 have hp':NP aC f n h n:=fun j x k y h1 h2 h3 h4 _ h6=>by
  by_cases e:k=t
  ·subst e;exact hs j x y h1 h2 h6
  ·exact hp j x k y (by omega) h2 h3 h4 e h6
 have h1:=Jw aC hlt ht ha hb hc hp' fun j y h1 h2 h3=>hp h a j y hlt ha h1 (by omega) (by omega) h3
 have h2:=lH aC h1;exact⟨NP.joined aC hp',(Ct aC h1).symm,by omega⟩
theorem RW(w0:World)(mb n:Nat)(hn:n≤1000)(L:List (Int×Value))(hM:aU w0 Tryz.prog 3 mb (L.map ival))(f:Nat→Option aj)(hRv:El f L)(hfo:TX f)(i:Nat)(hi:i<n)(qa:aj)(ha:f i=some qa):Calls Tryz.prog 84 #[.map (some mb),.int .i64 (i:Int),.int .i64 (n:Int)] w0 (fun(r:Ending) (w':World)=>∃ v,r=.returned v∧((∃ t L' f',v=.bool t∧aU w' Tryz.prog 3 mb (L'.map ival)∧El f' L'∧TX f'∧IE f f' i n t)∧St [mb] w0 w')):=by
 have HS:=iC [mb] _ _ (Below.refl w0.heap.size w0);have hla:=hRv.yes ha;have ct:=hr1 Tryz.prog Tryz.f84 (fun(r:Ending) (w':World)=>∃ v,r=.returned v∧((∃ t L' f',v=.bool t∧aU w' Tryz.prog 3 mb (L'.map ival)∧El f' L'∧TX f'∧IE f f' i n t)∧St [mb] w0 w')) 41 6 rfl;refine en Tryz.func84 rfl Tryz.ntmps84 rfl (vs:=[(.map (some mb)),.int .i64 (i:Int),.int .i64 (n:Int)]) rfl fun _ F=>?_
 have M:=Mm.start w0;refine avS fun K1 jq=>ah<|xA (v:=.bool false) F rf rf rf fun _ F=>avT<|jq _ _ ?_
 refine avS fun K2 jW=>avS fun K3 pR=>ah<|xM F rf rf rf fun _ F=>
  ke (on rfl) (gN rfl (F.u rf) rfl) rfl F rfl (congrArg (Value.int .i64) (wrap_i64 (by omega))) fun _ F=>
  xA F rf rf rf fun _ F=>
  avT<|
  pR _ _ ?_
 refine avU<|?_;refine gj (ι:=Nat) (fun k a w=>Fs a 41 [(0,(.map (some mb))),(1,.int .i64 (i:Int)),(2,.int .i64 (n:Int)),(7,.int .i64 (k:Int))]∧Mm w0 w [] []∧(i<k∧k≤n)∧∀ j y,i<j→j<k→f j=some y→aC qa y=none) (fun k=>n-k) (i+1) ⟨F.sub ⟨rfl,rfl,rfl,rfl,trivial⟩,M,⟨by omega,by omega⟩,(fun j y h1 h2=>by omega)⟩ ?_
 (repeat clear F);(repeat clear M)
 rintro k _ _ ⟨F,M,hk,hno⟩;refine avS fun K4 p9=>avS fun K5 q5=>?_
 refine ah<|xM F rf rf rf fun _ F=>xM F rf rf rf fun _ F=>kz F rf (kO rfl (F.u rf) (F.u rf)) fun _ F=>avT<|q5 _ _ ?_
 refine avV (F.e 16 rfl) (fun hc1=>?_) (fun hc1=>?_)
 ·have hd2:=of_decide_eq_true hc1;refine wp_skip<|p9 _ _ ?_;refine avS fun K6 tu=>avU<|avS fun K7 vK=>?_
  cases zA:f k with
  | none=>
   have hlk:=hRv.no zA
   refine ah<|xM F rf rf rf fun _ F=>xM F rf rf rf fun _ F=>
    ke (on rfl) (vR (z:=.agg #[.int .i64 0,.int .u64 0,.int .u64 0,.int .u64 0,.int .u64 0,.int .u64 0,.int .u64 0,.int .u64 0,.int .u64 0,.bool false,.int .i64 0,.int .u32 0,.int .i64 0]) wX (by kernel_rfl) (hM.kept (M.below.block _ hM.lt)) rfl (F.u rf) (F.u rf) (by constructor<;>omega)) rfl F rfl (show _=.tuple #[.agg #[.int .i64 0,.int .u64 0,.int .u64 0,.int .u64 0,.int .u64 0,.int .u64 0,.int .u64 0,.int .u64 0,.int .u64 0,.bool false,.int .i64 0,.int .u32 0,.int .i64 0],.bool false] from qy hlk) fun _ F=>
    xM F rf rf rf fun _ F=>
    kz F rf (bW rfl (F.u rf) rfl) fun _ F=>
    kz F rf (bW rfl (F.u rf) rfl) fun _ F=>
    NJ (on rfl) rfl mP rfl F rfl M fun g3 _ _ F M=>
    ND (on rfl) rfl (F.u rf) (F.u rf) F M 0 rfl qD rfl rfl rfl fun _ M=>
    xA F rf rf rf fun _ F=>
    avT<|
    vK _ _ ?_
   refine avS fun K8 CW=>avS fun K9 AV=>ah<|xM F rf rf rf fun _ F=>kz F rf (qd rfl (F.u rf)) fun _ F=>avT<|AV _ _ ?_
   refine wp_cond_true (F.e 26 rfl) ?_;refine wp_exit<|tu _ _ ?_
   refine ah<|xM F rf rf rf fun _ F=>
    ke (on rfl) (gN rfl (F.u rf) rfl) rfl F rfl (congrArg (Value.int .i64) (wrap_i64 (by omega))) fun _ F=>
    xA F rf rf rf fun _ F=>
    avT<|?_
   exact⟨k+1,⟨F.sub ⟨rfl,rfl,rfl,rfl,trivial⟩,(M.only (.cons _ .slnil) .slnil),by omega,PO (f:=f) (k:=k) hno (fun y hy=>by rw[zA] at hy;cases hy)⟩,by show n-(k+1)<n-k;omega⟩
  | some qb=>
   have hlk:=hRv.yes zA
   refine ah<|xM F rf rf rf fun _ F=>xM F rf rf rf fun _ F=>
    ke (on rfl) (vR (z:=.agg #[.int .i64 0,.int .u64 0,.int .u64 0,.int .u64 0,.int .u64 0,.int .u64 0,.int .u64 0,.int .u64 0,.int .u64 0,.bool false,.int .i64 0,.int .u32 0,.int .i64 0]) wX (by kernel_rfl) (hM.kept (M.below.block _ hM.lt)) rfl (F.u rf) (F.u rf) (by constructor<;>omega)) rfl F rfl (show _=.tuple #[.agg #[.int .i64 qb.kind,.int .u64 qb.src.a,.int .u64 qb.src.b,.int .u64 qb.src.c,.int .u64 qb.src.d,.int .u64 qb.tgt.a,.int .u64 qb.tgt.b,.int .u64 qb.tgt.c,.int .u64 qb.tgt.d,.bool qb.self,.int .i64 qb.cls,.int .u32 qb.perms,.int .i64 qb.cond],.bool true] from qx hlk) fun _ F=>
    xM F rf rf rf fun _ F=>
    kz F rf (bW rfl (F.u rf) rfl) fun _ F=>
    kz F rf (bW rfl (F.u rf) rfl) fun _ F=>
    NJ (on rfl) rfl mP rfl F rfl M fun g4 _ _ F M=>
    ND (on rfl) rfl (F.u rf) (F.u rf) F M 0 rfl qD rfl rfl rfl fun _ M=>
    xA F rf rf rf fun _ F=>
    avT<|
    vK _ _ ?_
   refine avS fun X0 nP=>avS fun K11 ud=>ah<|xM F rf rf rf fun _ F=>kz F rf (qd rfl (F.u rf)) fun _ F=>avT<|ud _ _ ?_
   refine avW (F.e 26 rfl) ?_;refine wp_skip<|nP _ _ ?_
   refine avS fun K12 t_=>ah<|xM F rf rf rf fun _ F=>xM F rf rf rf fun _ F=>
    ke (on rfl) (rB (z:=.agg #[.int .i64 0,.int .u64 0,.int .u64 0,.int .u64 0,.int .u64 0,.int .u64 0,.int .u64 0,.int .u64 0,.int .u64 0,.bool false,.int .i64 0,.int .u32 0,.int .i64 0]) wX (by kernel_rfl) (hM.kept (M.below.block _ hM.lt)) rfl (F.u rf) (F.u rf) (by constructor<;>omega)) rfl F rfl (show _=.agg #[.int .i64 qa.kind,.int .u64 qa.src.a,.int .u64 qa.src.b,.int .u64 qa.src.c,.int .u64 qa.src.d,.int .u64 qa.tgt.a,.int .u64 qa.tgt.b,.int .u64 qa.tgt.c,.int .u64 qa.tgt.d,.bool qa.self,.int .i64 qa.cls,.int .u32 qa.perms,.int .i64 qa.cond] from Kp hla) fun _ F=>
    xW F (M.b 0 rfl) rf rf rf Yd rf qD rf fun _ F=>
    xC F M rf rf aeM (args2 (F.u rf) (F.u rf)) (J7 _ qa qb (hfo _ _ ha) (hfo _ _ zA)) fun _ _ F M=>
    xM F rf rf rf fun _ F=>
    kz F rf (bW rfl (F.u rf) rfl) fun _ F=>
    kz F rf (bW rfl (F.u rf) rfl) fun _ F=>
    NJ (on rfl) rfl mP rfl F rfl M fun g5 _ _ F M=>
    ND (on rfl) rfl (F.u rf) (F.u rf) F M 0 rfl qD rfl rfl rfl fun _ M=>
    xA F rf rf rf fun _ F=>
    avT<|
    t_ _ _ ?_
   refine avS fun K13 sH=>ah<|xM F rf rf rf fun _ F=>avT<|sH _ _ ?_
   refine avV (F.e 35 rfl) (fun yj=>?_) (fun yj=>?_)
   ·obtain⟨qc,Wl⟩:=Option.isSome_iff_exists.1 yj;refine avS fun K14 yq=>ah<|xM F rf rf rf fun _ F=>xM F rf rf rf fun _ F=>xW F (M.b 0 rfl) rf rf rf Yd rf qD rf fun _ F=>kpo rfl rfl rfl wX (F.u rf) (F.u rf) (F.u rf) (by constructor<;>omega) M hM fun wa7 _ TU hM M=>?_
    have HS:=gF _ _ _ _ HS TU;have hRv:=hRv.put (m:=i) (r:=(aC qa qb).getD qa);refine avT<|yq _ _ ?_;refine avS fun K15 vL=>ah<|xM F rf rf rf fun _ F=>xM F rf rf rf fun _ F=>kdo rfl rfl rfl wX (F.u rf) (F.u rf) (by constructor<;>omega) M hM (Gm (hRv.yes (r:=qb) (by rw[fK _ _ (by omega)];exact zA))) fun wa8 _ TU hM M=>?_
    have HS:=gF _ _ _ _ HS TU;have hRv:=hRv.cut (m:=k);refine avT<|vL _ _ ?_;refine avS fun K16 Gu=>ah<|xA (v:=.bool true) F rf rf rf fun _ F=>avT<|Gu _ _ ?_
    refine wp_ret<|ct _ _ _ _ F rfl ?_;rw[show(aC qa qb).getD qa=qc by rw[Wl];rfl] at hRv hM;exact⟨_,rfl,⟨true,_,_,rfl,(hM.kept (M.below.block _ hM.lt)),hRv,(hfo.set fun r e=>by cases e;exact Gl (hfo _ _ ha) (hfo _ _ zA) Wl).set (fun r e=>by cases e),.inr ⟨rfl,k,qa,qb,qc,hk.1,by omega,ha,zA,Wl,hno,rfl⟩⟩,gF _ _ _ _ HS (iC _ _ _ M.below)⟩
   ·have hjn:aC qa qb=none:=by simpa using yj
    refine wp_skip<|tu _ _ ?_
    refine ah<|xM F rf rf rf fun _ F=>
     ke (on rfl) (gN rfl (F.u rf) rfl) rfl F rfl (congrArg (Value.int .i64) (wrap_i64 (by omega))) fun _ F=>
     xA F rf rf rf fun _ F=>
     avT<|?_
    exact⟨k+1,⟨F.sub ⟨rfl,rfl,rfl,rfl,trivial⟩,(M.only (.cons _ (.cons _ .slnil)) .slnil),by omega,PO (f:=f) (k:=k) hno (fun y hy=>by rw[zA] at hy;obtain rfl:=avR hy;exact hjn)⟩,by show n-(k+1)<n-k;omega⟩
 ·have hd9:=of_decide_eq_false hc1;refine wp_exit<|jW _ _ ?_;refine avS fun K17 WE=>ah<|xA (v:=.bool false) F rf rf rf fun _ F=>avT<|WE _ _ ?_
  refine wp_ret<|ct _ _ _ _ F rfl ?_
  exact⟨_,rfl,⟨false,_,f,rfl,(hM.kept (M.below.block _ hM.lt)),hRv,hfo,.inl ⟨rfl,rfl,fun a' ha' k' y h1 h2 h3=>by
   rw[ha] at ha';obtain rfl:=avR ha';exact hno k' y h1 (by omega) h3⟩⟩,gF _ _ _ _ HS (iC _ _ _ M.below)⟩
theorem KA(w0:World)(mb n:Nat)(hn:n≤1000)(L:List (Int×Value))(hM:aU w0 Tryz.prog 3 mb (L.map ival))(f:Nat→Option aj)(hRv:El f L)(hfo:TX f)(t0:Nat)(ht0:t0<n)(q0:aj)(ha:f t0=some q0)(hNP:NP aC f n t0 t0):Calls Tryz.prog 85 #[.map (some mb),.int .i64 (t0:Int)] w0 (fun(r:Ending) (w':World)=>∃ v,r=.returned v∧((∃ t L' f',v=.int .i64 ((t:Nat):Int)∧aU w' Tryz.prog 3 mb (L'.map ival)∧El f' L'∧TX f'∧XM f f' n t0 t)∧St [mb] w0 w')):=by
 have HS:=iC [mb] _ _ (Below.refl w0.heap.size w0);have ct:=hr1 Tryz.prog Tryz.f85 (fun(r:Ending) (w':World)=>∃ v,r=.returned v∧((∃ t L' f',v=.int .i64 ((t:Nat):Int)∧aU w' Tryz.prog 3 mb (L'.map ival)∧El f' L'∧TX f'∧XM f f' n t0 t)∧St [mb] w0 w')) 39 4 rfl;refine en Tryz.func85 rfl Tryz.ntmps85 rfl (vs:=[(.map (some mb)),.int .i64 (t0:Int)]) rfl fun _ F=>?_
 have M:=Mm.start w0;refine avS fun K1 jq=>ah<|xA (v:=.int .i64 0) F rf rf rf fun _ F=>avT<|jq _ _ ?_
 refine avS fun K2 jW=>avS fun K3 pR=>ah<|xA (v:=.int .i64 0) F rf rf rf fun _ F=>avT<|pR _ _ ?_
 refine avU<|?_;refine gj (ι:=Nat×Nat×(Nat→Option aj)×List (Int×Value)×World) (fun|(hh,tt,ff,LL,wb),a,w=>Fs a 39 [(0,(.map (some mb))),(1,.int .i64 (tt:Int)),(5,.int .i64 (hh:Int))]∧Mm wb w [] []∧aU wb Tryz.prog 3 mb (LL.map ival)∧El ff LL∧TX ff∧St [mb] w0 wb∧tt<n∧tt≤t0∧hh≤tt∧(ff tt).isSome=true∧NP aC ff n tt tt∧(∀ j x y,j<hh→ff j=some x→ff tt=some y→aC x y=none)∧zu aC (seg ff 0 n)=zu aC (seg f 0 n)∧(seg ff 0 n).length≤(seg f 0 n).length) (fun|(hh,tt,ff,LL,wb)=>tt*(n+1)+(tt-hh)) (0,t0,f,L,w0) ⟨F.sub ⟨rfl,rfl,rfl,trivial⟩,M,hM,hRv,hfo,HS,ht0,Nat.le_refl _,avX _,Gm ha,hNP,(fun j _ _ h=>absurd h (Nat.not_lt_zero j)),rfl,Nat.le_refl _⟩ ?_
 (repeat clear F);(repeat clear M)
 rintro⟨hh,tt,ff,LL,wb⟩ _ _ ⟨F,M,hM,hRv,hfo,HS,ht,hle,hh1,hta,hNP,hsc,hnf,hlen⟩;obtain⟨qt,hqt⟩:=Option.isSome_iff_exists.1 hta;refine avS fun K4 p9=>avS fun K5 q5=>ah<|xM F rf rf rf fun _ F=>xM F rf rf rf fun _ F=>kz F rf (kO rfl (F.u rf) (F.u rf)) fun _ F=>avT<|q5 _ _ ?_
 refine avV (F.e 12 rfl) (fun hc1=>?_) (fun hc1=>?_)
 ·have hd2:=of_decide_eq_true hc1;refine wp_skip<|p9 _ _ ?_;refine avS fun K6 tu=>avU<|avS fun K7 vK=>?_
  cases zA:ff hh with
  | none=>
   have hlk:=hRv.no zA
   refine ah<|xM F rf rf rf fun _ F=>xM F rf rf rf fun _ F=>
    ke (on rfl) (vR (z:=.agg #[.int .i64 0,.int .u64 0,.int .u64 0,.int .u64 0,.int .u64 0,.int .u64 0,.int .u64 0,.int .u64 0,.int .u64 0,.bool false,.int .i64 0,.int .u32 0,.int .i64 0]) wX (by kernel_rfl) (hM.kept (M.below.block _ hM.lt)) rfl (F.u rf) (F.u rf) (by constructor<;>omega)) rfl F rfl (show _=.tuple #[.agg #[.int .i64 0,.int .u64 0,.int .u64 0,.int .u64 0,.int .u64 0,.int .u64 0,.int .u64 0,.int .u64 0,.int .u64 0,.bool false,.int .i64 0,.int .u32 0,.int .i64 0],.bool false] from qy hlk) fun _ F=>
    xM F rf rf rf fun _ F=>
    kz F rf (bW rfl (F.u rf) rfl) fun _ F=>
    kz F rf (bW rfl (F.u rf) rfl) fun _ F=>
    NJ (on rfl) rfl mP rfl F rfl M fun g3 _ _ F M=>
    ND (on rfl) rfl (F.u rf) (F.u rf) F M 0 rfl qD rfl rfl rfl fun _ M=>
    xA F rf rf rf fun _ F=>
    avT<|
    vK _ _ ?_
   refine avS fun K8 CW=>avS fun K9 AV=>ah<|xM F rf rf rf fun _ F=>kz F rf (qd rfl (F.u rf)) fun _ F=>avT<|AV _ _ ?_
   refine wp_cond_true (F.e 22 rfl) ?_;refine wp_exit<|tu _ _ ?_
   refine ah<|xM F rf rf rf fun _ F=>
    ke (on rfl) (gN rfl (F.u rf) rfl) rfl F rfl (congrArg (Value.int .i64) (wrap_i64 (by omega))) fun _ F=>
    xA F rf rf rf fun _ F=>
    avT<|?_
   exact⟨(hh+1,tt,ff,LL,wb),⟨F.sub ⟨rfl,rfl,rfl,trivial⟩,(M.only (.cons _ .slnil) .slnil),hM,hRv,hfo,HS,ht,hle,(by omega),hta,hNP,Po hsc (fun x y hx _=>by rw[zA] at hx;cases hx),hnf,hlen⟩,by show tt*(n+1)+(tt-(hh+1))<tt*(n+1)+(tt-hh);omega⟩
  | some qa=>
   have hlk:=hRv.yes zA
   refine ah<|xM F rf rf rf fun _ F=>xM F rf rf rf fun _ F=>
    ke (on rfl) (vR (z:=.agg #[.int .i64 0,.int .u64 0,.int .u64 0,.int .u64 0,.int .u64 0,.int .u64 0,.int .u64 0,.int .u64 0,.int .u64 0,.bool false,.int .i64 0,.int .u32 0,.int .i64 0]) wX (by kernel_rfl) (hM.kept (M.below.block _ hM.lt)) rfl (F.u rf) (F.u rf) (by constructor<;>omega)) rfl F rfl (show _=.tuple #[.agg #[.int .i64 qa.kind,.int .u64 qa.src.a,.int .u64 qa.src.b,.int .u64 qa.src.c,.int .u64 qa.src.d,.int .u64 qa.tgt.a,.int .u64 qa.tgt.b,.int .u64 qa.tgt.c,.int .u64 qa.tgt.d,.bool qa.self,.int .i64 qa.cls,.int .u32 qa.perms,.int .i64 qa.cond],.bool true] from qx hlk) fun _ F=>
    xM F rf rf rf fun _ F=>
    kz F rf (bW rfl (F.u rf) rfl) fun _ F=>
    kz F rf (bW rfl (F.u rf) rfl) fun _ F=>
    NJ (on rfl) rfl mP rfl F rfl M fun g4 _ _ F M=>
    ND (on rfl) rfl (F.u rf) (F.u rf) F M 0 rfl qD rfl rfl rfl fun _ M=>
    xA F rf rf rf fun _ F=>
    avT<|
    vK _ _ ?_
   refine avS fun X0 nP=>avS fun K11 ud=>ah<|xM F rf rf rf fun _ F=>kz F rf (qd rfl (F.u rf)) fun _ F=>avT<|ud _ _ ?_
   refine avW (F.e 22 rfl) ?_;refine wp_skip<|nP _ _ ?_
   refine avS fun K12 t_=>ah<|xW F (M.b 0 rfl) rf rf rf Yd rf qD rf fun _ F=>xM F rf rf rf fun _ F=>xM F rf rf rf fun _ F=>
    ke (on rfl) (rB (z:=.agg #[.int .i64 0,.int .u64 0,.int .u64 0,.int .u64 0,.int .u64 0,.int .u64 0,.int .u64 0,.int .u64 0,.int .u64 0,.bool false,.int .i64 0,.int .u32 0,.int .i64 0]) wX (by kernel_rfl) (hM.kept (M.below.block _ hM.lt)) rfl (F.u rf) (F.u rf) (by constructor<;>omega)) rfl F rfl (show _=.agg #[.int .i64 qt.kind,.int .u64 qt.src.a,.int .u64 qt.src.b,.int .u64 qt.src.c,.int .u64 qt.src.d,.int .u64 qt.tgt.a,.int .u64 qt.tgt.b,.int .u64 qt.tgt.c,.int .u64 qt.tgt.d,.bool qt.self,.int .i64 qt.cls,.int .u32 qt.perms,.int .i64 qt.cond] from Kp (hRv.yes hqt)) fun _ F=>
    xC F M rf rf aeM (args2 (F.u rf) (F.u rf)) (J7 _ qa qt (hfo _ _ zA) (hfo _ _ hqt)) fun _ _ F M=>
    xM F rf rf rf fun _ F=>
    kz F rf (bW rfl (F.u rf) rfl) fun _ F=>
    kz F rf (bW rfl (F.u rf) rfl) fun _ F=>
    NJ (on rfl) rfl mP rfl F rfl M fun g5 _ _ F M=>
    ND (on rfl) rfl (F.u rf) (F.u rf) F M 0 rfl qD rfl rfl rfl fun _ M=>
    xA F rf rf rf fun _ F=>
    avT<|
    t_ _ _ ?_
   refine avS fun K13 sH=>ah<|xM F rf rf rf fun _ F=>avT<|sH _ _ ?_
   refine avV (F.e 31 rfl) (fun yj=>?_) (fun yj=>?_)
   ·obtain⟨qc,Wl⟩:=Option.isSome_iff_exists.1 yj;refine avS fun K14 yq=>ah<|xM F rf rf rf fun _ F=>xM F rf rf rf fun _ F=>xW F (M.b 0 rfl) rf rf rf Yd rf qD rf fun _ F=>kpo rfl rfl rfl wX (F.u rf) (F.u rf) (F.u rf) (by constructor<;>omega) M hM fun wa7 _ TU hM M=>?_
    have HS:=gF _ _ _ _ HS TU;have hRv:=hRv.put (m:=hh) (r:=((aC qa qt).getD qa));refine avT<|yq _ _ ?_;refine avS fun K15 vL=>ah<|xM F rf rf rf fun _ F=>xM F rf rf rf fun _ F=>kdo rfl rfl rfl wX (F.u rf) (F.u rf) (by constructor<;>omega) M hM (Gm (hRv.yes (r:=qt) (by rw[fK _ _ (by omega)];exact hqt))) fun wa8 _ TU hM M=>?_
    have HS:=gF _ _ _ _ HS TU;have hRv:=hRv.cut (m:=tt);refine avT<|vL _ _ ?_;refine ah<|xM F rf rf rf fun _ F=>xA F rf rf rf fun _ F=>xA (v:=.int .i64 (-1)) F rf rf rf fun _ F=>avT<|tu _ _ ?_
    refine ah<|xM F rf rf rf fun _ F=>
     ke (on rfl) (gN rfl (F.u rf) rfl) rfl F rfl (congrArg (Value.int .i64) (wrap_i64 (by omega))) fun _ F=>
     xA F rf rf rf fun _ F=>
     avT<|?_
    rw[show((aC qa qt).getD qa)=qc by rw[Wl];rfl] at hRv hM;obtain⟨hE1,hE2,hE3⟩:=Oj (n:=n) (by omega) ht zA hqt Wl hNP hsc;have hE4:=avY (n+1) (show hh+1≤tt by omega);rw[Nat.add_mul,Nat.one_mul] at hE4;exact⟨(0,hh,kF (kF ff hh (some qc)) tt none,_,wa8),⟨F.sub ⟨rfl,rfl,rfl,trivial⟩,(M.only (.cons _ (.cons _ .slnil)) .slnil),hM,hRv,((hfo.set fun r e=>by cases e;exact Gl (hfo _ _ zA) (hfo _ _ hqt) Wl).set fun r e=>by cases e),HS,by omega,by omega,avX _,(by rw[fK _ _ (by omega),rP];rfl),hE1,(fun j _ _ h=>absurd h (Nat.not_lt_zero j)),hE2.trans hnf,avQ hE3 hlen⟩,by show hh*(n+1)+(hh-0)<tt*(n+1)+(tt-hh);omega⟩
   ·have hjn:aC qa qt=none:=by simpa using yj
    refine wp_skip<|tu _ _ ?_
    refine ah<|xM F rf rf rf fun _ F=>
     ke (on rfl) (gN rfl (F.u rf) rfl) rfl F rfl (congrArg (Value.int .i64) (wrap_i64 (by omega))) fun _ F=>
     xA F rf rf rf fun _ F=>
     avT<|?_
    exact⟨(hh+1,tt,ff,LL,wb),⟨F.sub ⟨rfl,rfl,rfl,trivial⟩,(M.only (.cons _ (.cons _ .slnil)) .slnil),hM,hRv,hfo,HS,ht,hle,(by omega),hta,hNP,Po hsc (fun x y hx hy=>by rw[zA] at hx;rw[hqt] at hy;obtain rfl:=avR hx;obtain rfl:=avR hy;exact hjn),hnf,hlen⟩,by show tt*(n+1)+(tt-(hh+1))<tt*(n+1)+(tt-hh);omega⟩
 ·have hd9:=of_decide_eq_false hc1;refine wp_exit<|jW _ _ ?_;refine avS fun K16 Gu=>ah<|xM F rf rf rf fun _ F=>xA F rf rf rf fun _ F=>avT<|Gu _ _ ?_
  refine wp_ret<|ct _ _ _ _ F rfl ?_;exact⟨_,rfl,⟨tt,_,ff,rfl,(hM.kept (M.below.block _ hM.lt)),hRv,hfo,⟨hle,hta,abY (by omega) hNP hsc,hnf,hlen⟩⟩,gF _ _ _ _ HS (iC _ _ _ M.below)⟩
def RowsIn(B:Nat)(w:World)(T:List Rw):Prop:=(∀ r∈T,w.ownsRow B r.e r.k r.v r.n r.xs)∧T.Pairwise fun r s=>r.v.ownBlock=none∨r.v.ownBlock≠s.v.ownBlock
theorem RowsIn.keep{B:Nat}{w w':World}{T:List Rw}(h:RowsIn B w T)(hb:avZ w.heap.size w w'):RowsIn B w' T:=⟨fun r hr=>gH hb (h.1 r hr) (Nat.le_refl _),h.2⟩
theorem RowsIn.low{B C:Nat}{w:World}{T:List Rw}(h:RowsIn B w T)(hc:C≤B):RowsIn C w T:=⟨fun r hr=>mZ (h.1 r hr) hc,h.2⟩
theorem RowsIn.nil(B:Nat)(w:World):RowsIn B w []:=⟨fun _ h=>(by cases h),.nil⟩
theorem aV.bQ{B:Nat}{w0 w w':World}{bs:List Bx}{rs T:List Rw}(M:aV B w0 w bs rs)(hb:avZ w.heap.size w w')(hT:RowsIn w.heap.size w' T):aV B w0 w' bs (rs++T):=by
 have M':=M.keep hb;refine⟨M'.below,M'.le,M'.old,M'.box,M.lo,M.nd,fun r hr=>?_,fun r hr b hb'=>?_,List.pairwise_append.2 ⟨M.wJ,hT.2,fun r hr s hs=>?_⟩⟩
 ·rcases av0.1 hr with hr|hr
  ·exact M'.row r hr
  ·exact mZ (hT.1 r hr) M.big
 ·rcases av0.1 hr with hr|hr
  ·exact M.far r hr b hb'
  ·intro e;have:=((hT.1 r hr).lt _ e).1;have:=(M.box b hb').lt;omega
 ·cases e:r.v.ownBlock with
  | none=>exact .inl rfl
  | some q=>
   refine .inr fun e2=>?_
   have h1:=((M.row r hr).lt q e).2;have h2:=((hT.1 s hs).lt q e2.symm).1;omega
theorem aV.bC{B:Nat}{w0 w:World}{bs:List Bx}{rs:List Rw}(M:aV B w0 w bs rs):RowsIn B w rs:=⟨M.row,M.wJ⟩
theorem aV.form{B:Nat}{w0 w:World}{bs:List Bx}{rs:List Rw}(M:aV B w0 w bs rs)(i:Nat){v:Value}{e:TypeId}{k n:Nat}{xs:List Value}(h:rs[i]?=some ⟨v,e,k,n,xs⟩):∃ a c,v=.slice a n c:=by
 obtain⟨a,c,h,-⟩:=fQ (M.r i h);exact⟨a,c,h⟩
inductive bV (T:List Rw):List Value→ak→Prop
 | node {op a rel b:Int} {names:List ByteArray} {set:ay} {kids:List ak} {nv kv:Value} {es:List (List Value)}:nv.oneCell'=true→kv.oneCell'=true→(⟨nv,9,1,names.length,names.flatMap aT⟩:Rw)∈T→(⟨kv,89,10,kids.length,es.flatten⟩:Rw)∈T→es.length=kids.length→(∀ x∈es,x.length=10) →
  (∀ (i:Nat) x y,es[i]?=some x→kids[i]?=some y→bV T x y) →
  bV T [.int .i64 op,.int .i64 a,.int .i64 rel,.int .i64 b,nv,.int .u64 set.a,.int .u64 set.b,.int .u64 set.c,.int .u64 set.d,kv] (.node op a rel b names set kids)
theorem bV.mono{T T':List Rw}(hs:∀ r∈T,r∈T'){cs:List Value}{e:ak}(h:bV T cs e):bV T' cs e:=by
 induction h with
 | node h1 h2 h3 h4 h5 h6 _ ih=>exact .node h1 h2 (hs _ h3) (hs _ h4) h5 h6 ih
theorem bV.one{T:List Rw}{cs:List Value}{e:ak}(h:bV T cs e):∀ u∈cs,u.oneCell'=true:=by
 cases h with
 | node h1 h2=>
  intro u hu;simp only[av1,List.not_mem_nil,or_false] at hu;rcases hu with rfl|rfl|rfl|rfl|rfl|rfl|rfl|rfl|rfl|rfl<;>first|rfl|assumption
theorem FR(l:List ByteArray):∀ u∈l.flatMap aT,u.oneCell'=true:=fun u hu=>by
 obtain⟨s,-,hs⟩:=List.mem_flatMap.1 hu;simp only[aT,avP] at hs;subst hs;rfl
theorem bV.at_{T:List Rw}{B:Nat}{w:World}(hT:RowsIn B w T){cs:List Value}{e:ak}(h:bV T cs e):aZ w cs e:=by
 induction h with
 | @node op a rel b names set kids nv kv es h1 h2 h3 h4 h5 h6 hk ih=>
  refine .node (SliceAt.bq (hT.1 _ h3) (FR _)) h5 h6 (SliceAt.bq (hT.1 _ h4) ?_) ih;intro u hu;obtain⟨x,hx,hux⟩:=List.mem_flatten.1 hu;obtain⟨i,hi⟩:=List.getElem?_of_mem hx;obtain⟨y,hy⟩:∃ y,kids[i]?=some y:=⟨_,av2 (by have:=(av3.1 hi).1;rw[h5] at this;exact this)⟩;exact(hk i x y hi hy).one u hux
inductive mO:ak→Prop
 | node {op a rel b:Int} {names:List ByteArray} {set:ay} {kids:List ak}:names.length≤1000000→kids.length≤1000000→(∀ k∈kids,mO k)→mO (.node op a rel b names set kids)
theorem mO.parts{e:ak}(h:mO e):e.names.length≤1000000∧e.kids.length≤1000000∧∀ k∈e.kids,mO k:=by
 cases h with
 | node h1 h2 h3=>exact⟨h1,h2,h3⟩
def wD(wb:World)(y:ak):Good:=fun v u=>∃ na nc ka kc T,v=.agg #[.int .i64 y.op,.int .i64 y.a,.int .i64 y.rel,.int .i64 y.b,.slice na y.names.length nc,.int .u64 y.set.a,.int .u64 y.set.b,.int .u64 y.set.c,.int .u64 y.set.d,.slice ka y.kids.length kc]∧bV T [.int .i64 y.op,.int .i64 y.a,.int .i64 y.rel,.int .i64 y.b,.slice na y.names.length nc,.int .u64 y.set.a,.int .u64 y.set.b,.int .u64 y.set.c,.int .u64 y.set.d,.slice ka y.kids.length kc] y∧RowsIn wb.heap.size u T
theorem Nz(wb:World)(y:ak):eG (wD wb y):=fun _ _ _ ⟨na,nc,ka,kc,T,e,h,k⟩ hb=>⟨na,nc,ka,kc,T,e,h,k.keep hb⟩
def SlE(wb:World)(y:ak):Good:=fun v u=>∃ g na nc ka kc T,v=.slice (some ⟨g,0,none⟩) 1 1∧Whole u g 89 #[.int .i64 y.op,.int .i64 y.a,.int .i64 y.rel,.int .i64 y.b,.slice na y.names.length nc,.int .u64 y.set.a,.int .u64 y.set.b,.int .u64 y.set.c,.int .u64 y.set.d,.slice ka y.kids.length kc]∧bV T [.int .i64 y.op,.int .i64 y.a,.int .i64 y.rel,.int .i64 y.b,.slice na y.names.length nc,.int .u64 y.set.a,.int .u64 y.set.b,.int .u64 y.set.c,.int .u64 y.set.d,.slice ka y.kids.length kc] y∧RowsIn wb.heap.size u T
theorem RX(wb:World)(y:ak):eG (SlE wb y):=fun _ _ _ ⟨g,na,nc,ka,kc,T,e,hw,h,k⟩ hb=>⟨g,na,nc,ka,kc,T,e,Whole.under hb hw hw.lt,h,k.keep hb⟩
theorem zj{w:World}{g:Nat}{t:TypeId}{cs:List Value}{k:Nat}(h:Whole w g t cs.toArray)(hl:cs.length=k)(h1:∀ u∈cs,u.oneCell'=true):SliceAt w (.slice (some ⟨g,0,none⟩) 1 1) k 1 cs:=
 ⟨by simpa using hl,by decide,h1,.inr ⟨_,1,rfl,Nat.le_refl _,fun j u hu=>by rw[Addr.add_lit,Nat.zero_add,h.cell];simpa using hu⟩⟩
theorem WQ(e:ak):ak.node e.op e.a e.rel e.b e.names e.set e.kids=e:=by cases e;rfl
theorem R4{T T9:List Rw}{es:List (List Value)}{kids:List ak}{m:Nat}{x:List Value}{y:ak}(hl:es.length=m)(h:∀ (i:Nat) x y,es[i]?=some x→kids[i]?=some y→bV T x y)(hy:kids[m]?=some y)(hx:bV T9 x y):
 ∀ (i:Nat) x' y',(es++[x])[i]?=some x'→kids[i]?=some y'→bV (T++T9) x' y':=fun i x' y' h1 h2=>by
 by_cases hi:i<m
 ·rw[av4 (by omega)] at h1;exact(h i x' y' h1 h2).mono fun r hr=>av0.2 (.inl hr)
 ·have hlt:=(av3.1 h1).1;rw[av5,List.length_singleton,hl] at hlt;obtain rfl:i=m:=by omega
  rw[av6 (by omega),hl,Nat.sub_self] at h1;obtain rfl:x=x':=by simpa using h1
  obtain rfl:=avR (hy.symm.trans h2);exact hx.mono fun r hr=>av0.2 (.inr hr)
theorem jf{es:List (List Value)}{x:List Value}{k:Nat}(h:∀ z∈es,z.length=k)(hx:x.length=k):∀ z∈es++[x],z.length=k:=fun z hz=>by
 rcases av0.1 hz with hz|hz
 ·exact h z hz
 ·rw[avP.1 hz];exact hx
theorem fN{es:List (List Value)}{x:List Value}:es.flatten++x=(es++[x]).flatten:=by rw[List.flatten_append];simp
theorem SF{P:Program}{f:FuncId}{args:Array Value}{w wb:World}{y:ak}(h:Calls P f args w fun r w'=>∃ v,r=.returned v∧(wD w y v w'∧avZ w.heap.size w w'))(hi:avZ wb.heap.size wb w):Calls P f args w fun r w'=>∃ v,r=.returned v∧(wD wb y v w'∧avZ w.heap.size w w'):=
 h.mono fun _ _ ⟨v,e,⟨na,nc,ka,kc,T,h1,h2,h3⟩,hb⟩=>⟨v,e,⟨na,nc,ka,kc,T,h1,h2,h3.low hi.size⟩,hb⟩
theorem IK{B:Nat}{w0 w:World}{bs:List Bx}{rs:List Rw}{X:Prop}{f:FuncId}{args:Array Value}{e kk n:Nat}{xs:List Value}{K:Value→List Bx→List Rw→World→Prop}(M:aV B w0 w bs rs)
 (hc:Calls Tryz.prog f args w fun r w'=>∃ u,r=.returned u∧(w'.ownsRow w.heap.size e kk u n xs∧avZ w.heap.size w w')) (h:∀ a c w',aV B w0 w' bs (⟨.slice a n c,e,kk,n,xs⟩::rs)→K (.slice a n c) bs (⟨.slice a n c,e,kk,n,xs⟩::rs) w') :
 X∨∃ R:Value→World→Prop,(Calls Tryz.prog f args w fun e w'=>∃ v,e=.returned v∧R v w')∧∀ v w',R v w'→∃ bs' rs',aV B w0 w' bs' rs'∧K v bs' rs' w':=
 .inr ⟨_,hc,fun v w' ⟨h1,h2⟩=>by
  obtain⟨a,c,rfl,-,-⟩:=fQ h1;have M':=M.yu (r:=⟨.slice a n c,e,kk,n,xs⟩) h2 h1;exact⟨_,_,M',h a c w' M'⟩⟩
theorem Ys{α:Type}{l:List α}{i:Nat}{b:α}{f:List α→Prop}(hi:i<l.length)(h:f (l.set i b)):BW l i b f:=by
 induction l generalizing i f with
 | nil=>exact absurd hi (Nat.not_lt_zero _)
 | cons x r ih=>cases i with
  | zero=>exact h
  | succ i=>exact ih (f:=fun r'=>f (x::r')) (by simpa using hi) h
theorem Ej{B:Nat}{w0 w:World}{bs Te:List Bx}{rs Rs:List Rw}{u v:Value}{e kk Qu nn mm:Nat}{xs news:List Value}{k:Value→List Bx→List Rw→World→Prop}(i:Nat)(hM:aV B w0 w bs rs→aV B w0 w Te Rs)(hr:Rs[i]?=some ⟨v,e,kk,nn,xs⟩)(hs:SliceAt w u kk mm news)
 (hb:nn+mm≤maxLen∧(nn+mm)*Qu≤140737488355328) (h:∀ a c w',BW Rs i ⟨.slice a (nn+mm) c,e,kk,nn+mm,xs++news⟩ fun rs'=>aV B w0 w' Te rs'→k (.slice a (nn+mm) c) Te rs' w') (hW:Nat.beq e 52=false∨w0.heap.size≤B:=by first|exact .inl rfl|exact .inr (Nat.le_refl _)):apO B w0 bs rs w u v e kk Qu k:=
 ap i hM hr hs hb (fun v' w'=>Ys (av3.1 hr).1 fun M=>by
  obtain⟨a,c,rfl⟩:=M.form i (v:=v') (e:=e) (k:=kk) (n:=nn+mm) (xs:=xs++news) (by rw[List.getElem?_set_self (av3.1 hr).1]);exact Am (h a c w') M) hW
theorem rS{α:Type}{R:List Rw→List Value→α→Prop}(hm:∀ T T' x y,(∀ r∈T,r∈T')→R T x y→R T' x y){T T':List Rw}{es:List (List Value)}{l:List α}{m:Nat}{x:List Value}{y:α}(hl:es.length=m)(h:∀ (i:Nat) x y,es[i]?=some x→l[i]?=some y→R T x y)(hy:l[m]?=some y)(hs:∀ r∈T,r∈T')(hx:R T' x y):
 ∀ (i:Nat) x' y',(es++[x])[i]?=some x'→l[i]?=some y'→R T' x' y':=fun i x' y' h1 h2=>by
 by_cases hi:i<m
 ·rw[av4 (by omega)] at h1;exact hm _ _ _ _ hs (h i x' y' h1 h2)
 ·have hlt:=(av3.1 h1).1;rw[av5,List.length_singleton,hl] at hlt;obtain rfl:i=m:=by omega
  rw[av6 (by omega),hl,Nat.sub_self] at h1;obtain rfl:x=x':=by simpa using h1
  obtain rfl:=avR (hy.symm.trans h2);exact hx
theorem dA{α:Type}{f:α→List Value}{l:List α}(h:∀ x,(f x).all (·.oneCell')=true):∀ u∈l.flatMap f,u.oneCell'=true:=fun u hu=>by
 obtain⟨x,-,hx⟩:=List.mem_flatMap.1 hu;exact List.all_eq_true.1 (h x) u hx
theorem Nf:∀ (e:ak) (w0:World) (cs:List Value),aZ w0 cs e→mO e→Calls Tryz.prog 156 #[.agg cs.toArray] w0 (fun(r:Ending) (w':World)=>∃ v,r=.returned v∧(wD w0 e v w'∧avZ w0.heap.size w0 w')):=by
 refine ak.ind fun e ih=>?_
 intro w0 cs hE iY;obtain⟨nv,kv,rfl,D7,hkv⟩:=hE.open;obtain⟨_,_,rfl,-⟩:=aF.get D7;obtain⟨_,_,rfl,-,hkm,-⟩:=aq.form hkv (by decide);have hkl:=iY.parts;refine bP [] (fn:=Tryz.f156) Tryz.func156 rfl Tryz.ntmps156 rfl<|fun g1 w1 M1=>ei<|an sE fun g2 w2 M2=>lb 1<|an rfl<|lb 1<|an rfl<|IK M2 ((jk _ _ _ _ (D7.keep M2.below) (by omega)).mono fun _ _ ⟨v',e,h1,_,h3⟩=>⟨v',e,h1,h3⟩) fun na nc w3 M3=>lb 1<|an ⟨rfl,rfl⟩ fun w4 M4=>lb 1<|an ⟨rfl,rfl⟩ fun w5 M5=>?_
 refine lp (ι:=Nat×Value×List (List Value)×List Rw) (fun(m,u,es,T)=>[(15,.int .i64 (m:Int))]) (fun(m,u,es,T)=>[_,(g1,89,#[.int .i64 e.op,.int .i64 e.a,.int .i64 e.rel,.int .i64 e.b,.slice na e.names.length nc,.int .u64 e.set.a,.int .u64 e.set.b,.int .u64 e.set.c,.int .u64 e.set.d,u])]) (fun(m,u,es,T)=>⟨u,89,10,m,es.flatten⟩::_::T) (fun(m,u,es,T) _=>m≤e.kids.length∧es.length=m∧(∀ x∈es,x.length=10)∧∀ (i:Nat) x y,es[i]?=some x→e.kids[i]?=some y→bV T x y) (fun(m,u,es,T)=>e.kids.length-m) (0,.slice none 0 0,[],[]) (an ⟨⟨rfl,trivial⟩,fun M=>⟨M.bB 89 10,avX _,rfl,(fun _ h=>by cases h),fun i x y h=>by simp at h⟩⟩ ?_);rintro⟨m,u,es,T⟩ w M ⟨hm,hl,he,hR⟩;refine an (fun h=>?_) fun h=>?_
 ·have hlt:m<e.kids.length:=by simp at h;omega
  obtain⟨y,hy⟩:∃ y,e.kids[m]?=some y:=⟨_,av2 hlt⟩;have qV:=av7 hy;obtain⟨b,o,_,e1,sy,hc⟩:=aq.elt hkv (by decide) hy;obtain⟨_,_,rfl,hn',hk'⟩:=sy.open;obtain⟨_,_,rfl,-⟩:=aF.get hn';obtain⟨_,_,rfl,-⟩:=aq.form hk' (by decide);refine ia<|an ⟨e1,rfl,hlt⟩<|lc<|an (bY M.below hc)<|ei<|an sE fun g3 w7 M7=>lb 0<|an ⟨rfl,rfl⟩ fun w8 M8=>sp [0,1,2,6] (.step 3 (.step 4 (.step 5 (.last 7)))) [0,2] (by kernel_rfl)<|lb 0<|an rfl<|lb 1<|an rfl<|fun w9 P8 M9=>cg<|an (ih y qV _ _ (sy.keep M9.below) (iY.parts.2.2 y qV)) fun v qq ⟨⟨xa,xc,ka,kc,T9,hv,E1,Gt⟩,z_⟩=>⟨_,_,M9.bQ z_ Gt,?_⟩
  subst hv;exact an rfl<|fun g7 zS M11=>an rfl<|Ej 0 id rfl (M11.slice 0 rfl (k:=10) (n:=1) rfl rfl (by simp[maxLen])) ⟨by unfold maxLen;omega,by omega⟩ fun va vc DZ Bn=>an rfl<|lb 3<|an ⟨rfl,rfl⟩ fun Jb wz=>an (by omega)<|bk (m+1,.slice va (m+1) vc,es++[[.int .i64 y.op,.int .i64 y.a,.int .i64 y.rel,.int .i64 y.b,.slice xa y.names.length xc,.int .u64 y.set.a,.int .u64 y.set.b,.int .u64 y.set.c,.int .u64 y.set.d,.slice ka y.kids.length kc]],T++T9) ⟨rfl,trivial⟩ (fun M=>⟨(M.only (.cons _ (.cons _ (.refl _))) (.refl _)).cast rfl (by dsimp only;rw[← fN];rfl),by omega,by rw[av5,hl];rfl,jf he rfl,R4 hl hR hy E1⟩) (by dsimp only;omega)
 obtain rfl:m=e.kids.length:=by simp at h;omega
 obtain⟨x1,y1,rfl⟩:=M.form 0 rfl
 exact lb 1<|an rfl<|lb 0<|an ⟨rfl,rfl⟩ fun w M=>ei (x:=0)<|an rfl fun M=>⟨_,rfl,⟨_,_,_,_,_,rfl,(by
  have h:=bV.node (T:=_) (op:=e.op) (a:=e.a) (rel:=e.rel) (b:=e.b) (names:=e.names) (set:=e.set) (kids:=e.kids) (es:=es) (nv:=.slice na e.names.length nc) (kv:=.slice x1 e.kids.length y1) rfl rfl (av8 _ (av9 ..)) (av9 ..) hl he (fun i x y h1 h2=>(hR i x y h1 h2).mono fun r hr=>av8 _ (av8 _ hr))
  rwa [WQ] at h),M.bC⟩,M.below⟩
def wF(T:List Rw)(x:List Value)(y:jL):Prop:=∃ a c,x=[.string y.name,.slice a y.perms.length c]∧(⟨.slice a y.perms.length c,9,1,y.perms.length,y.perms.flatMap aT⟩:Rw)∈T
def wv(T:List Rw)(x:List Value)(y:mT):Prop:=∃ a c,x=[.string y.name,.slice a y.oW.length c,.bool y.perm]∧(⟨.slice a y.oW.length c,9,1,y.oW.length,y.oW.flatMap aT⟩:Rw)∈T
def wE(T:List Rw)(x:List Value)(y:p7):Prop:=∃ es,x=[.int .i64 y.cls,.int .u32 y.perms,.bool y.val]++es∧bV T es y.expr
theorem wF.mono{T T':List Rw}(hs:∀ r∈T,r∈T'){x:List Value}{y:jL}(h:wF T x y):wF T' x y:=by
 obtain⟨a,c,e,h⟩:=h;exact⟨a,c,e,hs _ h⟩
theorem wv.mono{T T':List Rw}(hs:∀ r∈T,r∈T'){x:List Value}{y:mT}(h:wv T x y):wv T' x y:=by
 obtain⟨a,c,e,h⟩:=h;exact⟨a,c,e,hs _ h⟩
theorem wE.mono{T T':List Rw}(hs:∀ r∈T,r∈T'){x:List Value}{y:p7}(h:wE T x y):wE T' x y:=by
 obtain⟨es,e,h⟩:=h;exact⟨es,e,h.mono hs⟩
theorem wF.at_{T:List Rw}{B:Nat}{w:World}(hT:RowsIn B w T){x:List Value}{y:jL}(h:wF T x y):rN w x y:=by
 obtain⟨a,c,e,h⟩:=h;exact⟨_,e,SliceAt.bq (hT.1 _ h) (FR _)⟩
theorem wv.at_{T:List Rw}{B:Nat}{w:World}(hT:RowsIn B w T){x:List Value}{y:mT}(h:wv T x y):rJ w x y:=by
 obtain⟨a,c,e,h⟩:=h;exact⟨_,e,SliceAt.bq (hT.1 _ h) (FR _)⟩
theorem wE.at_{T:List Rw}{B:Nat}{w:World}(hT:RowsIn B w T){x:List Value}{y:p7}(h:wE T x y):rM w x y:=by
 obtain⟨es,e,h⟩:=h;exact⟨es,e,h.at_ hT⟩
theorem wF.one{T:List Rw}{x:List Value}{y:jL}(h:wF T x y):∀ u∈x,u.oneCell'=true:=by
 obtain⟨a,c,rfl,-⟩:=h;intro u hu;simp only[av1,List.not_mem_nil,or_false] at hu;rcases hu with rfl|rfl<;>rfl
theorem wv.one{T:List Rw}{x:List Value}{y:mT}(h:wv T x y):∀ u∈x,u.oneCell'=true:=by
 obtain⟨a,c,rfl,-⟩:=h;intro u hu;simp only[av1,List.not_mem_nil,or_false] at hu;rcases hu with rfl|rfl|rfl<;>rfl
theorem wE.one{T:List Rw}{x:List Value}{y:p7}(h:wE T x y):∀ u∈x,u.oneCell'=true:=by
 obtain⟨es,rfl,h⟩:=h;intro u hu;rcases av0.1 hu with hu|hu
 ·simp only[av1,List.not_mem_nil,or_false] at hu;rcases hu with rfl|rfl|rfl<;>rfl
 ·exact h.one u hu
theorem uX{α:Type}{k:Nat}{R:List Value→α→Prop}{w:World}{B e n:Nat}{v:Value}{es:List (List Value)}{l:List α}(ho:w.ownsRow B e k v n es.flatten)(hn:n=l.length)(hl:es.length=n)(hk:∀ x∈es,x.length=k)(h1:∀ (i:Nat) x y,es[i]?=some x→l[i]?=some y→R x y)(hone:∀ x y,R x y→∀ u∈x,u.oneCell'=true):aq k R w v l:=by
 subst hn;refine⟨es,hl,hk,SliceAt.bq ho fun u hu=>?_,h1⟩;obtain⟨x,hx,hux⟩:=List.mem_flatten.1 hu;obtain⟨i,hi⟩:=List.getElem?_of_mem hx;obtain⟨y,hy⟩:∃ y,l[i]?=some y:=⟨_,av2 (by have:=(av3.1 hi).1;rw[hl] at this;exact this)⟩;exact hone x y (h1 i x y hi hy) u hux
theorem qI{α:Type}{k:Nat}{R R':List Value→α→Prop}{w:World}{v:Value}{l:List α}(h:aq k R w v l)(hr:∀ x y,R x y→R' x y):aq k R' w v l:=by
 obtain⟨es,h1,h2,h3,h4⟩:=h;exact⟨es,h1,h2,h3,fun i x y hx hy=>hr x y (h4 i x y hx hy)⟩
structure nE (p:aA):Prop where
 classes:p.classes.length≤1000000
 perms:∀ x∈p.classes,x.perms.length≤1000000
 types:p.types.length≤1000000
 oW:∀ x∈p.types,x.oW.length≤1000000
 attrs:p.attrs.length≤1000000
 roles:p.roles.length≤1000000
 users:p.users.length≤1000000
 bools:p.bools.length≤1000000
 aW:p.aW.length≤1000000
 cats:p.cats.length≤1000000
 conds:p.conds.length≤1000000
 Qp:∀ x∈p.conds,mO x
 rules:p.rules.length≤1000000
 trans:p.trans.length≤1000000
 aS:p.aS.length≤1000000
 ranges:p.ranges.length≤1000000
 cons:p.cons.length≤1000000
 akc:∀ x∈p.cons,mO x.expr
 bL:p.bL.length≤1000000
 files:p.files.length≤1000000
 asserts:p.asserts.length≤1000000
def En(wb:World)(p:aA):Good:=fun v u=>∃ x0 n0 x1 n1 x2 n2 x3 n3 x4 n4 x5 n5 x6 n6 x7 n7 x8 n8 x9 n9 x10 n10 qh n11 qg n12 Lz n13 Lx n14 Lw n15 Lv n16 T,v=.agg #[.slice x0 p.classes.length n0,.slice x1 p.types.length n1,.slice x2 p.attrs.length n2,.slice x3 p.roles.length n3,.slice x4 p.users.length n4,.slice x5 p.bools.length n5,.slice x6 p.aW.length n6,.slice x7 p.cats.length n7,.slice x8 p.conds.length n8,.slice x9 p.rules.length n9,.slice x10 p.trans.length n10,.slice qh p.aS.length n11,.slice qg p.ranges.length n12,.slice Lz p.cons.length n13,.slice Lx p.bL.length n14,.slice Lw p.files.length n15,.slice Lv p.asserts.length n16]∧RowsIn wb.heap.size u T∧∀ B u',RowsIn B u' T→aJ u' (.slice x0 p.classes.length n0) (.slice x1 p.types.length n1) (.slice x2 p.attrs.length n2) (.slice x3 p.roles.length n3) (.slice x4 p.users.length n4) (.slice x5 p.bools.length n5) (.slice x6 p.aW.length n6) (.slice x7 p.cats.length n7) (.slice x8 p.conds.length n8) (.slice x9 p.rules.length n9) (.slice x10 p.trans.length n10) (.slice qh p.aS.length n11) (.slice qg p.ranges.length n12) (.slice Lz p.cons.length n13) (.slice Lx p.bL.length n14) (.slice Lw p.files.length n15) (.slice Lv p.asserts.length n16) p
theorem yI(w0:World)(c0 c1 c2 c3 c4 c5 c6 c7 c8 c9 aQ aL aK aP aO aN aM:Value)(p:aA)(hp:aJ w0 c0 c1 c2 c3 c4 c5 c6 c7 c8 c9 aQ aL aK aP aO aN aM p)(iY:nE p):Calls Tryz.prog 81 #[.agg #[c0,c1,c2,c3,c4,c5,c6,c7,c8,c9,aQ,aL,aK,aP,aO,aN,aM]] w0 (fun(r:Ending) (w':World)=>∃ v,r=.returned v∧(En w0 p v w'∧avZ w0.heap.size w0 w')):=by
 obtain⟨a0,a1,a2,a3,a4,a5,a6,a7,a8,a9,TV,OG,a12,XE,OE,OD,OC,k0,k1,k2,k3,k4,k5,k6,k7,k8,k9,k10,k11,k12,k13,k14,k15,k16,rfl,rfl,rfl,rfl,rfl,rfl,rfl,rfl,rfl,rfl,rfl,rfl,rfl,rfl,rfl,rfl,rfl⟩:=hp.open;refine bP [] (fn:=Tryz.f81) Tryz.func81 rfl Tryz.ntmps81 rfl<|fun g1 w1 M1=>ei<|an kE fun g2 w2 M2=>lb 1<|an rfl<|ei<|an kE fun g3 w3 M3=>lb 0<|an ⟨rfl,rfl⟩ fun w4 M4=>lb 0<|an ⟨rfl,rfl⟩ fun w5 M5=>lb 0<|an ⟨rfl,rfl⟩ fun w6 M6=>lb 0<|an ⟨rfl,rfl⟩ fun w7 M7=>lb 0<|an ⟨rfl,rfl⟩ fun w8 M8=>?_
 clear M1 M2 M3 M4 M5 M6 M7 M8;refine lb 2<|an rfl<|lp (ι:=Nat×Value×List (List Value)×List Rw) (fun(m0,u,Qf,T0)=>[(20,.int .i64 (m0:Int))]) (fun(m0,u,Qf,T0)=>(g3,39,#[u,.slice none 0 0,.slice a2 p.attrs.length k2,.slice a3 p.roles.length k3,.slice a4 p.users.length k4,.slice a5 p.bools.length k5,.slice a6 p.aW.length k6,.slice a7 p.cats.length k7,.slice none 0 0,.slice a9 p.rules.length k9,.slice TV p.trans.length k10,.slice OG p.aS.length k11,.slice a12 p.ranges.length k12,.slice none 0 0,.slice OE p.bL.length k14,.slice OD p.files.length k15,.slice OC p.asserts.length k16])::_) (fun(m0,u,Qf,T0)=>⟨u,180,2,m0,Qf.flatten⟩::([]++T0)) (fun(m0,u,Qf,T0) _=>m0≤p.classes.length∧Qf.length=m0∧(∀ x∈Qf,x.length=2)∧(∀ (i:Nat) x y,Qf[i]?=some x→p.classes[i]?=some y→wF T0 x y)∧∀ r∈([]:List Rw),r∈T0) (fun(m0,u,Qf,T0)=>p.classes.length-m0) (0,.slice none 0 0,[],[]) (an ⟨⟨rfl,trivial⟩,fun M=>⟨M.bB 180 2,avX _,rfl,(fun _ h=>by cases h),(fun i x y h=>by simp at h),fun _ h=>h⟩⟩ ?_);rintro⟨m0,u,Qf,T0⟩ w M ⟨hm0,hl0,he0,hR0,hs0⟩;refine an (fun h=>?_) fun h=>?_
 ·have hlt:m0<p.classes.length:=by simp at h;omega
  have hB:=iY.classes;obtain⟨y,hy⟩:∃ y,p.classes[m0]?=some y:=⟨_,av2 hlt⟩;obtain⟨b,o,_,e,⟨pv,rfl,hpv⟩,hc⟩:=aq.elt hp.classes (by decide) hy;obtain⟨_,_,rfl,-⟩:=aF.get hpv;have hsY:=iY.perms y (av7 hy);exact ia<|an ⟨e,rfl,hlt⟩<|lc<|an (bY M.below hc)<|ei<|an O1 fun g4 w9 M9=>lb 0<|an ⟨rfl,rfl⟩ fun qq jZ=>lb 0<|an rfl<|IK jZ ((jk _ _ _ _ (hpv.keep jZ.below) (by omega)).mono fun _ _ ⟨v',e,h1,_,h3⟩=>⟨v',e,h1,h3⟩) fun pa pc zS M11=>lb 0<|an ⟨rfl,rfl⟩ fun DZ Bn=>lb 1<|an rfl<|lb 0<|an rfl<|fun g5 Jb wz=>Ej 1 id rfl (wz.slice 0 rfl (k:=2) (n:=1) rfl rfl (by simp[maxLen])) ⟨by unfold maxLen;omega,by omega⟩ fun va vc Uv IL=>lb 2<|an ⟨rfl,rfl⟩ fun O4 Fp=>an (by omega)<|bk (m0+1,.slice va (m0+1) vc,Qf++[[.string y.name,.slice pa y.perms.length pc]],⟨.slice pa y.perms.length pc,9,1,y.perms.length,y.perms.flatMap aT⟩::T0) ⟨rfl,trivial⟩ (fun M=>⟨((M.only (.cons _ (.cons _ (.refl _))) (.refl _)).perm (List.perm_middle (l₁:=_::[])).symm).cast rfl (by dsimp only;rw[← fN];rfl),by omega,by rw[av5,hl0];rfl,jf he0 rfl,rS (R:=wF) (fun _ _ _ _ hs0 h=>wF.mono hs0 h) hl0 hR0 hy (fun r hr=>av8 _ hr) ⟨_,_,rfl,av9 ..⟩,fun r hr=>av8 _ (hs0 r hr)⟩) (by dsimp only;omega)
 have hq0:m0=p.classes.length:=by simp at h;omega
 obtain⟨x0,y0,rfl⟩:=M.form 0 rfl;clear M h;refine lb 2<|an rfl<|lp (ι:=Nat×Value×List (List Value)×List Rw) (fun(m1,u,SG,T1)=>[(38,.int .i64 (m1:Int))]) (fun(m1,u,SG,T1)=>(g3,39,#[.slice x0 m0 y0,u,.slice a2 p.attrs.length k2,.slice a3 p.roles.length k3,.slice a4 p.users.length k4,.slice a5 p.bools.length k5,.slice a6 p.aW.length k6,.slice a7 p.cats.length k7,.slice none 0 0,.slice a9 p.rules.length k9,.slice TV p.trans.length k10,.slice OG p.aS.length k11,.slice a12 p.ranges.length k12,.slice none 0 0,.slice OE p.bL.length k14,.slice OD p.files.length k15,.slice OC p.asserts.length k16])::_) (fun(m1,u,SG,T1)=>⟨u,86,3,m1,SG.flatten⟩::([(⟨.slice x0 m0 y0,180,2,m0,Qf.flatten⟩:Rw)]++T1)) (fun(m1,u,SG,T1) _=>m1≤p.types.length∧SG.length=m1∧(∀ x∈SG,x.length=3)∧(∀ (i:Nat) x y,SG[i]?=some x→p.types[i]?=some y→wv T1 x y)∧∀ r∈(T0:List Rw),r∈T1) (fun(m1,u,SG,T1)=>p.types.length-m1) (0,.slice none 0 0,[],T0) (an ⟨⟨rfl,trivial⟩,fun M=>⟨M.bB 86 3,avX _,rfl,(fun _ h=>by cases h),(fun i x y h=>by simp at h),fun _ h=>h⟩⟩ ?_);rintro⟨m1,u,SG,T1⟩ w M ⟨hm1,hl1,vJ,hR1,hs1⟩;refine an (fun h=>?_) fun h=>?_
 ·have hlt:m1<p.types.length:=by simp at h;omega
  have hB:=iY.types;obtain⟨y,hy⟩:∃ y,p.types[m1]?=some y:=⟨_,av2 hlt⟩;obtain⟨b,o,_,e,⟨pv,rfl,hpv⟩,hc⟩:=aq.elt hp.types (by decide) hy;obtain⟨_,_,rfl,-⟩:=aF.get hpv;have hsY:=iY.oW y (av7 hy);exact ia<|an ⟨e,rfl,hlt⟩<|lc<|an (bY M.below hc)<|ei<|an abg fun g4 w9 M9=>lb 0<|an ⟨rfl,rfl⟩ fun qq jZ=>lb 0<|an rfl<|IK jZ ((jk _ _ _ _ (hpv.keep jZ.below) (by omega)).mono fun _ _ ⟨v',e,h1,_,h3⟩=>⟨v',e,h1,h3⟩) fun pa pc zS M11=>lb 0<|an ⟨rfl,rfl⟩ fun DZ Bn=>lb 1<|an rfl<|lb 0<|an rfl<|fun g5 Jb wz=>Ej 1 id rfl (wz.slice 0 rfl (k:=3) (n:=1) rfl rfl (by simp[maxLen])) ⟨by unfold maxLen;omega,by omega⟩ fun va vc Uv IL=>lb 2<|an ⟨rfl,rfl⟩ fun O4 Fp=>an (by omega)<|bk (m1+1,.slice va (m1+1) vc,SG++[[.string y.name,.slice pa y.oW.length pc,.bool y.perm]],⟨.slice pa y.oW.length pc,9,1,y.oW.length,y.oW.flatMap aT⟩::T1) ⟨rfl,trivial⟩ (fun M=>⟨((M.only (.cons _ (.cons _ (.refl _))) (.refl _)).perm (List.perm_middle (l₁:=_::[(⟨.slice x0 m0 y0,180,2,m0,Qf.flatten⟩:Rw)])).symm).cast rfl (by dsimp only;rw[← fN];rfl),by omega,by rw[av5,hl1];rfl,jf vJ rfl,rS (R:=wv) (fun _ _ _ _ hs1 h=>wv.mono hs1 h) hl1 hR1 hy (fun r hr=>av8 _ hr) ⟨_,_,rfl,av9 ..⟩,fun r hr=>av8 _ (hs1 r hr)⟩) (by dsimp only;omega)
 have hq1:m1=p.types.length:=by simp at h;omega
 obtain⟨x1,y1,rfl⟩:=M.form 0 rfl;clear M h;refine lb 2<|an rfl<|lp (ι:=Nat×Value×List (List Value)×List Rw) (fun(m8,u,WR,T8)=>[(56,.int .i64 (m8:Int))]) (fun(m8,u,WR,T8)=>(g3,39,#[.slice x0 m0 y0,.slice x1 m1 y1,.slice a2 p.attrs.length k2,.slice a3 p.roles.length k3,.slice a4 p.users.length k4,.slice a5 p.bools.length k5,.slice a6 p.aW.length k6,.slice a7 p.cats.length k7,u,.slice a9 p.rules.length k9,.slice TV p.trans.length k10,.slice OG p.aS.length k11,.slice a12 p.ranges.length k12,.slice none 0 0,.slice OE p.bL.length k14,.slice OD p.files.length k15,.slice OC p.asserts.length k16])::_) (fun(m8,u,WR,T8)=>⟨u,89,10,m8,WR.flatten⟩::([(⟨.slice x1 m1 y1,86,3,m1,SG.flatten⟩:Rw),(⟨.slice x0 m0 y0,180,2,m0,Qf.flatten⟩:Rw)]++T8)) (fun(m8,u,WR,T8) _=>m8≤p.conds.length∧WR.length=m8∧(∀ x∈WR,x.length=10)∧(∀ (i:Nat) x y,WR[i]?=some x→p.conds[i]?=some y→bV T8 x y)∧∀ r∈(T1:List Rw),r∈T8) (fun(m8,u,WR,T8)=>p.conds.length-m8) (0,.slice none 0 0,[],T1) (an ⟨⟨rfl,trivial⟩,fun M=>⟨M.bB 89 10,avX _,rfl,(fun _ h=>by cases h),(fun i x y h=>by simp at h),fun _ h=>h⟩⟩ ?_);rintro⟨m8,u,WR,T8⟩ w M ⟨hm8,Zd,he8,hR8,hs8⟩;refine an (fun h=>?_) fun h=>?_
 ·have hlt:m8<p.conds.length:=by simp at h;omega
  have hB:=iY.conds;obtain⟨y,hy⟩:∃ y,p.conds[m8]?=some y:=⟨_,av2 hlt⟩;obtain⟨b,o,_,e,hE,hc⟩:=aq.elt hp.conds (by decide) hy;obtain⟨_,_,rfl,hn,hk⟩:=hE.open;obtain⟨_,_,rfl,-⟩:=aF.get hn;obtain⟨_,_,rfl,-⟩:=aq.form hk (by decide);have hsY:=iY.Qp y (av7 hy);refine ia<|an ⟨e,rfl,hlt⟩<|lc<|an (bY M.below hc)<|ei<|an sE fun g4 w9 M9=>lb 0<|an ⟨rfl,rfl⟩ fun qq jZ=>?_
  refine dr (by kernel_rfl)<|lb 1<|an rfl<|lb 0<|an rfl<|cr (wD qq y)<|an (Nz _ _)<|an (fun w' hb' M'=>SF (Nf y _ _ (hE.keep M'.below) hsY) hb')<|br (SlE qq y)<|an (RX _ _)<|an (fun u w1 a o' hb M' hu hop oV=>?_)<|fun u zS hu yp M11=>?_
  ·obtain⟨na,nc,ka,kc,T9,rfl,E1,Gt⟩:=hu;obtain⟨v,w2,h1,⟨g,h2,h3,h4⟩,h5⟩:=bK (w:=qq) (p:=fun _=>True) (kk:=10) (b:=112) (by kernel_rfl) rfl rfl (by decide) (by decide) (by simp[Value.cells]) rfl w1 a o' hb trivial hop oV;exact⟨v,w2,h1,⟨g,na,nc,ka,kc,T9,h2,h3,E1,Gt.keep h5⟩,h5⟩
  obtain⟨g,na,nc,ka,kc,T9,rfl,hW,E1,Gt⟩:=hu;exact Ej 0 (fun _=>jZ.bQ yp Gt) rfl (zj hW rfl E1.one) ⟨by unfold maxLen;omega,by omega⟩ fun va vc DZ Bn=>lb 1<|an ⟨rfl,rfl⟩ fun Jb wz=>an (by omega)<|bk (m8+1,.slice va (m8+1) vc,WR++[[.int .i64 y.op,.int .i64 y.a,.int .i64 y.rel,.int .i64 y.b,.slice na y.names.length nc,.int .u64 y.set.a,.int .u64 y.set.b,.int .u64 y.set.c,.int .u64 y.set.d,.slice ka y.kids.length kc]],T8++T9) ⟨rfl,trivial⟩ (fun M=>⟨(M.only (.cons _ (.refl _)) (.refl _)).cast rfl (by dsimp only;rw[← fN];simp),by omega,by rw[av5,Zd];rfl,jf he8 rfl,rS (R:=bV) (fun _ _ _ _ hs8 h=>bV.mono hs8 h) Zd hR8 hy (fun r hr=>av0.2 (.inl hr)) (E1.mono fun r hr=>av0.2 (.inr hr)),fun r hr=>av0.2 (.inl (hs8 r hr))⟩) (by dsimp only;omega)
 have hq8:m8=p.conds.length:=by simp at h;omega
 obtain⟨x8,y8,rfl⟩:=M.form 0 rfl;clear M h;refine lb 2<|an rfl<|lp (ι:=Nat×Value×List (List Value)×List Rw) (fun(m13,u,D_,Tq)=>[(71,.int .i64 (m13:Int))]) (fun(m13,u,D_,Tq)=>(g3,39,#[.slice x0 m0 y0,.slice x1 m1 y1,.slice a2 p.attrs.length k2,.slice a3 p.roles.length k3,.slice a4 p.users.length k4,.slice a5 p.bools.length k5,.slice a6 p.aW.length k6,.slice a7 p.cats.length k7,.slice x8 m8 y8,.slice a9 p.rules.length k9,.slice TV p.trans.length k10,.slice OG p.aS.length k11,.slice a12 p.ranges.length k12,u,.slice OE p.bL.length k14,.slice OD p.files.length k15,.slice OC p.asserts.length k16])::_) (fun(m13,u,D_,Tq)=>⟨u,91,13,m13,D_.flatten⟩::([(⟨.slice x8 m8 y8,89,10,m8,WR.flatten⟩:Rw),(⟨.slice x1 m1 y1,86,3,m1,SG.flatten⟩:Rw),(⟨.slice x0 m0 y0,180,2,m0,Qf.flatten⟩:Rw)]++Tq)) (fun(m13,u,D_,Tq) _=>m13≤p.cons.length∧D_.length=m13∧(∀ x∈D_,x.length=13)∧(∀ (i:Nat) x y,D_[i]?=some x→p.cons[i]?=some y→wE Tq x y)∧∀ r∈(T8:List Rw),r∈Tq) (fun(m13,u,D_,Tq)=>p.cons.length-m13) (0,.slice none 0 0,[],T8) (an ⟨⟨rfl,trivial⟩,fun M=>⟨M.bB 91 13,avX _,rfl,(fun _ h=>by cases h),(fun i x y h=>by simp at h),fun _ h=>h⟩⟩ ?_);rintro⟨m13,u,D_,Tq⟩ w M ⟨ai5,acv,afP,af6,Sd⟩;refine an (fun h=>?_) fun h=>?_
 ·have hlt:m13<p.cons.length:=by simp at h;omega
  have hB:=iY.cons;obtain⟨y,hy⟩:∃ y,p.cons[m13]?=some y:=⟨_,av2 hlt⟩;obtain⟨b,o,_,e,⟨_,rfl,hE⟩,hc⟩:=aq.elt hp.cons (by decide) hy;obtain⟨_,_,rfl,hn,hk⟩:=hE.open;obtain⟨_,_,rfl,-⟩:=aF.get hn;obtain⟨_,_,rfl,-⟩:=aq.form hk (by decide);have hsY:=iY.akc y (av7 hy);refine ia<|an ⟨e,rfl,hlt⟩<|lc<|an (bY M.below hc)<|ei<|an QK fun g4 w9 M9=>lb 0<|an ⟨rfl,rfl⟩ fun qq jZ=>?_
  refine lb 0<|an rfl<|cg<|an (Nf y.expr _ _ (hE.keep jZ.below) hsY) fun v zS ⟨⟨na,nc,ka,kc,T9,hv,E1,Gt⟩,yp⟩=>⟨_,_,jZ.bQ yp Gt,?_⟩
  subst hv;exact lb 0<|an ⟨rfl,rfl⟩ fun DZ Bn=>lb 1<|an rfl<|lb 0<|an rfl<|fun g5 Jb wz=>Ej 0 id rfl (wz.slice 0 rfl (k:=13) (n:=1) rfl rfl (by simp[maxLen])) ⟨by unfold maxLen;omega,by omega⟩ fun va vc Uv IL=>lb 2<|an ⟨rfl,rfl⟩ fun O4 Fp=>an (by omega)<|bk (m13+1,.slice va (m13+1) vc,D_++[[.int .i64 y.cls,.int .u32 y.perms,.bool y.val,.int .i64 y.expr.op,.int .i64 y.expr.a,.int .i64 y.expr.rel,.int .i64 y.expr.b,.slice na y.expr.names.length nc,.int .u64 y.expr.set.a,.int .u64 y.expr.set.b,.int .u64 y.expr.set.c,.int .u64 y.expr.set.d,.slice ka y.expr.kids.length kc]],Tq++T9) ⟨rfl,trivial⟩ (fun M=>⟨(M.only (.cons _ (.cons _ (.refl _))) (.refl _)).cast rfl (by dsimp only;rw[← fN];simp),by omega,by rw[av5,acv];rfl,jf afP rfl,rS (R:=wE) (fun _ _ _ _ Sd h=>wE.mono Sd h) acv af6 hy (fun r hr=>av0.2 (.inl hr)) ⟨_,rfl,E1.mono fun r hr=>av0.2 (.inr hr)⟩,fun r hr=>av0.2 (.inl (Sd r hr))⟩) (by dsimp only;omega)
 have aiS:m13=p.cons.length:=by simp at h;omega
 obtain⟨Lz,y13,rfl⟩:=M.form 0 rfl;clear M h;refine sp [0,1,3,4,6,7,9,10,12,14,16,18] (.step 2 (.step 5 (.step 8 (.step 11 (.step 13 (.step 15 (.step 17 (.step 19 (.done))))))))) [0] (by kernel_rfl)<|lb 0<|an rfl<|lb 0<|an rfl<|lb 0<|an rfl<|lb 0<|an rfl<|fun w hb M=>IK M ((Ii _ _ _ _ (hp.attrs.keep M.below) (by have:=iY.attrs;omega)).mono fun _ _ ⟨v',e,h1,_,h3⟩=>⟨v',e,h1,h3⟩) fun x2 y2 w M=>an rfl<|IK M ((Ie _ _ _ _ (hp.roles.keep M.below) (by have:=iY.roles;omega)).mono fun _ _ ⟨v',e,h1,_,h3⟩=>⟨v',e,h1,h3⟩) fun x3 y3 w M=>an rfl<|IK M ((Ia _ _ _ _ (hp.users.keep M.below) (by have:=iY.users;omega)).mono fun _ _ ⟨v',e,h1,_,h3⟩=>⟨v',e,h1,h3⟩) fun x4 y4 w M=>an rfl<|IK M ((H8 _ _ _ _ (hp.bools.keep M.below) (by have:=iY.bools;omega)).mono fun _ _ ⟨v',e,h1,_,h3⟩=>⟨v',e,h1,h3⟩) fun x5 y5 w M=>an rfl<|lb 0<|an ⟨rfl,rfl⟩ fun w M=>an rfl<|lb 0<|an ⟨rfl,rfl⟩ fun w M=>an rfl<|lb 0<|an ⟨rfl,rfl⟩ fun w M=>an rfl<|lb 0<|an ⟨rfl,rfl⟩ fun w M=>an rfl<|?_
 refine sp [0,1,3,4,6,7,9,10,12,14,16,18] (.step 2 (.step 5 (.step 8 (.step 11 (.step 13 (.step 15 (.step 17 (.step 19 (.done))))))))) [0] (by kernel_rfl)<|lb 0<|an rfl<|lb 0<|an rfl<|lb 0<|an rfl<|lb 0<|an rfl<|fun w hb M=>IK M ((jk _ _ _ _ (hp.aW.keep M.below) (by have:=iY.aW;omega)).mono fun _ _ ⟨v',e,h1,_,h3⟩=>⟨v',e,h1,h3⟩) fun x6 y6 w M=>an rfl<|IK M ((jk _ _ _ _ (hp.cats.keep M.below) (by have:=iY.cats;omega)).mono fun _ _ ⟨v',e,h1,_,h3⟩=>⟨v',e,h1,h3⟩) fun x7 y7 w M=>an rfl<|IK M ((HZ _ _ _ _ (hp.rules.keep M.below) (by have:=iY.rules;omega)).mono fun _ _ ⟨v',e,h1,_,h3⟩=>⟨v',e,h1,h3⟩) fun x9 y9 w M=>an rfl<|IK M ((Hz _ _ _ _ (hp.trans.keep M.below) (by have:=iY.trans;omega)).mono fun _ _ ⟨v',e,h1,_,h3⟩=>⟨v',e,h1,h3⟩) fun x10 uI w M=>an rfl<|lb 0<|an ⟨rfl,rfl⟩ fun w M=>an rfl<|lb 0<|an ⟨rfl,rfl⟩ fun w M=>an rfl<|lb 0<|an ⟨rfl,rfl⟩ fun w M=>an rfl<|lb 0<|an ⟨rfl,rfl⟩ fun w M=>an rfl<|?_
 refine sp [0,1,3,4,6,7,9,11,13] (.step 2 (.step 5 (.step 8 (.step 10 (.step 12 (.step 14 (.done))))))) [0] (by kernel_rfl)<|lb 0<|an rfl<|lb 0<|an rfl<|lb 0<|an rfl<|fun w hb M=>IK M ((Hw _ _ _ _ (hp.aS.keep M.below) (by have:=iY.aS;omega)).mono fun _ _ ⟨v',e,h1,_,h3⟩=>⟨v',e,h1,h3⟩) fun qh DS w M=>an rfl<|IK M ((Ht _ _ _ _ (hp.ranges.keep M.below) (by have:=iY.ranges;omega)).mono fun _ _ ⟨v',e,h1,_,h3⟩=>⟨v',e,h1,h3⟩) fun qg DR w M=>an rfl<|IK M ((Hq _ _ _ _ (hp.bL.keep M.below) (by have:=iY.bL;omega)).mono fun _ _ ⟨v',e,h1,_,h3⟩=>⟨v',e,h1,h3⟩) fun Lx y14 w M=>an rfl<|lb 0<|an ⟨rfl,rfl⟩ fun w M=>an rfl<|lb 0<|an ⟨rfl,rfl⟩ fun w M=>an rfl<|lb 0<|an ⟨rfl,rfl⟩ fun w M=>an rfl<|?_
 refine sp [0,1,3,4,6,8] (.step 2 (.step 5 (.step 7 (.step 9 (.done))))) [0] (by kernel_rfl)<|lb 0<|an rfl<|lb 0<|an rfl<|fun w hb M=>IK M ((Hl _ _ _ _ (hp.files.keep M.below) (by have:=iY.files;omega)).mono fun _ _ ⟨v',e,h1,_,h3⟩=>⟨v',e,h1,h3⟩) fun Lw y15 w M=>an rfl<|IK M ((Hf _ _ _ _ (hp.asserts.keep M.below) (by have:=iY.asserts;omega)).mono fun _ _ ⟨v',e,h1,_,h3⟩=>⟨v',e,h1,h3⟩) fun Lv y16 w M=>an rfl<|lb 0<|an ⟨rfl,rfl⟩ fun w M=>an rfl<|lb 0<|an ⟨rfl,rfl⟩ fun w M=>an rfl<|?_
 refine lb 0<|an rfl<|lb 1<|an ⟨rfl,rfl⟩ fun w M=>ei (x:=1)<|an rfl fun M=>?_
 subst hq0 hq1 hq8 aiS
 exact⟨_,rfl,⟨_,_,_,_,_,_,_,_,_,_,_,_,_,_,_,_,_,_,_,_,_,_,_,_,_,_,_,_,_,_,_,_,_,_,_,rfl,M.bC,fun B u qZ=>⟨qI (uX (R:=wF _) (qZ.1 _ (av7 (i:=16) rfl)) rfl hl0 he0 (fun i x y h1 h2=>wF.mono (fun r hr=>show r∈[_,_,_,_,_,_,_,_,_,_,_,_,_,_,_,_,_]++Tq from av0.2 (.inr (Sd r (hs8 r (hs1 r hr))))) (hR0 i x y h1 h2)) fun _ _ h=>wF.one h) fun _ _ h=>wF.at_ qZ h,
  qI (uX (R:=wv _) (qZ.1 _ (av7 (i:=15) rfl)) rfl hl1 vJ (fun i x y h1 h2=>wv.mono (fun r hr=>show r∈[_,_,_,_,_,_,_,_,_,_,_,_,_,_,_,_,_]++Tq from av0.2 (.inr (Sd r (hs8 r hr)))) (hR1 i x y h1 h2)) fun _ _ h=>wv.one h) fun _ _ h=>wv.at_ qZ h,
  SliceAt.bq (qZ.1 _ (av7 (i:=12) rfl)) (dA fun _=>rfl),
  SliceAt.bq (qZ.1 _ (av7 (i:=11) rfl)) (dA fun _=>rfl),
  SliceAt.bq (qZ.1 _ (av7 (i:=10) rfl)) (dA fun _=>rfl),
  SliceAt.bq (qZ.1 _ (av7 (i:=9) rfl)) (dA fun _=>rfl),
  SliceAt.bq (qZ.1 _ (av7 (i:=8) rfl)) (Jp _),
  SliceAt.bq (qZ.1 _ (av7 (i:=7) rfl)) (Jp _),
  qI (uX (R:=bV _) (qZ.1 _ (av7 (i:=14) rfl)) rfl Zd he8 (fun i x y h1 h2=>bV.mono (fun r hr=>show r∈[_,_,_,_,_,_,_,_,_,_,_,_,_,_,_,_,_]++Tq from av0.2 (.inr (Sd r hr))) (hR8 i x y h1 h2)) fun _ _ h=>bV.one h) fun _ _ h=>bV.at_ qZ h,
  SliceAt.bq (qZ.1 _ (av7 (i:=6) rfl)) (dA fun _=>rfl),
  SliceAt.bq (qZ.1 _ (av7 (i:=5) rfl)) (dA fun _=>rfl),
  SliceAt.bq (qZ.1 _ (av7 (i:=4) rfl)) (dA fun _=>rfl),
  SliceAt.bq (qZ.1 _ (av7 (i:=3) rfl)) (dA fun _=>rfl),
  qI (uX (R:=wE _) (qZ.1 _ (av7 (i:=13) rfl)) rfl acv afP (fun i x y h1 h2=>wE.mono (fun r hr=>show r∈[_,_,_,_,_,_,_,_,_,_,_,_,_,_,_,_,_]++Tq from av0.2 (.inr (hr))) (af6 i x y h1 h2)) fun _ _ h=>wE.one h) fun _ _ h=>wE.at_ qZ h,
  SliceAt.bq (qZ.1 _ (av7 (i:=2) rfl)) (dA fun _=>rfl),
  SliceAt.bq (qZ.1 _ (av7 (i:=1) rfl)) (dA fun _=>rfl),
  SliceAt.bq (qZ.1 _ (av7 (i:=0) rfl)) (dA fun _=>rfl)⟩⟩,M.below⟩
def nH{α:Type}(l:List α)(o:List Int)(n:Nat):List α:=(List.range n).filterMap fun(k:Nat)=>if o.contains (k:Int)=true then none else l[k]?
def sO(p:aA)(o:List Int):aA:={ p with rules:=nH p.rules o p.rules.length }
section
variable {α:Type} {l:List α} {o:List Int} {m:Nat} {z:α}
theorem abq(hz:l[m]?=some z)(h:o.contains (m:Int)=false):nH l o (m+1)=nH l o m++[z]:=by
 unfold nH;rw[List.range_succ,av_,List.filterMap_cons,if_neg (by rw[h];decide),hz];rfl
theorem Z5(h:o.contains (m:Int)=true):nH l o (m+1)=nH l o m:=by
 unfold nH;rw[List.range_succ,av_,List.filterMap_cons,if_pos h];simp
theorem Ur{l:List aj}{z:aj}{v:Value}{e:TypeId}{k:Nat}{rs:List Rw}(hz:l[m]?=some z)(h:o.contains (m:Int)=false):
 (⟨v,e,k,(nH l o m).length+1,(nH l o m).flatMap aj.cells++z.cells⟩::rs:List Rw)=⟨v,e,k,(nH l o (m+1)).length,(nH l o (m+1)).flatMap aj.cells⟩::rs:=by
 rw[abq hz h,av5,awa,List.flatMap_cons,List.flatMap_nil,List.append_nil];rfl
theorem tG:∀ n,(nH l o n).length≤n:=fun n=>avQ (List.length_filterMap_le _ _) (by simp)
end
def NW(l:List Int)(x:Int):Int:=match l.findIdx? (fun y=>decide (x=y)) with|some i=>(i:Int)|none=>-1
theorem ab_{l:List Int}{x:Int}{m:Nat}{y:Int}(hy:l[m]?=some y)(h:∀ j z,j<m→l[j]?=some z→x≠z)(e:x=y):(m:Int)=NW l x:=by
 unfold NW
 have:l.findIdx? (fun y=>decide (x=y))=some m:=by
  obtain⟨hm,hy'⟩:=av3.1 hy;rw[List.findIdx?_eq_some_iff_getElem];refine⟨hm,by rw[hy'];simpa using e,fun j hj=>?_⟩;have:=h j (l[j]) hj (av2 (by omega));simpa using this
 rw[this]
theorem P4{l:List Int}{x:Int}{m:Nat}(hm:m=l.length)(h:∀ j z,j<m→l[j]?=some z→x≠z):-1=NW l x:=by
 unfold NW
 have:l.findIdx? (fun y=>decide (x=y))=none:=by
  rw[List.findIdx?_eq_none_iff];intro y hy;obtain⟨j,hj⟩:=List.getElem?_of_mem hy;have:=h j y (by have:=(av3.1 hj).1;omega) hj;simpa using this
 rw[this]
theorem Kc{l:List Int}{x:Int}{m:Nat}{y:Int}(hy:l[m]?=some y)(h:∀ j z,j<m→l[j]?=some z→x≠z)(e:x≠y):∀ j z,j<m+1→l[j]?=some z→x≠z:=fun j z hj hz=>by
 by_cases ej:j=m
 ·subst ej;obtain rfl:=avR (hy.symm.trans hz);exact e
 ·exact h j z (by omega) hz
theorem P0(l:List Int)(x:Int):decide (0≤NW l x)=l.contains x:=by
 unfold NW
 cases h:l.findIdx? (fun y=>decide (x=y)) with
 | none=>
  rw[List.findIdx?_eq_none_iff] at h
  have:l.contains x=false:=by
   cases hc:l.contains x with
   | false=>rfl
   | true=>
    have hm:x∈l:=by simpa using hc
    have:=h x hm;simp at this
  rw[this];rfl
 | some i=>
  obtain⟨hi,h2,-⟩:=List.findIdx?_eq_some_iff_getElem.1 h;have e:x=l[i]:=by simpa using h2
  have:l.contains x=true:=by
   have:x∈l:=e▸List.getElem_mem hi;simpa using this
  rw[this];show decide (0≤((i:Nat):Int))=true;exact decide_eq_true (by omega)
def anyI(n:Int):List Value:=[.int .i64 n]
theorem NV(w0:World)(v:Value)(l:List Int)(h:SliceAt w0 v 1 l.length (l.flatMap anyI))(x:Int):Calls Tryz.prog 168 #[v,.int .i64 x] w0 (fun(r:Ending) (w':World)=>r=.returned (.int .i64 (NW l x))∧avZ w0.heap.size w0 w'):=by
 obtain⟨_,_,rfl,-,hm5,-⟩:=SliceAt.form h (by decide);refine bP [] (fn:=Tryz.f168) Tryz.func168 rfl Tryz.ntmps168 rfl<|lr (ι:=Nat) (fun m=>[(8,.int .i64 (m:Int))]) (fun m _=>m≤l.length∧∀ j z,j<m→l[j]?=some z→x≠z) (fun m=>l.length-m) 0 (an ⟨⟨rfl,trivial⟩,fun M=>⟨M,avX _,fun j z h=>absurd h (Nat.not_lt_zero j)⟩⟩ ?_);intro m w M ⟨hm,hne⟩;refine an (fun h1=>?_) fun h1 M=>⟨ri (P4 (by simp at h1;omega) hne).symm,M.below⟩
 have hlt:m<l.length:=by simp at h1;omega
 obtain⟨y,hy⟩:∃ y,l[m]?=some y:=⟨_,av2 hlt⟩;obtain⟨b,o,e,hc⟩:=SliceAt.elt h (fun _=>rfl) (by decide) hy hlt;refine ia<|an ⟨e,rfl,hlt⟩<|lc (x:=.int .i64 y)<|an (bY M.below hc 0 _ rfl)<|an (fun h2 M=>⟨ri (ab_ hy hne (by simpa using h2)).symm,M.below⟩) fun h2=>an (by omega)<|bk (m+1) ⟨rfl,trivial⟩ (fun M=>⟨M,by omega,Kc hy hne (by simpa using h2)⟩) (by dsimp only;omega)
theorem Ed(w0:World)(v:Value)(l:List Int)(h:SliceAt w0 v 1 l.length (l.flatMap anyI))(x:Int):Calls Tryz.prog 82 #[v,.int .i64 x] w0 (fun(r:Ending) (w':World)=>r=.returned (.bool (l.contains x))∧avZ w0.heap.size w0 w'):=by
 obtain⟨_,_,rfl,-⟩:=SliceAt.form h (by decide);exact bP [] (fn:=Tryz.f82) Tryz.func82 rfl Tryz.ntmps82 rfl<|cl<|an (NV _ _ l h x) fun w1 M1=>fun M=>⟨rb (P0 l x).symm,M.below⟩
theorem I7(w0:World)(c0 c1 c2 c3 c4 c5 c6 c7 c8 c9 aQ aL aK aP aO aN aM:Value)(p:aA)(hp:aJ w0 c0 c1 c2 c3 c4 c5 c6 c7 c8 c9 aQ aL aK aP aO aN aM p)(_:p.Ok)(iY:nE p)(lv:Value)(o:List Int)(hlv:SliceAt w0 lv 1 o.length (o.flatMap anyI)):Calls Tryz.prog 30 #[.agg #[c0,c1,c2,c3,c4,c5,c6,c7,c8,c9,aQ,aL,aK,aP,aO,aN,aM],lv] w0 (fun(r:Ending) (w':World)=>∃ v,r=.returned v∧(En w0 (sO p o) v w'∧avZ w0.heap.size w0 w')):=by
 obtain⟨_,_,-,-,hmR,-⟩:=SliceAt.form hp.rules (by decide);obtain⟨_,_,_,_,_,_,_,_,_,_,_,_,_,_,_,_,_,_,_,_,_,_,_,_,_,_,_,_,_,_,_,_,_,_,rfl,rfl,rfl,rfl,rfl,rfl,rfl,rfl,rfl,rfl,rfl,rfl,rfl,rfl,rfl,rfl,rfl⟩:=hp.open;refine bP [] (fn:=Tryz.f30) Tryz.func30 rfl Tryz.ntmps30 rfl<|fun g1 w1 M1=>ei<|an kE fun g2 w2 M2=>lb 1<|an rfl<|cg<|an (yI _ _ _ _ _ _ _ _ _ _ _ _ _ _ _ _ _ _ p (hp.keep M2.below) iY) fun v w6 ⟨⟨x0,n0,x1,n1,x2,n2,x3,n3,x4,n4,x5,n5,x6,n6,x7,n7,x8,n8,x9,n9,x10,n10,qh,n11,qg,n12,Lz,n13,Lx,n14,Lw,n15,Lv,n16,TC,hv,hRC,hPC⟩,LH⟩=>⟨_,_,M2.bQ LH hRC,?_⟩
 subst hv;refine ei<|an kE fun gp w7 M7=>lb 0<|an ⟨rfl,rfl⟩ fun w8 M8=>lb 0<|an ⟨rfl,rfl⟩ fun w9 M9=>lb 2<|an rfl<|lp (ι:=Nat×Value) (fun(k,v)=>[(14,.int .i64 (k:Int))]) (fun(k,v)=>(gp,39,#[.slice x0 p.classes.length n0,.slice x1 p.types.length n1,.slice x2 p.attrs.length n2,.slice x3 p.roles.length n3,.slice x4 p.users.length n4,.slice x5 p.bools.length n5,.slice x6 p.aW.length n6,.slice x7 p.cats.length n7,.slice x8 p.conds.length n8,v,.slice x10 p.trans.length n10,.slice qh p.aS.length n11,.slice qg p.ranges.length n12,.slice Lz p.cons.length n13,.slice Lx p.bL.length n14,.slice Lw p.files.length n15,.slice Lv p.asserts.length n16])::_) (fun(k,v)=>⟨v,56,13,(nH p.rules o k).length,(nH p.rules o k).flatMap aj.cells⟩::_) (fun(k,v) _=>k≤p.rules.length) (fun(k,v)=>p.rules.length-k) (0,.slice none 0 0) (an ⟨⟨rfl,trivial⟩,fun M=>⟨M.bB 56 13,avX _⟩⟩ ?_)
 rintro⟨k,v⟩ w M hk;refine an (fun h=>?_) fun h=>?_
 ·have hlt:k<p.rules.length:=by simp at h;omega
  obtain⟨y,hy⟩:∃ y,p.rules[k]?=some y:=⟨_,av2 hlt⟩;obtain⟨b,of,e,hc⟩:=SliceAt.elt hp.rules (fun _=>rfl) (by decide) hy hlt;have hsl:=tG (l:=p.rules) (o:=o) k;have hrl:=iY.rules;refine ia<|an ⟨e,rfl,hlt⟩<|lc<|an (bY M.below hc)<|ei<|an mP fun g4 qq jZ=>lb 0<|an ⟨rfl,rfl⟩ fun zS M11=>cl<|an (Ed _ lv o (hlv.keep M11.below) k) fun DZ Bn=>an (fun hq=>?_) fun hq=>?_
  ·refine lb 1<|an rfl<|lb 0<|an rfl<|fun g7 O4 Fp=>Ej 0 id rfl (Fp.slice 0 rfl (k:=13) (n:=1) rfl rfl (by simp[maxLen])) ⟨by unfold maxLen;omega,by omega⟩ fun va vc X8 LI=>?_
   exact lb 2<|an ⟨rfl,rfl⟩ fun X7 XI=>an (by omega)<|bk (k+1,.slice va ((nH p.rules o k).length+1) vc) ⟨rfl,trivial⟩ (fun M=>⟨(M.only (.cons _ (.cons _ (.refl _))) (.refl _)).cast rfl (Ur hy (by simpa using hq)),by dsimp only;omega⟩) (by dsimp only;omega)
  ·exact an (by omega)<|bk (k+1,v) ⟨rfl,trivial⟩ (fun M=>⟨(M.only (.cons _ (.refl _)) (.refl _)).cast rfl (by dsimp only;rw[Z5 (by simpa using hq)]),by dsimp only;omega⟩) (by dsimp only;omega)
 obtain rfl:k=p.rules.length:=by simp at h;omega
 obtain⟨xa9,xc9,rfl⟩:=M.form 0 rfl;exact lb 0<|an rfl<|lb 1<|an ⟨rfl,rfl⟩ fun w M=>ei (x:=1)<|an rfl fun M=>⟨_,rfl,⟨_,_,_,_,_,_,_,_,_,_,_,_,_,_,_,_,_,_,_,_,_,_,_,_,_,_,_,_,_,_,_,_,_,_,_,rfl,M.bC,fun B u qZ=>{ hPC B u ⟨fun r hr=>qZ.1 r (av8 _ hr),(List.pairwise_cons.1 qZ.2).2⟩ with rules:=SliceAt.bq (qZ.1 _ (av7 (i:=0) rfl)) (dA fun _=>rfl) }⟩,M.below⟩
def fL(p:aA):aA:={ p with rules:=zu aC p.rules }
def C_(l:List aj)(t:Nat):Nat→Option aj:=fun k=>if k<t then l[k]? else none
theorem ac7{l:List aj}{t:Nat}{r:aj}(h:l[t]?=some r){L:List (Int×Value)}(hR:El (C_ l t) L):El (C_ l (t+1)) (((t:Int),rval r)::iq L (t:Int)):=fun k=>by
 rw[hR.put k];congr 1;unfold kF C_;by_cases e:k=t
 ·subst e;simp[h]
 ·rw[if_neg e];by_cases h2:k<t
  ·rw[if_pos h2,if_pos (by omega)]
  ·rw[if_neg h2,if_neg (by omega)]
theorem ac6(l:List aj):seg (C_ l l.length) 0 l.length=l:=by
 have key:∀ n,n≤l.length→seg (C_ l l.length) 0 n=l.take n:=by
  intro n
  induction n with
  | zero=>intro _;rfl
  | succ n ih=>
   intro hn;rw[iT _ (avX n) (Nat.le_succ n),ih (by omega),jd _ (Nat.lt_succ_self n),Ao _ (Nat.le_refl _),List.append_nil,List.take_add_one];congr 1;unfold C_;rw[if_pos (by omega)]
 rw[key _ (Nat.le_refl _),awb]
theorem agk{l:List aj}(h:∀ r∈l,r.Ok)(t:Nat):TX (C_ l t):=fun k r e=>by
 unfold C_ at e;split at e
 ·exact h r (av7 e)
 ·cases e
section
variable {f f':Nat→Option aj} {n i:Nat}
theorem YN(hp:NP aC f n i n)(h:f i=none):NP aC f n (i+1) n:=fun j x k y h1 h2 h3 h4 h5 h6=>by
 by_cases e:j=i
 ·subst e;rw[h] at h2;cases h2
 ·exact hp j x k y (by omega) h2 h3 h4 h5 h6
theorem abW(hp:NP aC f n i n)(h:∀ a,f i=some a→∀ k y,i<k→k<n→f k=some y→aC a y=none):NP aC f n (i+1) n:=fun j x k y h1 h2 h3 h4 h5 h6=>by
 by_cases e:j=i
 ·subst e;exact h x h2 k y h3 h4 h6
 ·exact hp j x k y (by omega) h2 h3 h4 h5 h6
theorem abX(hp:NP aC f n i n)(h:n≤i):dN aC (seg f 0 n)=none:=by
 have h2:=Vs aC (f:=f) (n:=n) (i:=n) (s:=0) (avX _) (Nat.le_refl _) fun j x k y _ h1 h2 h3 h4 h5=>hp j x k y (by omega) h2 h3 h4 (by omega) h5
 rw[Ao f (Nat.le_refl n)] at h2;exact Cq aC h2
theorem Nv(hp:NP aC f n i n)(h:IE f f' i n true):∃ q,f' i=some q∧NP aC f' n i i∧zu aC (seg f' 0 n)=zu aC (seg f 0 n)∧(seg f' 0 n).length+1=(seg f 0 n).length:=by
 rcases h with⟨h,-⟩|⟨-,k,a,b,c,h1,h2,h3,h4,h5,h6,rfl⟩
 ·cases h
 ·have hj:=Jw aC h1 h2 h3 h4 h5 hp h6;exact⟨c,by rw[fK _ _ (by omega),rP],NP.joined aC hp,(Ct aC hj).symm,lH aC hj⟩
theorem JZ(h:IE f f' i n false):f'=f∧∀ a,f i=some a→∀ k y,i<k→k<n→f k=some y→aC a y=none:=by
 rcases h with⟨-,h1,h2⟩|⟨h,-⟩
 ·exact⟨h1,h2⟩
 ·cases h
end
theorem Jv{α:Type}(f:Nat→Option α)(n:Nat):seg f 0 (n+1)=seg f 0 n++(f n).toList:=by
 rw[iT _ (avX n) (Nat.le_succ n),jd _ (Nat.lt_succ_self n),Ao _ (Nat.le_refl _),List.append_nil]
theorem Yu{α:Type}(f:Nat→Option α)(n:Nat):(seg f 0 n).length≤n:=by
 unfold seg;exact avQ (List.length_filterMap_le _ _) (by simp)
theorem Yt{f:Nat→Option aj}{k:Nat}{z:aj}{v:Value}{e:TypeId}{c:Nat}{rs:List Rw}(h:f k=some z):
 (⟨v,e,c,(seg f 0 k).length+1,(seg f 0 k).flatMap aj.cells++z.cells⟩::rs:List Rw)=⟨v,e,c,(seg f 0 (k+1)).length,(seg f 0 (k+1)).flatMap aj.cells⟩::rs:=by
 rw[Jv,h,Option.toList_some,av5,awa,List.flatMap_cons,List.flatMap_nil,List.append_nil];rfl
theorem M_(w0:World)(c0 c1 c2 c3 c4 c5 c6 c7 c8 c9 aQ aL aK aP aO aN aM:Value)(p:aA)(hp:aJ w0 c0 c1 c2 c3 c4 c5 c6 c7 c8 c9 aQ aL aK aP aO aN aM p)(hok:p.Ok)(iY:nE p)(hsR:p.rules.length≤1000):Calls Tryz.prog 32 #[.agg #[c0,c1,c2,c3,c4,c5,c6,c7,c8,c9,aQ,aL,aK,aP,aO,aN,aM]] w0 (fun(r:Ending) (w':World)=>∃ v,r=.returned v∧(En w0 (fL p) v w'∧avZ w0.heap.size w0 w')):=by
 have Sg:∀ r∈p.rules,r.Ok:=fun r hr=>⟨(hok.rules r hr).src,(hok.rules r hr).tgt⟩
 obtain⟨_,_,_,_,_,_,_,_,_,_,_,_,_,_,_,_,_,_,_,_,_,_,_,_,_,_,_,_,_,_,_,_,_,_,rfl,rfl,rfl,rfl,rfl,rfl,rfl,rfl,rfl,rfl,rfl,rfl,rfl,rfl,rfl,rfl,rfl⟩:=hp.open;refine bP [] (fn:=Tryz.f32) Tryz.func32 rfl Tryz.ntmps32 rfl<|fun g1 w1 M1=>ei<|an kE fun g2 w2 M2=>mmk M2 fun mb w3 M3=>lb 2<|an rfl<|lp (ι:=Nat×List (Int×Value)) (fun(t,L)=>[(18,.int .i64 (t:Int))]) (fun(t,L)=>(mb,9003,eC L)::_) (fun _=>[]) (fun(t,L) _=>t≤p.rules.length∧El (C_ p.rules t) L) (fun(t,L)=>p.rules.length-t) (0,[]) (an ⟨⟨rfl,trivial⟩,fun M=>⟨M,avX _,fun k=>by simp[jT,C_]⟩⟩ ?_)
 rintro⟨t,L⟩ w M ⟨ht,hRv⟩;refine an (fun h=>?_) fun h=>?_
 ·have hlt:t<p.rules.length:=by simp at h;omega
  obtain⟨y,hy⟩:∃ y,p.rules[t]?=some y:=⟨_,av2 hlt⟩;obtain⟨b,o,e,hc⟩:=SliceAt.elt hp.rules (fun _=>rfl) (by decide) hy hlt;exact ia<|an ⟨e,rfl,hlt⟩<|lc<|an (bY M.below hc)<|ei<|an mP fun g3 w4 M4=>lb 0<|an ⟨rfl,rfl⟩ fun w5 M5=>lb 0<|an rfl<|Vw M5 1 rfl wX (by constructor<;>omega) fun w6 M6=>an (by omega)<|bk (t+1,_) ⟨rfl,trivial⟩ (fun M=>⟨M.only (.cons _ (.refl _)) (.refl _),by omega,ac7 hy hRv⟩) (by dsimp only;omega)
 obtain rfl:t=p.rules.length:=by simp at h;omega
 clear M M1 M2 M3 h ht;refine lb 2<|an rfl<|lp (ι:=Nat×(Nat→Option aj)×List (Int×Value)) (fun(i,ff,L)=>[(7,.int .i64 (i:Int))]) (fun(i,ff,L)=>(mb,9003,eC L)::_) (fun _=>[]) (fun(i,ff,L) _=>i≤p.rules.length∧El ff L∧TX ff∧NP aC ff p.rules.length i p.rules.length∧zu aC (seg ff 0 p.rules.length)=zu aC p.rules) (fun(i,ff,L)=>(seg ff 0 p.rules.length).length*(p.rules.length+1)+(p.rules.length-i)) (0,C_ p.rules p.rules.length,L) (an ⟨⟨rfl,trivial⟩,fun M=>⟨M,avX _,hRv,agk Sg _,(fun j _ _ _ h=>absurd h (Nat.not_lt_zero j)),by rw[ac6]⟩⟩ ?_);clear hRv L;rintro⟨i,ff,L⟩ w M ⟨hi,hRv,hfo,hNP,hnf⟩;refine an (fun h=>?_) fun h=>?_
 ·have hlt:i<p.rules.length:=by simp at h;omega
  refine mlk M 0 rfl wX (fun _=>rfl) (by constructor<;>omega) fun M=>?_
  cases zA:ff i with
  | none=>
   rw[qy (hRv.no zA)];exact ei<|an mP fun g4 w5 M5=>lb 0<|an ⟨rfl,rfl⟩ fun w6 M6=>cl (v:=.bool false)<|an (fun h=>by cases h) fun w7 M7=>an (fun h=>by cases h) fun _=>an (by omega)<|bk (i+1,ff,L) ⟨rfl,trivial⟩ (fun M=>⟨M.only (.cons _ (.refl _)) (.refl _),by omega,hRv,hfo,YN hNP zA,hnf⟩) (by dsimp only;omega)
  | some y=>
   rw[qx (hRv.yes zA)];refine ei<|an mP fun g4 w5 M5=>lb 0<|an ⟨rfl,rfl⟩ fun w6 M6=>cg<|an (fun _=>RW _ mb p.rules.length hsR L (M6.map 1 rfl) ff hRv hfo i hlt y zA)<|an (fun h=>by cases h) fun v w7 ⟨⟨t9,L9,f9,hv,P9,af3,afN,hLP⟩,TU⟩=>⟨_,_,M6.Jg 1 rfl TU P9,?_⟩
   subst hv;have M7:=M6.Jg 1 rfl TU P9;refine an (fun ht9=>?_) fun ht9=>?_
   ·obtain rfl:t9=true:=ht9;obtain⟨q9,Y_,ajw,aiX,apr⟩:=Nv hNP hLP;refine cg<|an (KA _ mb p.rules.length hsR L9 (M7.map 1 rfl) f9 af3 afN i hlt q9 Y_ ajw) fun v w8 ⟨⟨t8,L8,f8,hv,hM8,aju,aja,hEP⟩,hS8⟩=>⟨_,_,M7.Jg 1 rfl hS8 hM8,?_⟩
    subst hv;have hle:=hEP.le;have hE4:=avY (p.rules.length+1) (show(seg f8 0 p.rules.length).length+1≤(seg ff 0 p.rules.length).length by have:=hEP.len;omega);rw[Nat.add_mul,Nat.one_mul] at hE4;exact an (by omega)<|an (by omega)<|bk (t8,f8,L8) ⟨congrArg (fun z:Int=>some (Value.int .i64 z)) (show((t8:Nat):Int)-1+1=(t8:Int) by omega),trivial⟩ (fun M=>⟨M.only (.cons _ (.refl _)) (.refl _),by omega,aju,aja,hEP.np,hEP.nf.trans (aiX.trans hnf)⟩) (by dsimp only;omega)
   ·obtain rfl:t9=false:=ht9;obtain⟨rfl,hLf⟩:=JZ hLP;exact an (by omega)<|bk (i+1,f9,L9) ⟨rfl,trivial⟩ (fun M=>⟨M.only (.cons _ (.refl _)) (.refl _),by omega,af3,afN,abW hNP hLf,hnf⟩) (by dsimp only;omega)
 have zB:=abX hNP (show p.rules.length≤i by simp at h;omega);have afr:seg ff 0 p.rules.length=zu aC p.rules:=by rw[← hnf,JO aC zB]
 refine lb 2<|an rfl<|cg<|an (yI _ _ _ _ _ _ _ _ _ _ _ _ _ _ _ _ _ _ p (hp.keep M.below) iY) fun v w6 ⟨⟨x0,n0,x1,n1,x2,n2,x3,n3,x4,n4,x5,n5,x6,n6,x7,n7,x8,n8,x9,n9,x10,n10,qh,n11,qg,n12,Lz,n13,Lx,n14,Lw,n15,Lv,n16,TC,hv,hRC,hPC⟩,LH⟩=>⟨_,_,M.bQ LH hRC,?_⟩
 subst hv;clear M;refine ei<|an kE fun gp w7 M7=>lb 0<|an ⟨rfl,rfl⟩ fun w8 M8=>lb 0<|an ⟨rfl,rfl⟩ fun w9 M9=>lp (ι:=Nat×Value) (fun(k,v)=>[(56,.int .i64 (k:Int))]) (fun(k,v)=>(gp,39,#[.slice x0 p.classes.length n0,.slice x1 p.types.length n1,.slice x2 p.attrs.length n2,.slice x3 p.roles.length n3,.slice x4 p.users.length n4,.slice x5 p.bools.length n5,.slice x6 p.aW.length n6,.slice x7 p.cats.length n7,.slice x8 p.conds.length n8,v,.slice x10 p.trans.length n10,.slice qh p.aS.length n11,.slice qg p.ranges.length n12,.slice Lz p.cons.length n13,.slice Lx p.bL.length n14,.slice Lw p.files.length n15,.slice Lv p.asserts.length n16])::_) (fun(k,v)=>⟨v,56,13,(seg ff 0 k).length,(seg ff 0 k).flatMap aj.cells⟩::_) (fun(k,v) _=>k≤p.rules.length) (fun(k,v)=>p.rules.length-k) (0,.slice none 0 0) (an ⟨⟨rfl,trivial⟩,fun M=>⟨M.bB 56 13,avX _⟩⟩ ?_)
 rintro⟨k,v⟩ w M hk;refine an (fun h=>?_) fun h=>?_
 ·have hlt:k<p.rules.length:=by simp at h;omega
  have hsl:=Yu ff k;refine mlk M 1 rfl wX (fun _=>rfl) (by constructor<;>omega) fun M=>?_
  cases zA:ff k with
  | none=>
   rw[qy (hRv.no zA)];exact ei<|an mP fun g6 Jb wz=>lb 0<|an ⟨rfl,rfl⟩ fun Uv IL=>an (fun h=>by cases h) fun _=>an (by omega)<|bk (k+1,v) ⟨rfl,trivial⟩ (fun M=>⟨(M.only (.cons _ (.refl _)) (.refl _)).cast rfl (by dsimp only;rw[Jv,zA,Option.toList_none,List.append_nil]),by dsimp only;omega⟩) (by dsimp only;omega)
  | some z=>
   rw[qx (hRv.yes zA)];refine ei<|an mP fun g6 Jb wz=>lb 0<|an ⟨rfl,rfl⟩ fun Uv IL=>?_
   refine an (fun _=>?_) fun h=>by cases h
   refine lb 1<|an rfl<|lb 0<|an rfl<|fun g7 O4 Fp=>Ej 0 id rfl (Fp.slice 0 rfl (k:=13) (n:=1) rfl rfl (by simp[maxLen])) ⟨by unfold maxLen;omega,by omega⟩ fun va vc X8 LI=>?_
   exact lb 2<|an ⟨rfl,rfl⟩ fun X7 XI=>an (by omega)<|bk (k+1,.slice va ((seg ff 0 k).length+1) vc) ⟨rfl,trivial⟩ (fun M=>⟨(M.only (.cons _ (.cons _ (.refl _))) (.refl _)).cast rfl (Yt zA),by dsimp only;omega⟩) (by dsimp only;omega)
 obtain rfl:k=p.rules.length:=by simp at h;omega
 obtain⟨xa9,xc9,rfl⟩:=M.form 0 rfl;refine lb 0<|an rfl<|lb 2<|an ⟨rfl,rfl⟩ fun w M=>ei (x:=2)<|an rfl fun M=>?_
 dsimp only at M;rw[afr] at M;exact⟨_,rfl,⟨_,_,_,_,_,_,_,_,_,_,_,_,_,_,_,_,_,_,_,_,_,_,_,_,_,_,_,_,_,_,_,_,_,_,_,(by rw[afr];rfl),M.bC,fun B u qZ=>{ hPC B u ⟨fun r hr=>qZ.1 r (av8 _ hr),(List.pairwise_cons.1 qZ.2).2⟩ with rules:=SliceAt.bq (qZ.1 _ (av7 (i:=0) rfl)) (dA fun _=>rfl) }⟩,M.below⟩
theorem uW{P:Program}{w:World}{t:TypeId}{d:TypeDesc}(h:P.underlying t=some d):(underlying t).run P w=.ok d w:=by
 unfold underlying;simp[awc,h]
theorem Ql{P:Program}{a:Act}{w:World}{o:Oper}{ss tt:TypeId}{x:Operand}{m:Nat}(ho:o.op=.convert ss tt x)(hx:a.eval x=.int .u8 (m:Int))(hs:P.underlying ss=some (.int .u8))(ht:P.underlying tt=some (.int .i32))(hm:m<256):(execOp a.eval o).run P w=.ok (.value (.int .i32 (m:Int))) w:=by
 have hw:IntKind.i32.wrap (m:Int)=m:=by
  simp[IntKind.wrap,IntKind.bits,IntKind.signed];omega
 unfold execOp;simp[ho,hx,convert,awc,Sem.run_pure,uW hs,uW ht,Conv.intToInt,hw]
theorem Nn{s:ByteArray}(h:zw s=true):1≤s.size∧s.size≤32∧nW (dW s 0)=false∧∀ i,i<s.size→jV (dW s i)=true∨nW (dW s i)=true:=by
 unfold zw at h;simp only[awd,Bool.not_eq_true',decide_eq_true_iff] at h;obtain⟨h1,h2,h3⟩:=h
 have hb:∀ i,i<s.size→uz s i=false:=fun i hi=>by
  cases e:uz s i with
  | false=>rfl
  | true=>rw[(tL _ _).2 ⟨i,avX _,by omega,e⟩] at h1;cases h1
 have h0:=hb 0 (by omega);refine⟨by omega,by omega,?_,fun i hi=>?_⟩
 ·unfold uz at h0;have e:jV (dW s 0)=true:=by simpa using h0
  cases hd:nW (dW s 0) with
  | false=>rfl
  | true=>
   unfold nW at hd;unfold jV at e;simp only[awd,Bool.or_eq_true,decide_eq_true_iff] at hd e;omega
 ·have:=hb i hi;unfold uz at this
  cases hl:jV (dW s i) with
  | true=>exact .inl rfl
  | false=>
   rw[hl] at this;right;simp at this;exact this.2
theorem cW{s w:ByteArray}(h:kq s=false)(hw:kq w=true):(s.toList == w.toList)=false:=by
 cases e:s.toList == w.toList with
 | false=>rfl
 | true=>
  rw[pE] at e;rw[of_decide_eq_true e,hw] at h;cases h
theorem BM(w0:World)(x:Nat):Calls Tryz.prog 326 #[.int .i32 (x:Int)] w0 (fun(r:Ending) (w':World)=>r=.returned (.bool (nW x))∧avZ w0.heap.size w0 w'):=by
 refine bP [] (fn:=Tryz.f326) Tryz.func326 rfl Tryz.ntmps326 rfl<|fun M=>⟨rb ?_,M.below⟩
 rfl
theorem Ji(w0:World)(x:Nat):Calls Tryz.prog 327 #[.int .i32 (x:Int)] w0 (fun(r:Ending) (w':World)=>r=.returned (.bool (jV x))∧avZ w0.heap.size w0 w'):=by
 refine bP [] (fn:=Tryz.f327) Tryz.func327 rfl Tryz.ntmps327 rfl<|fun M=>⟨rb ?_,M.below⟩
 unfold jV;congr 1;exact Bool.or_comm _ _
theorem RQ(w0:World)(s:ByteArray)(hs:dw s)(h:zw s=true):Calls Tryz.prog 323 #[.string s] w0 (fun(r:Ending) (w':World)=>r=.returned (.bool (true))∧avZ w0.heap.size w0 w'):=by
 obtain⟨h1,h32,hd0,hall⟩:=Nn h;have hs':s.size≤140737488355328:=hs
 have hne:gM s=false:=by
  unfold gM;rw[pE];refine decide_eq_false fun e=>?_
  rw[e] at h1;exact absurd h1 (by decide)
 have ct:=hr1 Tryz.prog Tryz.f323 (fun(r:Ending) (w':World)=>r=.returned (.bool (true))∧avZ w0.heap.size w0 w') 36 2 rfl;refine en Tryz.func323 rfl Tryz.ntmps323 rfl (vs:=[.string s]) rfl fun _ F=>?_
 have M:=Mm.start w0;refine avS fun K1 jq=>ah<|xA (v:=.bool false) F rf rf rf fun _ F=>avT<|jq _ _ ?_
 refine avS fun K2 jW=>avS fun K3 pR=>ah<|xM F rf rf rf fun _ F=>ke (on rfl) (agx rfl (F.u rf) rfl) rfl F rfl (congrArg Value.bool hne) fun _ F=>xM F rf rf rf fun _ F=>kv (gn rfl rfl (F.g 7 rfl)) (eO rfl (F.u rf)) rfl F rfl fun _ F=>kv (gn rfl rfl (F.g 7 rfl)) (Dj rfl (F.u rf) u9) rfl F rfl fun _ F=>
  ke (gn rfl rfl (F.g 7 rfl)) (KD rfl (F.u rf) rfl) rfl F rfl (congrArg Value.bool (decide_eq_false (by omega))) fun _ F=>
  ke (u:=.bool false) (on rfl) (uo rfl (F.u rf) rfl (F.u rf)) rfl F rfl rfl fun _ F=>
  xM F rf rf rf fun _ F=>
  kv (gn rfl rfl (F.g 12 rfl)) (eO rfl (F.u rf)) rfl F rfl fun _ F=>
  ke (gn rfl rfl (F.g 12 rfl)) (uw (i:=0) rfl (F.u rf) rfl (by omega) u9) rfl F rfl (congrArg (Value.int .u8) (congrArg Nat.cast (oR (by omega:0<s.size)))) fun _ F=>
  kv (gn rfl rfl (F.g 12 rfl)) (Ql rfl (F.u rf) u5 u21 (oQ _ _)) rfl F rfl fun _ F=>
  kc (gn rfl rfl (F.g 12 rfl)) (fO rfl Tryz.func326 aak rfl (args1 (F.u rf))) ((BM _ (dW s 0)).mono fun _ _ ⟨e,h⟩=>⟨by rw[e,hd0],h⟩) rfl F rfl M fun _ _ F M=>
  ke (u:=.bool false) (on rfl) (uo rfl (F.u rf) rfl (F.u rf)) rfl F rfl rfl fun _ F=>
  avT<|
  pR _ _ ?_
 refine avW (F.e 17 rfl) ?_;refine wp_skip<|jW _ _ ?_;refine avS fun K4 p9=>avS fun K5 q5=>ah<|xM F rf rf rf fun _ F=>kz F rf (Dj rfl (F.u rf) u9) fun _ F=>xM (v:=.int .i64 0) F rf rf rf fun _ F=>avT<|q5 _ _ ?_
 refine avU<|?_;refine gj (ι:=Nat) (fun m a w=>Fs a 36 [(0,.string s),(19,.int .i64 ((s).size:Int)),(20,.int .i64 (m:Int))]∧Mm w0 w [] []∧m≤s.size) (fun m=>s.size-m) 0 ⟨F.sub ⟨rfl,rfl,rfl,trivial⟩,M,avX _⟩ ?_
 (repeat clear F);(repeat clear M)
 rintro m _ _ ⟨F,M,hm⟩;refine avS fun K6 tu=>ah<|kz F rf (kO rfl (F.u rf) (F.u rf)) fun _ F=>avT<|tu _ _ ?_
 refine avS fun K7 vK=>?_
 refine avV (F.e 21 rfl) (fun hc1=>?_) (fun hc1=>?_)
 ·have hd2:=of_decide_eq_true hc1;refine wp_skip<|vK _ _ ?_;refine avS fun K8 CW=>avU<|avS fun K9 AV=>ah<|xM F rf rf rf fun _ F=>xA F rf rf rf fun _ F=>avT<|AV _ _ ?_
  refine avS fun X0 nP=>?_
  have hlt:m<s.size:=by omega
  have hld:=hall m hlt
  refine ah<|xM F rf rf rf fun _ F=>xM F rf rf rf fun _ F=>
   ke (on rfl) (uw (i:=m) rfl (F.u rf) (F.u rf) (by omega) u9) rfl F rfl (congrArg (Value.int .u8) (congrArg Nat.cast (oR (by omega:m<s.size)))) fun _ F=>
   kz F rf (Ql rfl (F.u rf) u5 u21 (oQ _ _)) fun _ F=>
   xA F rf rf rf fun _ F=>
   avT<|
   nP _ _ ?_
  refine avS fun K11 ud=>ah<|xM F rf rf rf fun _ F=>xC F M rf rf ahY (args1 (F.u rf)) (Ji _ (dW s m)) fun _ _ F M=>kz F rf (qd rfl (F.u rf)) fun _ F=>xM F rf rf rf fun _ F=>Gj (x:=.int .i32 (dW s m:Int)) rfl rfl (F.g 30 rfl) (bt _) (fun ge=>(eO rfl (F.u rf))) rfl F rfl rfl fun _ F=>ais rfl rfl (F.g 30 rfl) (bt _) (fun ge=>(fO rfl Tryz.func326 aak rfl (args1 ((F.g 31 rfl).on ge).ev))) (fun ge=>BM _ (dW s m)) rfl F rfl M fun _ _ F M=>Gj (x:=.bool (!(nW (dW s m)))) rfl rfl (F.g 30 rfl) (bt _) (fun ge=>(qd rfl ((F.g 32 rfl).on ge).ev)) rfl F rfl rfl fun _ F=>kz F rf (rq (uo rfl (F.u rf) (F.u rf) rfl) (pkF _ _)) fun _ F=>avT<|ud _ _ ?_
  refine avV (F.e 34 rfl) (fun hc3=>?_) (fun hc3=>?_)
  ·refine avS fun K12 t_=>ah<|xA (v:=.bool false) F rf rf rf fun _ F=>avT<|t_ _ _ ?_
   refine wp_ret<|ct _ _ _ _ F rfl ?_;rcases hld with h|h<;>simp[h] at hc3
  ·refine wp_skip<|CW _ _ ?_
   refine ah<|
    ke (on rfl) (gN rfl (F.u rf) rfl) rfl F rfl (congrArg (Value.int .i64) (wrap_i64 (by omega))) fun _ F=>
    xM F rf rf rf fun _ F=>
    avT<|?_
   exact⟨m+1,⟨F.sub ⟨rfl,rfl,rfl,trivial⟩,M,by omega⟩,by show s.size-(m+1)<s.size-m;omega⟩
 ·have Wo:=of_decide_eq_false hc1;refine wp_exit<|p9 _ _ ?_;refine avS fun K13 sH=>ah<|xA (v:=.bool true) F rf rf rf fun _ F=>avT<|sH _ _ ?_
  refine wp_ret<|ct _ _ _ _ F rfl ?_;exact⟨rfl,M.below⟩
theorem FM(w0:World)(s:ByteArray)(pP:kq s=false):Calls Tryz.prog 324 #[.string s] w0 (fun(r:Ending) (w':World)=>r=.returned (.bool (false))∧avZ w0.heap.size w0 w'):=by
 have ct:=hr1 Tryz.prog Tryz.f324 (fun(r:Ending) (w':World)=>r=.returned (.bool (false))∧avZ w0.heap.size w0 w') 47 2 rfl;refine en Tryz.func324 rfl Tryz.ntmps324 rfl (vs:=[.string s]) rfl fun _ F=>?_
 have M:=Mm.start w0;refine avS fun K1 jq=>ah<|xA (v:=.bool false) F rf rf rf fun _ F=>avT<|jq _ _ ?_
 refine avS fun K2 jW=>avS fun K3 pR=>ah<|xM F rf rf rf fun _ F=>avT<|pR _ _ ?_
 refine avU<|avS fun K4 p9=>avS fun K5 q5=>ah<|
  ke (on rfl) (cN rfl (F.u rf) rfl) rfl F rfl (congrArg Value.bool (cW pP (by kernel_rfl))) fun _ F=>
  xA F rf rf rf fun _ F=>
  avT<|
  q5 _ _ ?_
 refine avW (F.e 4 rfl) ?_
 refine avS fun K6 tu=>ah<|
  ke (on rfl) (cN rfl (F.u rf) rfl) rfl F rfl (congrArg Value.bool (cW pP (by kernel_rfl))) fun _ F=>
  xA F rf rf rf fun _ F=>
  avT<|
  tu _ _ ?_
 refine avW (F.e 4 rfl) ?_
 refine avS fun K7 vK=>ah<|
  ke (on rfl) (cN rfl (F.u rf) rfl) rfl F rfl (congrArg Value.bool (cW pP (by kernel_rfl))) fun _ F=>
  xA F rf rf rf fun _ F=>
  avT<|
  vK _ _ ?_
 refine avW (F.e 4 rfl) ?_
 refine avS fun K8 CW=>ah<|
  ke (on rfl) (cN rfl (F.u rf) rfl) rfl F rfl (congrArg Value.bool (cW pP (by kernel_rfl))) fun _ F=>
  xA F rf rf rf fun _ F=>
  avT<|
  CW _ _ ?_
 refine avW (F.e 4 rfl) ?_
 refine avS fun K9 AV=>ah<|
  ke (on rfl) (cN rfl (F.u rf) rfl) rfl F rfl (congrArg Value.bool (cW pP (by kernel_rfl))) fun _ F=>
  xA F rf rf rf fun _ F=>
  avT<|
  AV _ _ ?_
 refine avW (F.e 4 rfl) ?_
 refine avS fun X0 nP=>ah<|
  ke (on rfl) (cN rfl (F.u rf) rfl) rfl F rfl (congrArg Value.bool (cW pP (by kernel_rfl))) fun _ F=>
  xA F rf rf rf fun _ F=>
  avT<|
  nP _ _ ?_
 refine avW (F.e 4 rfl) ?_
 refine avS fun K11 ud=>ah<|
  ke (on rfl) (cN rfl (F.u rf) rfl) rfl F rfl (congrArg Value.bool (cW pP (by kernel_rfl))) fun _ F=>
  xA F rf rf rf fun _ F=>
  avT<|
  ud _ _ ?_
 refine avW (F.e 4 rfl) ?_
 refine avS fun K12 t_=>ah<|
  ke (on rfl) (cN rfl (F.u rf) rfl) rfl F rfl (congrArg Value.bool (cW pP (by kernel_rfl))) fun _ F=>
  xA F rf rf rf fun _ F=>
  avT<|
  t_ _ _ ?_
 refine avW (F.e 4 rfl) ?_
 refine avS fun K13 sH=>ah<|
  ke (on rfl) (cN rfl (F.u rf) rfl) rfl F rfl (congrArg Value.bool (cW pP (by kernel_rfl))) fun _ F=>
  xA F rf rf rf fun _ F=>
  avT<|
  sH _ _ ?_
 refine avW (F.e 4 rfl) ?_
 refine ah<|
  ke (on rfl) (cN rfl (F.u rf) rfl) rfl F rfl (congrArg Value.bool (cW pP (by kernel_rfl))) fun _ F=>
  xA F rf rf rf fun _ F=>
  avT<|
  p9 _ _ ?_
 refine avW (F.e 4 rfl) ?_
 refine avS fun K14 yq=>avS fun K15 vL=>ah<|
  ke (on rfl) (cN rfl (F.u rf) rfl) rfl F rfl (congrArg Value.bool (cW pP (by kernel_rfl))) fun _ F=>
  xA F rf rf rf fun _ F=>
  avT<|
  vL _ _ ?_
 refine avW (F.e 15 rfl) ?_
 refine avS fun K16 Gu=>ah<|
  ke (on rfl) (cN rfl (F.u rf) rfl) rfl F rfl (congrArg Value.bool (cW pP (by kernel_rfl))) fun _ F=>
  xA F rf rf rf fun _ F=>
  avT<|
  Gu _ _ ?_
 refine avW (F.e 15 rfl) ?_
 refine avS fun K17 WE=>ah<|
  ke (on rfl) (cN rfl (F.u rf) rfl) rfl F rfl (congrArg Value.bool (cW pP (by kernel_rfl))) fun _ F=>
  xA F rf rf rf fun _ F=>
  avT<|
  WE _ _ ?_
 refine avW (F.e 15 rfl) ?_
 refine avS fun K18 acW=>ah<|
  ke (on rfl) (cN rfl (F.u rf) rfl) rfl F rfl (congrArg Value.bool (cW pP (by kernel_rfl))) fun _ F=>
  xA F rf rf rf fun _ F=>
  avT<|
  acW _ _ ?_
 refine avW (F.e 15 rfl) ?_
 refine avS fun K19 acV=>ah<|
  ke (on rfl) (cN rfl (F.u rf) rfl) rfl F rfl (congrArg Value.bool (cW pP (by kernel_rfl))) fun _ F=>
  xA F rf rf rf fun _ F=>
  avT<|
  acV _ _ ?_
 refine avW (F.e 15 rfl) ?_
 refine avS fun K20 acU=>ah<|
  ke (on rfl) (cN rfl (F.u rf) rfl) rfl F rfl (congrArg Value.bool (cW pP (by kernel_rfl))) fun _ F=>
  xA F rf rf rf fun _ F=>
  avT<|
  acU _ _ ?_
 refine avW (F.e 15 rfl) ?_
 refine avS fun K21 acT=>ah<|
  ke (on rfl) (cN rfl (F.u rf) rfl) rfl F rfl (congrArg Value.bool (cW pP (by kernel_rfl))) fun _ F=>
  xA F rf rf rf fun _ F=>
  avT<|
  acT _ _ ?_
 refine avW (F.e 15 rfl) ?_
 refine avS fun K22 acS=>ah<|
  ke (on rfl) (cN rfl (F.u rf) rfl) rfl F rfl (congrArg Value.bool (cW pP (by kernel_rfl))) fun _ F=>
  xA F rf rf rf fun _ F=>
  avT<|
  acS _ _ ?_
 refine avW (F.e 15 rfl) ?_
 refine ah<|
  ke (on rfl) (cN rfl (F.u rf) rfl) rfl F rfl (congrArg Value.bool (cW pP (by kernel_rfl))) fun _ F=>
  xA F rf rf rf fun _ F=>
  avT<|
  yq _ _ ?_
 refine avW (F.e 15 rfl) ?_
 refine avS fun K23 Zp=>avS fun K24 acR=>ah<|
  ke (on rfl) (cN rfl (F.u rf) rfl) rfl F rfl (congrArg Value.bool (cW pP (by kernel_rfl))) fun _ F=>
  xA F rf rf rf fun _ F=>
  avT<|
  acR _ _ ?_
 refine avW (F.e 25 rfl) ?_
 refine avS fun K25 Zo=>ah<|
  ke (on rfl) (cN rfl (F.u rf) rfl) rfl F rfl (congrArg Value.bool (cW pP (by kernel_rfl))) fun _ F=>
  xA F rf rf rf fun _ F=>
  avT<|
  Zo _ _ ?_
 refine avW (F.e 25 rfl) ?_
 refine avS fun K26 acQ=>ah<|
  ke (on rfl) (cN rfl (F.u rf) rfl) rfl F rfl (congrArg Value.bool (cW pP (by kernel_rfl))) fun _ F=>
  xA F rf rf rf fun _ F=>
  avT<|
  acQ _ _ ?_
 refine avW (F.e 25 rfl) ?_
 refine avS fun K27 acP=>ah<|
  ke (on rfl) (cN rfl (F.u rf) rfl) rfl F rfl (congrArg Value.bool (cW pP (by kernel_rfl))) fun _ F=>
  xA F rf rf rf fun _ F=>
  avT<|
  acP _ _ ?_
 refine avW (F.e 25 rfl) ?_
 refine avS fun K28 acO=>ah<|
  ke (on rfl) (cN rfl (F.u rf) rfl) rfl F rfl (congrArg Value.bool (cW pP (by kernel_rfl))) fun _ F=>
  xA F rf rf rf fun _ F=>
  avT<|
  acO _ _ ?_
 refine avW (F.e 25 rfl) ?_
 refine avS fun K29 acN=>ah<|
  ke (on rfl) (cN rfl (F.u rf) rfl) rfl F rfl (congrArg Value.bool (cW pP (by kernel_rfl))) fun _ F=>
  xA F rf rf rf fun _ F=>
  avT<|
  acN _ _ ?_
 refine avW (F.e 25 rfl) ?_
 refine avS fun K30 ajP=>ah<|
  ke (on rfl) (cN rfl (F.u rf) rfl) rfl F rfl (congrArg Value.bool (cW pP (by kernel_rfl))) fun _ F=>
  xA F rf rf rf fun _ F=>
  avT<|
  ajP _ _ ?_
 refine avW (F.e 25 rfl) ?_
 refine ah<|
  ke (on rfl) (cN rfl (F.u rf) rfl) rfl F rfl (congrArg Value.bool (cW pP (by kernel_rfl))) fun _ F=>
  xA F rf rf rf fun _ F=>
  avT<|
  Zp _ _ ?_
 refine avW (F.e 25 rfl) ?_
 refine avS fun K31 ajO=>avS fun K32 ajN=>ah<|
  ke (on rfl) (cN rfl (F.u rf) rfl) rfl F rfl (congrArg Value.bool (cW pP (by kernel_rfl))) fun _ F=>
  xA F rf rf rf fun _ F=>
  avT<|
  ajN _ _ ?_
 refine avW (F.e 34 rfl) ?_
 refine avS fun K33 ajM=>ah<|
  ke (on rfl) (cN rfl (F.u rf) rfl) rfl F rfl (congrArg Value.bool (cW pP (by kernel_rfl))) fun _ F=>
  xA F rf rf rf fun _ F=>
  avT<|
  ajM _ _ ?_
 refine avW (F.e 34 rfl) ?_
 refine avS fun K34 ajL=>ah<|
  ke (on rfl) (cN rfl (F.u rf) rfl) rfl F rfl (congrArg Value.bool (cW pP (by kernel_rfl))) fun _ F=>
  xA F rf rf rf fun _ F=>
  avT<|
  ajL _ _ ?_
 refine avW (F.e 34 rfl) ?_
 refine avS fun K35 ajK=>ah<|
  ke (on rfl) (cN rfl (F.u rf) rfl) rfl F rfl (congrArg Value.bool (cW pP (by kernel_rfl))) fun _ F=>
  xA F rf rf rf fun _ F=>
  avT<|
  ajK _ _ ?_
 refine avW (F.e 34 rfl) ?_
 refine avS fun K36 ajJ=>ah<|
  ke (on rfl) (cN rfl (F.u rf) rfl) rfl F rfl (congrArg Value.bool (cW pP (by kernel_rfl))) fun _ F=>
  xA F rf rf rf fun _ F=>
  avT<|
  ajJ _ _ ?_
 refine avW (F.e 34 rfl) ?_
 refine avS fun K37 ajI=>ah<|
  ke (on rfl) (cN rfl (F.u rf) rfl) rfl F rfl (congrArg Value.bool (cW pP (by kernel_rfl))) fun _ F=>
  xA F rf rf rf fun _ F=>
  avT<|
  ajI _ _ ?_
 refine avW (F.e 34 rfl) ?_
 refine avS fun K38 ajH=>ah<|
  ke (on rfl) (cN rfl (F.u rf) rfl) rfl F rfl (congrArg Value.bool (cW pP (by kernel_rfl))) fun _ F=>
  xA F rf rf rf fun _ F=>
  avT<|
  ajH _ _ ?_
 refine avW (F.e 34 rfl) ?_
 refine avS fun K39 ajG=>ah<|
  ke (on rfl) (cN rfl (F.u rf) rfl) rfl F rfl (congrArg Value.bool (cW pP (by kernel_rfl))) fun _ F=>
  xA F rf rf rf fun _ F=>
  avT<|
  ajG _ _ ?_
 refine avW (F.e 34 rfl) ?_
 refine avS fun K40 ajF=>ah<|
  ke (on rfl) (cN rfl (F.u rf) rfl) rfl F rfl (congrArg Value.bool (cW pP (by kernel_rfl))) fun _ F=>
  xA F rf rf rf fun _ F=>
  avT<|
  ajF _ _ ?_
 refine avW (F.e 34 rfl) ?_
 refine avS fun K41 ajE=>ah<|
  ke (on rfl) (cN rfl (F.u rf) rfl) rfl F rfl (congrArg Value.bool (cW pP (by kernel_rfl))) fun _ F=>
  xA F rf rf rf fun _ F=>
  avT<|
  ajE _ _ ?_
 refine avW (F.e 34 rfl) ?_
 refine avS fun K42 ajD=>ah<|
  ke (on rfl) (cN rfl (F.u rf) rfl) rfl F rfl (congrArg Value.bool (cW pP (by kernel_rfl))) fun _ F=>
  xA F rf rf rf fun _ F=>
  avT<|
  ajD _ _ ?_
 refine avW (F.e 34 rfl) ?_
 refine ah<|
  ke (on rfl) (cN rfl (F.u rf) rfl) rfl F rfl (congrArg Value.bool (cW pP (by kernel_rfl))) fun _ F=>
  xA F rf rf rf fun _ F=>
  avT<|
  ajO _ _ ?_
 refine avW (F.e 34 rfl) ?_;refine avS fun K43 ajC=>ah<|xA (v:=.bool false) F rf rf rf fun _ F=>avT<|ajC _ _ ?_
 refine wp_ret<|ct _ _ _ _ F rfl ?_;exact⟨rfl,M.below⟩
theorem Mk(w0:World)(s:ByteArray)(hs:dw s)(h:iO s=true):Calls Tryz.prog 318 #[.string s] w0 (fun(r:Ending) (w':World)=>r=.returned (.bool (true))∧avZ w0.heap.size w0 w'):=by
 have h1:zw s=true:=(Bool.and_eq_true_iff.1 h).1;have h2:kq s=false:=by have:=(Bool.and_eq_true_iff.1 h).2;simpa using this
 have ct:=hr1 Tryz.prog Tryz.f318 (fun(r:Ending) (w':World)=>r=.returned (.bool (true))∧avZ w0.heap.size w0 w') 10 2 rfl;refine en Tryz.func318 rfl Tryz.ntmps318 rfl (vs:=[.string s]) rfl fun _ F=>?_
 have M:=Mm.start w0;refine avS fun K1 jq=>ah<|xA (v:=.bool false) F rf rf rf fun _ F=>avT<|jq _ _ ?_
 refine avS fun K2 jW=>ah<|xM F rf rf rf fun _ F=>xC F M rf rf ahZ (args1 (F.u rf)) (RQ _ s hs h1) fun _ _ F M=>xM F rf rf rf fun _ F=>kv (gn rfl rfl (F.g 5 rfl)) (eO rfl (F.u rf)) rfl F rfl fun _ F=>kc (gn rfl rfl (F.g 5 rfl)) (fO rfl Tryz.func324 aeY rfl (args1 (F.u rf))) (FM _ s h2) rfl F rfl M fun _ _ F M=>kv (gn rfl rfl (F.g 5 rfl)) (qd rfl (F.u rf)) rfl F rfl fun _ F=>ke (u:=.bool true) (on rfl) (uo rfl (F.u rf) (F.u rf) rfl) rfl F rfl rfl fun _ F=>xA F rf rf rf fun _ F=>avT<|jW _ _ ?_
 refine wp_ret<|ct _ _ _ _ F rfl ?_;exact⟨rfl,M.below⟩
def uF(op:Int):Int:=if op=1 then 0 else if op=2 then 1 else if op=3 then 2 else if op=4 then 2 else if op=5 then 2 else if op=6 then 2 else if op=7 then 2 else -1
inductive eV:Nat→ak→Prop
 | name {d:Nat} {s:ByteArray}:iO s=true→dw s→eV (d+1) (.node 1 0 0 0 [s] ay.zero [])
 | not {d:Nat} {k:ak}:eV d k→eV (d+1) (.node 2 0 0 0 [] ay.zero [k])
 | bin {d:Nat} {op:Int} {k l:ak}:3≤op→op≤7→eV d k→eV d l→eV (d+1) (.node op 0 0 0 [] ay.zero [k,l])
theorem YK{op:Int}(h1:3≤op)(h2:op≤7):uF op=2:=by
 unfold uF;rcases(show op=3∨op=4∨op=5∨op=6∨op=7 by omega) with rfl|rfl|rfl|rfl|rfl<;>rfl
structure yT (d:Nat) (e:ak):Prop where
 a:e.a=0
 rel:e.rel=0
 b:e.b=0
 set:e.set=ay.zero
 kids:(e.kids.length:Int)=uF e.op
 nm:uF e.op=0→∃ s,e.names=[s]∧iO s=true∧dw s
 nn:uF e.op≠0→e.names=[]
 kid:∀ k∈e.kids,∃ c,d=c+1∧eV c k
 pos:1≤d
 op1:uF e.op=0↔e.op=1
theorem eV.facts{d:Nat}{e:ak}(h:eV d e):yT d e:=by
 cases h with
 | name h1 h2=>exact⟨rfl,rfl,rfl,rfl,rfl,fun _=>⟨_,rfl,h1,h2⟩,fun h=>absurd rfl h,fun _ h=>(by cases h),(by omega),⟨fun _=>rfl,fun _=>rfl⟩⟩
 | not h1=>exact⟨rfl,rfl,rfl,rfl,rfl,fun h=>(by cases h),fun _=>rfl,fun k hk=>⟨_,rfl,(by rw[avP.1 hk];exact h1)⟩,(by omega),⟨fun h=>(by cases h),fun h=>(by cases h)⟩⟩
 | @bin d op k l h1 h2 h3 h4=>
  have ho:=YK h1 h2;refine⟨rfl,rfl,rfl,rfl,by rw[show(ak.node op 0 0 0 [] ay.zero [k,l]).op=op from rfl,ho];rfl,fun h=>?_,fun _=>rfl,fun x hx=>⟨_,rfl,?_⟩,by omega,?_⟩
  ·rw[show(ak.node op 0 0 0 [] ay.zero [k,l]).op=op from rfl,ho] at h;cases h
  ·rcases av1.1 hx with hx|hx
   ·rw[hx];exact h3
   ·rw[avP.1 hx];exact h4
  ·rw[show(ak.node op 0 0 0 [] ay.zero [k,l]).op=op from rfl,ho];exact⟨fun h=>(by cases h),fun h=>by omega⟩
mutual
def bf:ak→List ByteArray
 | .node _ _ _ _ names _ kids=>names++bF kids
def bF:List ak→List ByteArray
 | []=>[]
 | k::l=>bf k++bF l
end
theorem dR(e:ak):bf e=e.names++bF e.kids:=by cases e;rw[bf];rfl
def eE(e:ak)(m:Nat):List ByteArray:=e.names++bF (e.kids.take m)
theorem qP:∀ a b:List ak,bF (a++b)=bF a++bF b
 | [],b=>by rw[bF];rfl
 | k::a,b=>by rw[List.cons_append,bF,bF,qP a b,List.append_assoc]
theorem Cu{e:ak}{m:Nat}{y:ak}(hy:e.kids[m]?=some y):eE e (m+1)=eE e m++bf y:=by
 unfold eE;rw[List.take_add_one,hy,qP,Option.toList_some,bF,bF,List.append_nil,List.append_assoc]
theorem RP{e:ak}:eE e e.kids.length=bf e:=by unfold eE;rw[awb,dR]
theorem RO(e:ak):e.names.length≤(bf e).length:=by rw[dR,av5];omega
theorem Nl{e:ak}{m:Nat}{y:ak}(hy:e.kids[m]?=some y):(eE e m).length+(bf y).length≤(bf e).length:=by
 have h1:=Cu hy;have h2:=congrArg List.length h1;rw[av5] at h2;have h3:bF e.kids=bF (e.kids.take (m+1))++bF (e.kids.drop (m+1)):=by rw[← qP,List.take_append_drop]
 have h4:=congrArg List.length (dR e);rw[h3] at h4;unfold eE at h2 ⊢;simp only[av5] at h2 h4 ⊢;omega
theorem abZ{e:ak}{m n k t:Nat}{y:ak}{v:Value}{xs:List Value}{rs:List Rw}(hy:e.kids[m]?=some y):(⟨v,t,k,n+(eE e m).length+(bf y).length,(xs++(eE e m).flatMap aT)++(bf y).flatMap aT⟩::rs:List Rw)=⟨v,t,k,n+(eE e (m+1)).length,xs++(eE e (m+1)).flatMap aT⟩::rs:=by
 rw[Cu hy,av5,awa,List.append_assoc,Nat.add_assoc]
theorem YP{e:ak}{n k t:Nat}{v:Value}{xs:List Value}{rs:List Rw}:(⟨v,t,k,n+e.names.length,xs++e.names.flatMap aT⟩::rs:List Rw)=⟨v,t,k,n+(eE e 0).length,xs++(eE e 0).flatMap aT⟩::rs:=by
 have h:eE e 0=e.names:=by unfold eE;rw[List.take_zero,bF,List.append_nil]
 rw[h]
theorem Xp(w0:World)(op:Int):Calls Tryz.prog 317 #[.int .i64 op] w0 (fun(r:Ending) (w':World)=>r=.returned (.int .i64 (uF op))∧avZ w0.heap.size w0 w'):=by
 exact bP [] (fn:=Tryz.f317) Tryz.func317 rfl Tryz.ntmps317 rfl<|an (fun a1=>fun M=>⟨ri (by simp_all [uF]),M.below⟩) fun a1=>an (fun a2=>fun M=>⟨ri (by simp_all [uF]),M.below⟩) fun a2=>an (fun a3=>an (fun b3=>fun M=>⟨ri (by simp_all [uF]),M.below⟩) fun b3=>fun M=>⟨ri (by simp_all []),M.below⟩) fun a3=>an (fun a4=>an (fun b4=>fun M=>⟨ri (by simp_all [uF]),M.below⟩) fun b4=>fun M=>⟨ri (by simp_all []),M.below⟩) fun a4=>an (fun a5=>an (fun b5=>fun M=>⟨ri (by simp_all [uF]),M.below⟩) fun b5=>fun M=>⟨ri (by simp_all []),M.below⟩) fun a5=>an (fun a6=>an (fun b6=>fun M=>⟨ri (by simp_all [uF]),M.below⟩) fun b6=>fun M=>⟨ri (by simp_all []),M.below⟩) fun a6=>an (fun a7=>fun M=>⟨ri (by simp_all [uF]),M.below⟩) fun a7=>fun M=>⟨ri (by simp_all [uF]),M.below⟩
theorem Vp(w0:World)(cs:List Value)(e:ak)(d:Nat)(hE:aZ w0 cs e)(hB:eV d e)(lv:Nat)(hlv:lv≤12):Calls Tryz.prog 306 #[.agg cs.toArray,.int .i64 (lv:Int)] w0 (fun(r:Ending) (w':World)=>r=.returned (.int .i64 (0))∧avZ w0.heap.size w0 w'):=by
 have hb:=hB.facts;have hko:=hb.kids;obtain⟨_,_,rfl,hnn,hkk⟩:=hE.open;obtain⟨_,_,rfl,-⟩:=aF.get hnn;obtain⟨_,_,rfl,-⟩:=aq.form hkk (by decide);refine bP [] (fn:=Tryz.f306) Tryz.func306 rfl Tryz.ntmps306 rfl<|fun g1 w1 M1=>lb 0<|an rfl<|cl<|an (Xp _ e.op) fun w2 M2=>?_
 refine an (fun hz=>?_) fun hz=>?_
 all_goals
  refine an (fun h=>?_) fun h=>?_
  ·exact absurd h (by simp;omega)
  refine lb 0<|an (fun _=>rfl)<|lb 0<|an (fun _=>rfl)<|lb 0<|an (fun _=>rfl)<|lb 0<|an (fun _=>rfl)<|ei (x:=.agg #[.int .u64 0,.int .u64 0,.int .u64 0,.int .u64 0])<|an (fun _=>bd (by kernel_rfl))<|ei (x:=decide (e.set=ay.zero))<|an (fun _=>⟨rA,fun w=>oM e.set ay.zero w⟩)<|lb 0<|an (fun _=>rfl)<|lb 0<|an (fun _=>rfl)<|?_
 ·obtain⟨sn,AR,hsI,hsO⟩:=hb.nm (of_decide_eq_true hz);have hnl:e.names.length=1:=by rw[AR];rfl
  refine an (fun h2=>?_) fun h2=>?_
  ·exfalso;simp[hb.a,hb.b,hb.rel,hb.set,hnl,← hko] at h2;try omega
  obtain⟨b,o,e1,hc⟩:=SliceAt.elt (i:=0) hnn (fun _=>rfl) (by decide) (show e.names[0]?=some sn by rw[AR];rfl) (show 0<e.names.length by omega);refine lb 0<|an (fun _=>rfl)<|ia<|an (fun _=>⟨e1,rfl,show 0<e.names.length by omega⟩)<|lc (x:=.string sn)<|an (fun _=>bY M2.below hc 0 _ rfl)<|cl<|an (fun _=>Mk _ sn hsO hsI) fun w3 M3=>?_
  exact an (fun h=>by simp at h) fun h M=>⟨rfl,M.below⟩
 ·have hz:uF e.op≠0:=of_decide_eq_false hz;have hnl:e.names.length=0:=by rw[hb.nn hz];rfl
  refine an (fun h2=>?_) fun h2=>?_
  ·exfalso;simp[hb.a,hb.b,hb.rel,hb.set,hnl,← hko] at h2;try omega
  refine lb 0<|an (fun _=>rfl)<|ia (b:=0) (off:=0) (i:=0)<|an (fun h=>absurd (of_decide_eq_true h) hz)<|lc (x:=.string ByteArray.empty)<|an (fun h=>absurd (of_decide_eq_true h) hz)<|cl (v:=.bool true)<|an (fun h=>absurd (of_decide_eq_true h) hz) fun w3 M3=>?_
  exact an (fun h=>by simp at h) fun h M=>⟨rfl,M.below⟩
theorem Ow:∀ (e:ak) (w0:World) (cs:List Value) (d lv:Nat),aZ w0 cs e→eV d e→lv+d≤13→Calls Tryz.prog 295 #[.agg cs.toArray,.int .i64 (lv:Int)] w0 (fun(r:Ending) (w':World)=>r=.returned (.int .i64 (0))∧avZ w0.heap.size w0 w'):=by
 refine ak.ind fun e ih=>?_
 intro w0 cs d lv hE hB hlv;have hb:=hB.facts;have hE0:=hE;obtain⟨_,_,rfl,hnn,hkk⟩:=hE0.open;obtain⟨_,_,rfl,-⟩:=aF.get hnn;obtain⟨_,_,rfl,-,hkm,-⟩:=aq.form hkk (by decide);refine bP [] (fn:=Tryz.f295) Tryz.func295 rfl Tryz.ntmps295 rfl<|fun g1 w1 M1=>lb 0<|an rfl<|cl<|an (Vp _ _ e d (hE.keep M1.below) hB lv (by have:=hb.pos;omega)) fun w2 M2=>?_
 refine an (fun h=>by simp at h) fun _=>?_
 refine lb 0<|an rfl<|lr (ι:=Nat) (fun m=>[(18,.int .i64 (m:Int))]) (fun m _=>m≤e.kids.length) (fun m=>e.kids.length-m) 0 (an ⟨⟨rfl,trivial⟩,fun M=>⟨M,avX _⟩⟩ ?_);intro m w M hm;refine an (fun h=>?_) fun h M=>⟨rfl,M.below⟩
 have hlt:m<e.kids.length:=by simp at h;omega
 obtain⟨y,hy⟩:∃ y,e.kids[m]?=some y:=⟨_,av2 hlt⟩;have qV:=av7 hy;obtain⟨b,o,_,e1,sy,hc⟩:=aq.elt hkk (by decide) hy;obtain⟨_,_,rfl,hn2,hk2⟩:=sy.open;obtain⟨_,_,rfl,-⟩:=aF.get hn2;obtain⟨_,_,rfl,-⟩:=aq.form hk2 (by decide);obtain⟨c,rfl,hBk⟩:=hb.kid y qV;refine ia<|an ⟨e1,rfl,hlt⟩<|lc<|an (bY M.below hc)<|ei<|an sE fun g2 w3 M3=>lb 0<|an ⟨rfl,rfl⟩ fun w4 M4=>lb 0<|an rfl<|an (by omega)<|cl<|an (ih y qV _ _ c (lv+1) (sy.keep M4.below) hBk (by omega)) fun w5 M5=>?_
 exact an (fun h=>by simp at h) fun _=>an (by omega)<|bk (m+1) ⟨rfl,trivial⟩ (fun M=>⟨M.only (.cons _ (.refl _)) (.refl _),by omega⟩) (by dsimp only;omega)
theorem Ox(w0:World)(cs:List Value)(e:ak)(d:Nat)(hE:aZ w0 cs e)(hB:eV d e)(hd:d≤12):Calls Tryz.prog 267 #[.agg cs.toArray] w0 (fun(r:Ending) (w':World)=>r=.returned (.int .i64 (0))∧avZ w0.heap.size w0 w'):=by
 have hE0:=hE;obtain⟨_,_,rfl,hnn,hkk⟩:=hE0.open;obtain⟨pa9,pc9,rfl,hnk,hnm,acn⟩:=SliceAt.form hnn (by decide);obtain⟨qa,qc,rfl,hkc,hkm,hcell⟩:=aq.form hkk (by decide);have ct:=hr1 Tryz.prog Tryz.f267 (fun(r:Ending) (w':World)=>r=.returned (.int .i64 (0))∧avZ w0.heap.size w0 w') 5 2 rfl;refine en Tryz.func267 rfl Tryz.ntmps267 rfl (vs:=[.agg #[.int .i64 e.op,.int .i64 e.a,.int .i64 e.rel,.int .i64 e.b,.slice pa9 e.names.length pc9,.int .u64 e.set.a,.int .u64 e.set.b,.int .u64 e.set.c,.int .u64 e.set.d,.slice qa e.kids.length qc]]) rfl fun _ F=>?_
 have M:=Mm.start w0;refine avS fun K1 jq=>ah<|PZ (on rfl) rfl (F.u rf) rfl F rfl M fun g1 _ _ F M=>xA (v:=.int .i64 0) F rf rf rf fun _ F=>avT<|jq _ _ ?_
 refine avS fun K2 jW=>ah<|xW F (M.b 0 rfl) rf rf rf O9 rf sF rf fun _ F=>
  xC F M rf rf ah0 (args2 (F.u rf) rfl) (Ow e _ _ d 1 (hE.keep M.below) hB (by omega)) fun _ _ F M=>
  xA F rf rf rf fun _ F=>
  avT<|
  jW _ _ ?_
 refine wp_ret<|ct _ _ _ _ F rfl ?_;exact⟨rfl,M.below⟩
theorem KQ:∀ (e:ak) (wa w0:World) (bs:List Bx) (rs:List Rw) (d:Nat) (v:Value) (n:Nat) (xs:List Value) (cs:List Value),Mm wa w0 bs (⟨v,9,1,n,xs⟩::rs)→aZ wa cs e→eV d e→n+(bf e).length≤100000→Calls Tryz.prog 268 #[v,.agg cs.toArray] w0 (fun(r:Ending) (w':World)=>∃ v',r=.returned v'∧Mm wa w' bs (⟨v',9,1,n+(bf e).length,xs++(bf e).flatMap aT⟩::rs)):=by
 refine ak.ind fun e ih=>?_
 intro wa w0 bs rs d v n xs cs hM hE hB hlen;have hb:=hB.facts;have hko:=hb.kids;obtain⟨_,_,rfl,hnn,hkk⟩:=hE.open;obtain⟨pa9,pc9,rfl,hnk,hnm,-⟩:=SliceAt.form hnn (by decide);obtain⟨qa,qc,rfl,hkc,hkm,hcell⟩:=aq.form hkk (by decide);have hnE:=RO e;have ct:=hr1 Tryz.prog Tryz.f268 (fun(r:Ending) (w':World)=>∃ v',r=.returned v'∧Mm wa w' bs (⟨v',9,1,n+(bf e).length,xs++(bf e).flatMap aT⟩::rs)) 23 4 rfl;refine en Tryz.func268 rfl Tryz.ntmps268 rfl (vs:=[v,.agg #[.int .i64 e.op,.int .i64 e.a,.int .i64 e.rel,.int .i64 e.b,.slice pa9 e.names.length pc9,.int .u64 e.set.a,.int .u64 e.set.b,.int .u64 e.set.c,.int .u64 e.set.d,.slice qa e.kids.length qc]]) rfl fun _ F=>?_
 have M:=hM;refine avS fun K1 jq=>ah<|PZ (on rfl) rfl (F.u rf) rfl F rfl M fun g1 _ _ F M=>xA (v:=.slice none 0 0) F rf rf rf fun _ F=>avT<|jq _ _ ?_
 refine avS fun K2 jW=>ah<|xM F rf rf rf fun _ F=>xF 4 F rf rf rf O9 rf ahV rf fun _ F=>xL F (M.b 0 rfl) rf rf rf u28 rf rf fun _ F=>
  kp (on rfl) rfl u28 aix rfl M 0 rfl (F.u rf) (F.u rf) (SliceAt.keep hnn M.below) ⟨by unfold maxLen;omega,by omega⟩ rfl F rfl fun v2 _ _ F M=>
  xA F rf rf rf fun _ F=>
  avT<|
  jW _ _ ?_
 refine avS fun K3 pR=>avS fun K4 p9=>ah<|xF 9 F rf rf rf O9 rf UQ rf fun _ F=>xL F (M.b 0 rfl) rf rf rf UC rf rf fun _ F=>kz F rf (h_ rfl (F.u rf) UC) fun _ F=>xM (v:=.int .i64 0) F rf rf rf fun _ F=>avT<|p9 _ _ ?_
 refine avU<|?_;refine gj (ι:=Nat×Value) (fun|(m,v2),a,w=>Fs a 23 [(0,v2),(12,.slice qa e.kids.length qc),(13,.int .i64 (e.kids.length:Int)),(14,.int .i64 (m:Int))]∧Mm wa w ([]++bs) ([⟨v2,9,1,n+(eE e m).length,xs++(eE e m).flatMap aT⟩]++rs)∧m≤e.kids.length) (fun|(m,v2)=>e.kids.length-m) (0,v2) ⟨F.sub ⟨rfl,rfl,rfl,rfl,trivial⟩,((M.only (List.sublist_cons_self _ _) (List.Sublist.refl _):Mm wa _ bs _).cast rfl (YP)),avX _⟩ ?_
 (repeat clear F);(repeat clear M)
 rintro⟨m,v2⟩ _ _ ⟨F,M,hm⟩;refine avS fun K5 q5=>ah<|kz F rf (kO rfl (F.u rf) (F.u rf)) fun _ F=>avT<|q5 _ _ ?_
 refine avS fun K6 tu=>?_
 refine avV (F.e 15 rfl) (fun hc3=>?_) (fun hc3=>?_)
 ·have Wo:=of_decide_eq_true hc3;refine wp_skip<|tu _ _ ?_;refine avS fun K7 vK=>avU<|avS fun K8 CW=>?_
  have hlty:m<e.kids.length:=by omega
  obtain⟨y,hy⟩:∃ y,e.kids[m]?=some y:=⟨_,av2 hlty⟩;have qV:=av7 hy;obtain⟨b9,o9,cs9,rfl,sy,-,hr9⟩:=hcell m y hy;obtain⟨_,_,rfl,aiW,hkky⟩:=sy.open;obtain⟨nay,nky,rfl,-⟩:=SliceAt.form aiW (by decide);obtain⟨kay,kky,rfl,-⟩:=aq.form hkky (by decide);obtain⟨c,hdc,hBk⟩:=hb.kid y qV
  refine ah<|
   kz F rf (cB (i:=m) rfl (F.u rf) (F.u rf) (by omega) UC sF) fun _ F=>
   kz F rf (g_ [.int .i64 y.op,.int .i64 y.a,.int .i64 y.rel,.int .i64 y.b,.slice nay y.names.length nky,.int .u64 y.set.a,.int .u64 y.set.b,.int .u64 y.set.c,.int .u64 y.set.d,.slice kay y.kids.length kky] rfl (F.u rf) O9 rfl sF (bY M.below hr9)) fun _ F=>
   NJ (on rfl) rfl sE rfl F rfl M fun g5 _ _ F M=>
   ND (on rfl) rfl (F.u rf) (F.u rf) F M 0 rfl sF rfl rfl rfl fun _ M=>
   avT<|
   CW _ _ ?_
  have apu:=Nl hy;refine ah<|xM F rf rf rf fun _ F=>xW F (M.b 0 rfl) rf rf rf O9 rf sF rf fun _ F=>kt (on rfl) (fO rfl Tryz.func268 aal rfl (args2 (F.u rf) (F.u rf))) (ih y qV wa _ _ _ c _ _ _ _ M sy hBk (by omega)) rfl F rfl fun v9 _ w9 hR F=>?_
  have M:=hR;refine xA F rf rf rf fun _ F=>avT<|vK _ _ ?_
  refine ah<|
   ke (on rfl) (gN rfl (F.u rf) rfl) rfl F rfl (congrArg (Value.int .i64) (wrap_i64 (by omega))) fun _ F=>
   xM F rf rf rf fun _ F=>
   avT<|?_
  exact⟨(m+1,v9),⟨F.sub ⟨rfl,rfl,rfl,rfl,trivial⟩,((M.only (List.Sublist.append (.cons _ .slnil) (List.Sublist.refl _)) (List.Sublist.refl _))).cast rfl (abZ hy),by omega⟩,by show e.kids.length-(m+1)<e.kids.length-m;omega⟩
 ·have hd6:=of_decide_eq_false hc3;refine wp_exit<|pR _ _ ?_;refine avS fun K9 AV=>ah<|xM F rf rf rf fun _ F=>xA F rf rf rf fun _ F=>avT<|AV _ _ ?_
  refine wp_ret<|ct _ _ _ _ F rfl ?_;obtain rfl:m=e.kids.length:=by omega
  rw[RP] at M;exact⟨_,rfl,M.only (show List.Sublist bs _ from List.sublist_append_right _ _) (List.Sublist.refl _)⟩
def gA(w:World)(v:Value)(s:List Bool):Prop:=SliceAt w v 1 s.length (s.map Value.bool)
theorem gA.keep{w w':World}{v:Value}{s:List Bool}(h:gA w v s)(hb:avZ w.heap.size w w'):gA w' v s:=SliceAt.keep h hb
theorem Bf{w:World}{B:Nat}{v:Value}{s:List Bool}{n:Nat}{xs:List Value}(h:w.ownsRow B 4 1 v n xs)(hn:n=s.length)(hx:xs=s.map Value.bool):gA w v s:=by
 subst hn hx;exact SliceAt.bq h fun u hu=>by obtain⟨b,-,rfl⟩:=awe.1 hu;rfl
def XZ(s:List Bool)(n:Int):Bool:=decide (0≤n)&&(s[n.toNat]?).getD false
theorem Ld(w0:World)(v:Value)(s:List Bool)(n:Int)(h:gA w0 v s):Calls Tryz.prog 276 #[v,.int .i64 n] w0 fun r w'=>r=.returned (.bool (XZ s n))∧avZ w0.heap.size w0 w':=by
 obtain⟨la,lk,rfl,hk,hm,hcell⟩:=SliceAt.form h (by decide);by_cases hin:0≤n∧n<s.length
 ·obtain⟨i,rfl⟩:∃ i:Nat,n=i:=⟨n.toNat,by omega⟩;have hi:i<s.length:=by omega
  obtain⟨b,off,rfl,hc⟩:=hcell i hi;refine bP [] (fn:=Tryz.f276) Tryz.func276 rfl Tryz.ntmps276 rfl (ia (an (fun _=>⟨rfl,rfl,hi⟩) (lc (x:=.bool s[i]) (an (fun _=>hc 0 (.bool s[i]) (by simp[hi])) fun M=>⟨?_,M.below⟩))));simp[lS,XZ,hi]
 ·refine bP [] (fn:=Tryz.f276) Tryz.func276 rfl Tryz.ntmps276 rfl (ia (b:=0) (off:=0) (i:=0) (an (fun h=>by simp at h;omega) (lc (x:=.bool false) (an (fun h=>by simp at h;omega) fun M=>⟨?_,M.below⟩))))
  have:XZ s n=false:=by
   unfold XZ;by_cases h0:0≤n
   ·rw[List.getElem?_eq_none (by omega)];simp
   ·simp[h0]
  simp[lS,this]
def Aa(n:Nat)(s:List Bool):List Bool:=(List.range n).map fun(i:Nat)=>XZ s (i:Int)
theorem SM(w0:World)(c0 c1 c2 c3 c4 c5 c6 c7 c8 c9 aQ aL aK aP aO aN aM v:Value)(p:aA)(s:List Bool)(hp:aJ w0 c0 c1 c2 c3 c4 c5 c6 c7 c8 c9 aQ aL aK aP aO aN aM p)(hs:gA w0 v s)(hb:p.bools.length≤1000):
 Calls Tryz.prog 294 #[.agg #[c0,c1,c2,c3,c4,c5,c6,c7,c8,c9,aQ,aL,aK,aP,aO,aN,aM],v] w0 fun r w'=>∃ u,r=.returned u∧(w'.ownsRow w0.heap.size 4 1 u p.bools.length ((Aa p.bools.length s).map Value.bool)∧avZ w0.heap.size w0 w'):=by
 obtain⟨iz,iy,rfl,-⟩:=SliceAt.form hp.bools (by decide)
 refine bP [] (fn:=Tryz.f294) Tryz.func294 rfl Tryz.ntmps294 rfl fun g w1 M1=>lq (ι:=Nat×Value) (fun(m,u)=>[(5,u),(6,.int .i64 (m:Int))]) (fun(m,u)=>[⟨u,4,1,m,(Aa m s).map Value.bool⟩]) (fun(m,u) _=>m≤p.bools.length) (fun(m,u)=>p.bools.length-m) (0,.slice none 0 0)
  (an ⟨⟨rfl,rfl,trivial⟩,fun M=>⟨M.bB 4 1,avX _⟩⟩ ?_)
 rintro⟨m,u⟩ w M hm;refine lb 0 (an rfl (an (fun h=>?_) fun h M=>?_))
 ·simp only[decide_eq_true_eq] at h;refine cl (an (Ld w _ s m (hs.keep M.below)) fun w2 M=>fun g2 w3 M=>ap 0 id rfl (M.slice 0 rfl rfl rfl (by simp[maxLen])) ⟨by unfold maxLen;omega,by omega⟩ fun v2 w4 M=>an (by omega) (bk (m+1,v2) ⟨rfl,rfl,trivial⟩ (fun M=>⟨(M.only (.cons _ (.refl _)) (.refl _)).cast rfl (by simp[Aa,List.range_succ]),by omega⟩) (by simp;omega)))
 ·simp only[decide_eq_false_iff_not] at h;obtain rfl:m=p.bools.length:=by omega
  exact⟨_,rfl,M.r 0 rfl,M.below⟩
def lP(s:List Bool)(op a:Int)(l:List Bool):Bool:=
 if op=1 then XZ s a else if l.length=0 then false else if op=2 then !(l.getD 0 false) else if op=3 then l.getD 0 false&&l.getD 1 false else
  if op=4 then l.getD 0 false||l.getD 1 false else if op=6 then l.getD 0 false == l.getD 1 false else !(l.getD 0 false == l.getD 1 false)
mutual
def gB(s:List Bool):ak→Bool
 | .node op a _ _ _ _ kids=>lP s op a (qw s kids)
def qw(s:List Bool):List ak→List Bool
 | []=>[]
 | k::l=>gB s k::qw s l
end
theorem oh(s:List Bool)(e:ak):gB s e=lP s e.op e.a (qw s e.kids):=by cases e;rw[gB];rfl
theorem n_(s:List Bool):∀ l,qw s l=l.map (gB s)
 | []=>by rw[qw];rfl
 | k::l=>by rw[qw,n_ s l];rfl
theorem qu:∀ e:ak,∀ (w0:World) (cs:List Value) (v:Value) (s:List Bool),aZ w0 cs e→gA w0 v s→Calls Tryz.prog 239 #[.agg cs.toArray,v] w0 fun r w'=>r=.returned (.bool (gB s e))∧avZ w0.heap.size w0 w':=by
 refine ak.ind fun e ih=>?_
 intro w0 cs v s h hs;obtain⟨nv,kv,rfl,D7,hk⟩:=h.open;obtain⟨ka,kc,rfl,hc,EX,hcell⟩:=hk.form (by decide);refine bP [] (fn:=Tryz.f239) Tryz.func239 rfl Tryz.ntmps239 rfl fun g w1 M1=>lb 0 (an rfl (an (fun h1=>lb 0 (an rfl (cl (an (Ld _ _ s e.a (hs.keep M1.below)) fun w2 M=>fun M=>⟨?_,M.below⟩)))) fun h1=>lb 0 (an rfl (an (fun h2 M=>⟨?_,M.below⟩) fun h2=>?_))))
 ·simp only[decide_eq_true_eq] at h1;rw[oh,lP,if_pos h1];rfl
 ·simp only[decide_eq_true_eq,decide_eq_false_iff_not] at h1 h2;rw[oh,lP,if_neg h1,n_,if_pos (by rw[awf];omega)];rfl
 simp only[decide_eq_false_iff_not] at h1 h2;obtain⟨y0,hy0⟩:∃ y,e.kids[0]?=some y:=⟨_,av2 (by omega)⟩;obtain⟨b0,o0,x0,hka,he0,-,hr0⟩:=hcell 0 y0 hy0;obtain⟨nv0,kv0,rfl,-⟩:=he0.open
 obtain⟨y1,JM,VO,H1⟩:∃ y1 JM VO,1<e.kids.length→e.kids[1]?=some y1∧aZ w0 [.int .i64 y1.op,.int .i64 y1.a,.int .i64 y1.rel,.int .i64 y1.b,JM,.int .u64 y1.set.a,.int .u64 y1.set.b,.int .u64 y1.set.c,.int .u64 y1.set.d,VO] y1 ∧
  ∀ (j:Nat) (u:Value),[Value.int .i64 y1.op,.int .i64 y1.a,.int .i64 y1.rel,.int .i64 y1.b,JM,.int .u64 y1.set.a,.int .u64 y1.set.b,.int .u64 y1.set.c,.int .u64 y1.set.d,VO][j]?=some u→w0.cell? ⟨b0,o0+1*10+j,none⟩=some u:=by
  by_cases h3:1<e.kids.length
  ·obtain⟨y1,hy1⟩:∃ y,e.kids[1]?=some y:=⟨_,av2 h3⟩;obtain⟨b1,o1,x1,afI,vJ,-,hr1⟩:=hcell 1 y1 hy1;obtain⟨JM,VO,rfl,-⟩:=vJ.open;rw[hka] at afI;cases afI;exact⟨y1,JM,VO,fun _=>⟨hy1,vJ,hr1⟩⟩
  ·exact⟨y0,nv0,kv0,fun h=>absurd h h3⟩
 have hl0:(qw s e.kids).getD 0 false=gB s y0:=by rw[n_];simp[hy0]
 have hl1:(qw s e.kids).getD 1 false=(decide (1<(e.kids.length:Int))&&gB s y1):=by
  rw[n_];by_cases h3:1<e.kids.length
  ·have hd:decide (1<(e.kids.length:Int))=true:=by simp;omega
   rw[hd,awg,awh,(H1 h3).1];rfl
  ·have hd:decide (1<(e.kids.length:Int))=false:=by simp;omega
   rw[hd,awg,awh,List.getElem?_eq_none (Nat.le_of_not_lt h3)];rfl
 have hV:gB s e=if e.op=2 then !(gB s y0) else if e.op=3 then gB s y0&&(decide (1<(e.kids.length:Int))&&gB s y1) else
  if e.op=4 then gB s y0||(decide (1<(e.kids.length:Int))&&gB s y1) else if e.op=6 then gB s y0 == (decide (1<(e.kids.length:Int))&&gB s y1) else !(gB s y0 == (decide (1<(e.kids.length:Int))&&gB s y1)):=by
  rw[oh,lP,if_neg h1,hl0,hl1,if_neg (by rw[n_,awf];omega)]
 clear hl0 hl1;refine lb 0 (an rfl (ia (i:=0) (an ⟨hka,rfl,by omega⟩ (lc (an (bY M1.below hr0) (cl (an (ih y0 (av7 hy0) _ _ _ s (aZ.keep M1.below he0) (hs.keep M1.below)) fun w2 M2=>lb 0 (an rfl ?_))))))));have pQ:decide (1<(e.kids.length:Int))=true→1<e.kids.length:=fun h=>by have:=of_decide_eq_true h;omega
 refine lb 0 (an (fun _=>rfl) (ia (i:=1) (an (fun h3=>⟨hka,rfl,pQ h3⟩) (lc (an (fun h3=>bY M2.below (H1 (pQ h3)).2.2) (cl (an (fun h3=>ih y1 (av7 (H1 (pQ h3)).1) _ _ _ s (aZ.keep M2.below (H1 (pQ h3)).2.1) (hs.keep M2.below)) fun w3 M3=>lb 0 (an rfl ?_))))))));rw[hV];clear hV H1;refine an (fun h2 M=>⟨?_,M.below⟩) fun h2=>lb 0 (an rfl (an (fun h3 M=>⟨?_,M.below⟩) fun h3=>lb 0 (an rfl (an (fun h4 M=>⟨?_,M.below⟩) fun h4=>lb 0 (an rfl (an (fun h5 M=>⟨?_,M.below⟩) fun h5 M=>⟨?_,M.below⟩))))))
 all_goals simp_all [lS]
theorem Xk(w0:World)(c0 c1 c2 c3 c4 c5 c6 c7 c8 c9 aQ aL aK aP aO aN aM v:Value)(p:aA)(s:List Bool)(hp:aJ w0 c0 c1 c2 c3 c4 c5 c6 c7 c8 c9 aQ aL aK aP aO aN aM p)(hs:gA w0 v s)(hb:p.bools.length≤1000):
 Calls Tryz.prog 294 #[.agg #[c0,c1,c2,c3,c4,c5,c6,c7,c8,c9,aQ,aL,aK,aP,aO,aN,aM],v] w0 fun r w'=>∃ u,r=.returned u∧(gA w' u (Aa p.bools.length s)∧avZ w0.heap.size w0 w'):=
 (SM w0 c0 c1 c2 c3 c4 c5 c6 c7 c8 c9 aQ aL aK aP aO aN aM v p s hp hs hb).mono fun _ _ ⟨u,h1,h2,h3⟩=>⟨u,h1,Bf h2 (by simp[Aa]) rfl,h3⟩
theorem xZ(s:List Bool):eG (fun u w=>gA w u s):=fun _ _ _ h hb=>h.keep hb
def kL(n:Nat)(conds:List ak)(s:List Bool):List Bool:=conds.map (gB (Aa n s))
theorem FJ(w0:World)(c0 c1 c2 c3 c4 c5 c6 c7 c8 c9 aQ aL aK aP aO aN aM v:Value)(p:aA)(s:List Bool)(hp:aJ w0 c0 c1 c2 c3 c4 c5 c6 c7 c8 c9 aQ aL aK aP aO aN aM p)(hs:gA w0 v s)(hb:p.bools.length≤1000)(hc:p.conds.length≤1000):
 Calls Tryz.prog 265 #[.agg #[c0,c1,c2,c3,c4,c5,c6,c7,c8,c9,aQ,aL,aK,aP,aO,aN,aM],v] w0 fun r w'=>∃ u,r=.returned u∧(w'.ownsRow w0.heap.size 4 1 u p.conds.length ((kL p.bools.length p.conds s).map Value.bool)∧avZ w0.heap.size w0 w'):=by
 obtain⟨la8,lk8,rfl,-,-,Gq⟩:=aq.form hp.conds (by decide)
 refine bP [] (fn:=Tryz.f265) Tryz.func265 rfl Tryz.ntmps265 rfl fun g w1 M1=>lq (ι:=Nat×Value) (fun(m,u)=>[(5,u),(6,.int .i64 (m:Int))]) (fun(m,u)=>[⟨u,4,1,m,(kL p.bools.length (p.conds.take m) s).map Value.bool⟩]) (fun(m,u) _=>m≤p.conds.length) (fun(m,u)=>p.conds.length-m) (0,.slice none 0 0)
  (an ⟨⟨rfl,rfl,trivial⟩,fun M=>⟨M.bB 4 1,avX _⟩⟩ ?_)
 rintro⟨m,u⟩ w M hm;refine lb 0 (an rfl (an (fun h=>?_) fun h M=>?_))
 ·simp only[decide_eq_true_eq] at h;obtain⟨y,hy⟩:∃ y,p.conds[m]?=some y:=⟨_,av2 (by omega)⟩;obtain⟨b0,o0,x0,rfl,he,-,hr⟩:=Gq m y hy;obtain⟨nv0,kv0,rfl,-⟩:=he.open;refine dr (by kernel_rfl)<|lb 0<|an rfl<|ia<|an ⟨rfl,rfl,by omega⟩<|lc<|an (bY M.below hr)<|lb 0<|an rfl<|cr (fun u w=>gA w u (Aa p.bools.length s))<|an (xZ _)<|an (fun w' hb' M'=>Xk _ _ _ _ _ _ _ _ _ _ _ _ _ _ _ _ _ _ _ p s (hp.keep M'.below) (hs.keep M'.below) hb)<|cu<|an (fun u _ w' hb' M' hR=>qu y _ _ _ _ (aZ.keep M'.below he) hR) ?_;refine bl fun g2 w2 hb2 M=>ap 0 id rfl (M.slice 0 rfl rfl rfl (by simp[maxLen])) ⟨by unfold maxLen;omega,by omega⟩ fun v2 w4 M=>an (by omega) (bk (m+1,v2) ⟨rfl,rfl,trivial⟩ (fun M=>⟨(M.only (.cons _ (.refl _)) (.refl _)).cast rfl (by simp[kL,List.take_add_one,hy]),by omega⟩) (by simp;omega))
 ·simp only[decide_eq_false_iff_not] at h;obtain rfl:m=p.conds.length:=by omega
  exact⟨_,rfl,by have h1:=M.r 0 rfl;simp only[awb] at h1;exact h1,M.below⟩
def lX(n:Nat)(conds:List ak)(s:List Bool)(k:Int):Bool:=
 if 0<k∧k≤conds.length then ((kL n conds s)[(k-1).toNat]?).getD false else if k<0∧0-(conds.length:Int)≤k then !((kL n conds s)[(0-k-1).toNat]?).getD false else decide (k=0)
theorem wm(w0:World)(c0 c1 c2 c3 c4 c5 c6 c7 c8 c9 aQ aL aK aP aO aN aM v:Value)(p:aA)(s:List Bool)(k:Int)(hp:aJ w0 c0 c1 c2 c3 c4 c5 c6 c7 c8 c9 aQ aL aK aP aO aN aM p)(hs:gA w0 v s)(hb:p.bools.length≤1000)(hc:p.conds.length≤1000)(hk:iX k):
 Calls Tryz.prog 211 #[.agg #[c0,c1,c2,c3,c4,c5,c6,c7,c8,c9,aQ,aL,aK,aP,aO,aN,aM],v,.int .i64 k] w0 fun r w'=>r=.returned (.bool (lX p.bools.length p.conds s k))∧avZ w0.heap.size w0 w':=by
 have hk1:=hk.1;have hk2:=hk.2;refine bP [] (fn:=Tryz.f211) Tryz.func211 rfl Tryz.ntmps211 rfl fun g w1 M1=>lb 0 (an rfl (cw M1 (FJ _ _ _ _ _ _ _ _ _ _ _ _ _ _ _ _ _ _ _ p s (hp.keep M1.below) (hs.keep M1.below) hb hc) fun u w2 M2=>?_))
 have hrow:=M2.r 0 rfl;have hu:gA w2 u (kL p.bools.length p.conds s):=Bf hrow (by simp[kL]) rfl;obtain⟨la,lk,rfl,-,-,hcell⟩:=SliceAt.form hu (by decide);have hlen:(kL p.bools.length p.conds s).length=p.conds.length:=by simp[kL]
 rw[hlen] at hcell;have hL:((kL p.bools.length p.conds s).map Value.bool).length=p.conds.length:=by simp[hlen]
 refine an (fun h=>?_) fun h=>?_
 ·simp only[awd,decide_eq_true_eq,hlen] at h;obtain⟨b,off,rfl,hc'⟩:=hcell (k-1).toNat (by omega);have hlt:(k-1).toNat<(kL p.bools.length p.conds s).length:=by rw[hlen];omega
  refine an (by omega)<|ia (i:=(k-1).toNat)<|an ⟨rfl,by omega,by omega⟩<|lc (x:=.bool (kL p.bools.length p.conds s)[(k-1).toNat])<|an (hc' 0 _ (by simp)) fun M=>⟨?_,M.below⟩
  unfold lX;rw[if_pos h,av2 hlt];rfl
 ·refine an (by omega)<|an (fun h2=>?_) fun h2 M=>⟨?_,M.below⟩
  ·simp only[awd,decide_eq_true_eq,hlen] at h2;simp only[Bool.and_eq_false_iff,decide_eq_false_iff_not,hlen] at h;obtain⟨b,off,rfl,hc'⟩:=hcell (0-k-1).toNat (by omega);have hlt:(0-k-1).toNat<(kL p.bools.length p.conds s).length:=by rw[hlen];omega
   refine an (by omega)<|an (by omega)<|ia (i:=(0-k-1).toNat)<|an ⟨rfl,by omega,by omega⟩<|lc (x:=.bool (kL p.bools.length p.conds s)[(0-k-1).toNat])<|an (hc' 0 _ (by simp)) fun M=>⟨?_,M.below⟩
   unfold lX;rw[if_neg (by omega),if_pos h2,av2 hlt];rfl
  ·simp only[Bool.and_eq_false_iff,decide_eq_false_iff_not,hlen] at h h2;unfold lX;rw[if_neg (by omega),if_neg (by omega)];rfl
theorem GX{P:Program}{a:Act}{w:World}{o:Oper}{ss tt:TypeId}{x:Operand}{m:Nat}(ho:o.op=.convert ss tt x)(hx:a.eval x=.int .i64 (m:Int))(hs:P.underlying ss=some (.int .i64))(ht:P.underlying tt=some (.int .u64))(hm:m<18446744073709551616):(execOp a.eval o).run P w=.ok (.value (.int .u64 (m:Int))) w:=by
 have hw:IntKind.u64.wrap (m:Int)=(m:Int):=by simp only[IntKind.wrap,IntKind.bits,IntKind.signed];simp;omega
 unfold execOp;have uW:∀ {t:TypeId} {d:TypeDesc},P.underlying t=some d→(underlying t).run P w=.ok d w:=fun h=>run_underlying h w
 simp[ho,hx,convert,awc,Sem.run_pure,uW hs,uW ht,Conv.intToInt,hw]
theorem QA(q:Nat):IntKind.i64.wrap (((BitVec.ofInt 64 (q:Int))&&&BitVec.ofInt 64 1).toNat:Int)=((q%2:Nat):Int):=by
 have h:((BitVec.ofInt 64 (q:Int))&&&BitVec.ofInt 64 1).toNat=q%2:=by
  rw[BitVec.toNat_and,BitVec.ofInt_natCast,BitVec.toNat_ofNat];show q%2^64&&&1=_;rw[Nat.and_one_is_mod];omega
 rw[h];have:q%2<2:=Nat.mod_lt _ (by decide);simp only[IntKind.wrap,IntKind.bits,IntKind.signed];simp;omega
def oH(n r:Nat):List Bool:=(List.range n).map fun i=>r.testBit i
theorem Cm(w0:World)(c0 c1 c2 c3 c4 c5 c6 c7 c8 c9 aQ aL aK aP aO aN aM:Value)(p:aA)(r:Nat)(hp:aJ w0 c0 c1 c2 c3 c4 c5 c6 c7 c8 c9 aQ aL aK aP aO aN aM p)(hb:p.bools.length≤60):
 Calls Tryz.prog 134 #[.agg #[c0,c1,c2,c3,c4,c5,c6,c7,c8,c9,aQ,aL,aK,aP,aO,aN,aM],.int .i64 (r:Int)] w0 fun x w'=>∃ u,x=.returned u∧(w'.ownsRow w0.heap.size 4 1 u p.bools.length ((oH p.bools.length r).map Value.bool)∧avZ w0.heap.size w0 w'):=by
 obtain⟨iz,iy,rfl,-⟩:=SliceAt.form hp.bools (by decide)
 refine bP [] (fn:=Tryz.f134) Tryz.func134 rfl Tryz.ntmps134 rfl fun g w1 M1=>lq (ι:=Nat×Value) (fun(m,u)=>[(5,u),(6,.int .i64 (m:Int))]) (fun(m,u)=>[⟨u,4,1,m,(oH m r).map Value.bool⟩]) (fun(m,u) _=>m≤p.bools.length) (fun(m,u)=>p.bools.length-m) (0,.slice none 0 0)
  (an ⟨⟨rfl,rfl,trivial⟩,fun M=>⟨M.bB 4 1,avX _⟩⟩ ?_)
 rintro⟨m,u⟩ w M hm;refine lb 0 (an rfl (an (fun h=>?_) fun h M=>?_))
 ·simp only[decide_eq_true_eq] at h;have hq:((r:Int)/2^m)=((r/2^m:Nat):Int):=by simp
  refine ei<|an (fun a w o ho hv=>GX ho (dU hv) u3 Yf (by omega))<|ei (x:=.int .i64 ((r/2^m:Nat):Int))<|an (fun a w o ho hv=>?_)<|ei<|an (QA _) fun g2 w3 M=>ap 0 id rfl (M.slice 0 rfl rfl rfl (by simp[maxLen])) ⟨by unfold maxLen;omega,by omega⟩ fun v2 w4 M=>an (by omega) (bk (m+1,v2) ⟨rfl,rfl,trivial⟩ (fun M=>⟨(M.only (.cons _ (.refl _)) (.refl _)).cast rfl (by
   have:decide ((((r/2^m)%2:Nat):Int)=1)=r.testBit m:=by
    rw[Nat.testBit_eq_decide_div_mod_eq];exact decide_eq_decide.2 (by omega)
   simp only[oH,List.range_succ,List.map_append,List.map_cons,List.map_nil,this]),by omega⟩) (by simp;omega))
  have:=Qj (P:=Tryz.prog) (w:=w) ho (dU hv) (fE hv) (by omega) (by simp[IntKind.bits];omega);rw[this,← hq];rfl
 ·simp only[decide_eq_false_iff_not] at h;obtain rfl:m=p.bools.length:=by omega
  exact⟨_,rfl,M.r 0 rfl,M.below⟩
theorem ME(w0:World)(v v':Value)(s s':List Bool)(h:gA w0 v s)(h':gA w0 v' s'):Calls Tryz.prog 136 #[v,v'] w0 fun r w'=>r=.returned (.bool (decide (s=s')))∧avZ w0.heap.size w0 w':=by
 obtain⟨la,lk,rfl,-,EX,hcell⟩:=SliceAt.form h (by decide);obtain⟨la',lk',rfl,-,-,CT⟩:=SliceAt.form h' (by decide);refine bP [] (fn:=Tryz.f136) Tryz.func136 rfl Tryz.ntmps136 rfl<|an (fun h M=>⟨?_,M.below⟩) fun h=>lr (ι:=Nat) (fun m=>[(5,.int .i64 (m:Int))]) (fun m _=>m≤s.length∧s.take m=s'.take m) (fun m=>s.length-m) 0 (an ⟨⟨rfl,trivial⟩,fun M=>⟨M,avX _,rfl⟩⟩ ?_)
 ·have:s≠s':=fun e=>by rw[e] at h;simp at h
  rw[decide_eq_false this];rfl
 have hll:s.length=s'.length:=Int.ofNat_inj.1 (by simpa using h);rintro m w M ⟨hm,ht⟩;refine an (fun h2=>?_) fun h2 M=>⟨?_,M.below⟩
 ·simp only[decide_eq_true_eq] at h2;obtain⟨b,off,rfl,hc⟩:=hcell m (by omega);obtain⟨b',off',rfl,hc'⟩:=CT m (by omega);have hlt:m<s.length:=by omega
  have hlt':m<s'.length:=by omega
  refine dr (by kernel_rfl)<|ia<|an ⟨rfl,rfl,hlt⟩<|lc (x:=.bool s[m])<|an (awi M.below (hc 0 _ (by simp[hlt])))<|ia<|an ⟨rfl,rfl,hlt'⟩<|lc (x:=.bool s'[m])<|an (awi M.below (hc' 0 _ (by simp[hlt']))) fun w2 hb2 M=>an (fun h3 M=>⟨?_,M.below⟩) fun h3=>an (by omega) (bk (m+1) ⟨rfl,trivial⟩ (fun M=>⟨M,by omega,?_⟩) (by dsimp only;omega))
  ·have:s≠s':=fun e=>by subst e;simp at h3
   rw[decide_eq_false this];rfl
  ·rw[List.take_add_one,List.take_add_one,ht,av2 hlt,av2 hlt'];have:s[m]=s'[m]:=by simpa using h3
   rw[this]
 ·simp only[decide_eq_false_iff_not] at h2;have:s=s':=by rw[← awb (l:=s),← awb (l:=s'),← hll,← show m=s.length by omega];exact ht
  rw[decide_eq_true this];rfl
theorem aV.elt{α:Type}{f:α→List Value}{B:Nat}{w0 w:World}{bs:List Bx}{rs:List Rw}(M:aV B w0 w bs rs)(i:Nat){g n c:Nat}{e k:Nat}{l:List α}{m:Nat}{y:α}(hr:rs[i]?=some ⟨.slice (some ⟨g,0,none⟩) n c,e,k,n,l.flatMap f⟩)(hf:∀ x,(f x).length=k)(hy:l[m]?=some y):
 ∀ j u,(f y)[j]?=some u→w.cell? ⟨g,0+m*k+j,none⟩=some u:=fun j u hu=>by
 have h:=World.ownsRow.cells (M.r i hr) (g:=g) rfl (m*k+j) u (by
  show(l.flatMap f)[m*k+j]?=some u;rw[nr hf hy j (hf y▸(av3.1 hu).1)];exact hu)
 rw[Addr.add_mid] at h;simpa[Nat.add_assoc] using h
theorem aV.own{B:Nat}{w0 w:World}{bs:List Bx}{rs:List Rw}(M:aV B w0 w bs rs)(i:Nat){v:Value}{e k n:Nat}{xs:List Value}(hr:rs[i]?=some ⟨v,e,k,n,xs⟩)(hn:0<n):∃ g c,v=.slice (some ⟨g,0,none⟩) n c:=by
 obtain⟨g,c,-,h,-⟩:=vm (M.r i hr) hn;exact⟨g,c,h⟩
def o_(x:Int):List Value:=[.int .u32 x]
theorem VT{K T C s t c:Nat}(hK:K≤3)(hT:T≤256)(hC:C≤256)(hs:s<T)(ht:t<T)(hc:c<C):K*T≤768∧K*T+s<4*T∧(K*T+s)*T≤262144∧(K*T+s)*T+t<4*T*T∧((K*T+s)*T+t)*C≤67108864∧((K*T+s)*T+t)*C+c<4*T*T*C:=by
 have h1:K*T≤3*256:=Nat.mul_le_mul hK hT;have h1':K*T≤3*T:=avY _ hK;have h2:K*T+s<4*T:=by omega
 have h3:(K*T+s)*T≤(4*256)*256:=Nat.mul_le_mul (by omega) hT
 have h4:(K*T+s)*T+t<4*T*T:=by
  have:=avY T (show K*T+s+1≤4*T by omega);rw[Nat.succ_mul] at this;omega
 have h4':(K*T+s)*T+t<262144:=by
  have:4*T*T≤(4*256)*256:=Nat.mul_le_mul (Nat.mul_le_mul_left _ hT) hT;omega
 have h5:((K*T+s)*T+t)*C≤262144*256:=Nat.mul_le_mul (by omega) hC;refine⟨by omega,h2,by omega,h4,by omega,?_⟩;have:=avY C (show(K*T+s)*T+t+1≤4*T*T by omega);rw[Nat.succ_mul] at this;omega
theorem Yq{xs:List Int}{j:Nat}{v:Int}(hj:j<xs.length):(xs.flatMap o_).take (j*1)++aY (.int .u32 v)++(xs.flatMap o_).drop (j*1+1)=(xs.set j v).flatMap o_:=by
 have h:∀ l:List Int,l.flatMap o_=l.map (Value.int .u32):=fun l=>by induction l with
  | nil=>rfl
  | cons x r ih=>rw[List.flatMap_cons,ih];rfl
 rw[h,h,Nat.mul_one,List.map_set,List.set_eq_take_append_cons_drop,if_pos (by simpa using hj)];simp[aY]
theorem aV.shape{B:Nat}{w0 w:World}{bs:List Bx}{rs:List Rw}(M:aV B w0 w bs rs)(i:Nat){v:Value}{e k n:Nat}{xs:List Value}(hr:rs[i]?=some ⟨v,e,k,n,xs⟩):∃ a c,v=.slice a n c∧n≤9223372036854775807:=by
 obtain⟨a,c,h,-,h2⟩:=fQ (M.r i hr);exact⟨a,c,h,h2⟩
def Pf(r:aj)(s q:Nat):List (Nat×Nat):=if r.src.has s=true then (cE (r.tgts s) q).map fun t=>(s,t) else []
theorem F3(w0:World)(r:aj)(hr:r.Ok):
 Calls Tryz.prog 212 #[.agg #[.int .i64 r.kind,.int .u64 r.src.a,.int .u64 r.src.b,.int .u64 r.src.c,.int .u64 r.src.d,.int .u64 r.tgt.a,.int .u64 r.tgt.b,.int .u64 r.tgt.c,.int .u64 r.tgt.d,.bool r.self,.int .i64 r.cls,.int .u32 r.perms,.int .i64 r.cond]] w0 fun e w'=>∃ v,e=.returned v∧(w'.ownsRow w0.heap.size 111 2 v r.pairs.length (fZ r.pairs)∧avZ w0.heap.size w0 w'):=by
 refine bP [] (fn:=Tryz.f212) Tryz.func212 rfl Tryz.ntmps212 rfl<|fun g1 w1 M1=>lq (ι:=Nat×Value) (fun(s,u)=>[(3,u),(4,.int .i64 (s:Int))]) (fun(s,u)=>[⟨u,111,2,(r.cO (cE r.src s)).length,fZ (r.cO (cE r.src s))⟩]) (fun(s,u) _=>s≤256) (fun(s,u)=>256-s) (0,.slice none 0 0) (an ⟨⟨rfl,rfl,trivial⟩,fun M=>⟨M.bB 111 2,avX _⟩⟩ ?_)
 rintro⟨s,u⟩ w M hs;have hP:=zn r (cE r.src s);have hP2:=iW r.src s;refine an (fun h=>?_) fun h=>?_
 ·have hlt:s<256:=by simp at h;omega
  refine lq (ι:=Nat×Value) (fun(q,u)=>[(3,u),(5,.int .i64 (q:Int))]) (fun(q,u)=>[⟨u,111,2,(r.cO (cE r.src s)++Pf r s q).length,fZ (r.cO (cE r.src s)++Pf r s q)⟩]) (fun(q,u) _=>q≤256) (fun(q,u)=>256-q) (0,u) (an ⟨⟨rfl,rfl,trivial⟩,fun M=>⟨M.cast rfl (by dsimp only;rw[show Pf r s 0=[] by unfold Pf cE;simp,List.append_nil]),avX _⟩⟩ ?_);rintro⟨q,u⟩ w M hq
  have hX:(r.cO (cE r.src s)++Pf r s q).length≤65536+256:=by
   have h3:=iW (r.tgts s) q;rw[av5];unfold Pf;split
   ·rw[awf];omega
   ·simp;omega
  refine lb 0<|an (fun _=>rfl)<|cl<|an (fun _=>Pu _ r.src hr.src s) fun w2 M2=>?_
  refine an (fun h2=>?_) fun h2=>?_
  ·obtain⟨h3,h4⟩:q<256∧r.src.has s=true:=by rw[ay.rZ r.src hlt] at h2;simp at h2;exact⟨by omega,h2.2⟩
   refine lb 0<|an rfl<|cl<|an (Pu _ r.tgt hr.tgt q) fun w3 M3=>lb 0<|an (fun _=>rfl)<|?_
   have hth:=UJ r hlt h3;refine an (fun h5=>?_) fun h5=>?_
   ·have h6:(r.tgts s).has q=true:=by rw[hth,← ay.rZ r.tgt h3];revert h5;cases r.tgt.mem (q:Int)<;>cases r.self<;>simp<;>omega
    refine ei (x:=.agg #[.int .i64 (s:Int),.int .i64 (q:Int)])<|an (bd (by kernel_rfl))<|fun g2 w4 M4=>ap 0 id rfl (M4.slice 0 rfl (k:=2) (n:=1) rfl rfl (by simp[maxLen])) ⟨by unfold maxLen;omega,by omega⟩ fun v3 w5 M5=>?_
    exact an (by omega)<|bk (q+1,v3) ⟨rfl,rfl,trivial⟩ (fun M=>⟨(M.only (.cons _ (.refl _)) (.refl _)).cast rfl (by dsimp only;rw[show Pf r s (q+1)=Pf r s q++[(s,q)] by unfold Pf;rw[if_pos h4,if_pos h4,rz h6,List.map_append];rfl,← List.append_assoc,lV _ [(s,q)],av5 (bs:=[(s,q)])];rfl),by dsimp only;omega⟩) (by dsimp only;omega)
   ·have h6:(r.tgts s).has q=false:=by rw[hth,← ay.rZ r.tgt h3];revert h5;cases r.tgt.mem (q:Int)<;>cases r.self<;>simp<;>omega
    exact an (by omega)<|bk (q+1,u) ⟨rfl,rfl,trivial⟩ (fun M=>⟨M.cast rfl (by dsimp only;rw[show Pf r s (q+1)=Pf r s q by unfold Pf;rw[uh h6]]),by dsimp only;omega⟩) (by dsimp only;omega)
  ·have h3:r.cO (cE r.src s)++Pf r s q=r.cO (cE r.src (s+1)):=by
    unfold Pf
    cases hh:r.src.has s with
    | true=>
     obtain rfl:q=256:=by rw[ay.rZ r.src hlt,hh] at h2;simp at h2;omega
     rw[if_pos rfl,rz hh,vh];rfl
    | false=>rw[uh hh];simp
   exact an (by omega)<|bk (s+1,u) ⟨rfl,rfl,trivial⟩ (fun M=>⟨M.cast rfl (by dsimp only;rw[h3]),by dsimp only;omega⟩) (by dsimp only;omega)
 obtain rfl:s=256:=by simp at h;omega
 exact fun M=>⟨_,rfl,M.r 0 rfl,M.below⟩
theorem Kr(w0:World)(c0 c1 c2 c3 c4 c5 c6 c7 c8 c9 aQ aL aK aP aO aN aM v:Value)(p:aA)(s:List Bool)(hp:aJ w0 c0 c1 c2 c3 c4 c5 c6 c7 c8 c9 aQ aL aK aP aO aN aM p)(hs:gA w0 v s)(hb:p.bools.length≤1000)(hc:p.conds.length≤1000)(hT:p.types.length≤256)(hC:p.classes.length≤256)
 (hR:∀ r∈p.rules,RV p.types.length p.classes.length r∧r.oU) :
 Calls Tryz.prog 133 #[.agg #[c0,c1,c2,c3,c4,c5,c6,c7,c8,c9,aQ,aL,aK,aP,aO,aN,aM],v] w0 fun x w'=>∃ u,x=.returned u∧(w'.ownsRow w0.heap.size 50 1 u (4*p.types.length*p.types.length*p.classes.length) ((bU p.types.length p.classes.length (fun r=>lX p.bools.length p.conds s r.cond) p.rules).flatMap o_)∧avZ w0.heap.size w0 w'):=by
 obtain⟨la0,lk0,rfl,-⟩:=aq.form hp.classes (by decide);obtain⟨la1,lk1,rfl,-⟩:=aq.form hp.types (by decide);obtain⟨Y0,VE,rfl,-,hm9,-⟩:=SliceAt.form hp.rules (by decide);generalize hTd:p.types.length=T at *;generalize hCd:p.classes.length=C at *
 have hN1:4*T*T*C≤67108864:=by
  have h1:4*T*T≤(4*256)*256:=Nat.mul_le_mul (Nat.mul_le_mul_left _ hT) hT;have h2:4*T*T*C≤((4*256)*256)*256:=Nat.mul_le_mul h1 hC;omega
 have hTT:4*T*T≤262144:=Nat.mul_le_mul (Nat.mul_le_mul_left _ hT) hT;refine bP [] (fn:=Tryz.f133) Tryz.func133 rfl Tryz.ntmps133 rfl fun g w1 M1=>dr (by kernel_rfl)<|lb 0<|an rfl<|lb 0<|an rfl ?_
 refine fun w2 hb2 M2=>?_
 have e1:(4*(T:Int))*(T:Int)=((4*T*T:Nat):Int):=by simp
 have e2:(4*(T:Int))*(T:Int)*(C:Int)=((4*T*T*C:Nat):Int):=by simp
 refine an (by omega)<|an (by omega)<|an (by omega)<|mz M2 ahP afi ahE rfl e2 ⟨by omega,by unfold maxLen;omega⟩ fun g2 w3 M3=>?_
 refine lq (ι:=Nat) (fun m=>[(8,.int .i64 (m:Int))]) (fun m=>[⟨.slice (some ⟨g2,0,none⟩) (4*T*T*C) (4*T*T*C),50,1,4*T*T*C,(bU T C (fun r=>lX p.bools.length p.conds s r.cond) (p.rules.take m)).flatMap o_⟩]) (fun m _=>m≤p.rules.length) (fun m=>p.rules.length-m) 0
  (an ⟨⟨rfl,trivial⟩,fun M=>⟨M.cast rfl ?_,avX _⟩⟩ ?_)
 ·have:∀ n:Nat,List.replicate n (Value.int .u32 0)=(List.replicate n (0:Int)).flatMap o_:=fun n=>by induction n with
   | zero=>rfl
   | succ n ih=>rw[List.replicate_succ,List.replicate_succ,List.flatMap_cons,← ih];rfl
  exact congrArg (fun x=>[(⟨_,50,1,_,x⟩:Rw)]) (this _)
 intro m w M hm;refine lb 0<|an rfl<|an (fun h=>?_) fun h M=>?_
 ·simp only[decide_eq_true_eq] at h;obtain⟨y,hy⟩:∃ y,p.rules[m]?=some y:=⟨_,av2 (by omega)⟩;obtain⟨hRV,hyk⟩:=hR y (av7 hy);obtain⟨b0,o0,rfl,hcell⟩:=SliceAt.elt hp.rules (f:=aj.cells) (fun _=>rfl) (by decide) hy (by omega)
  have hstep:∀ out,dV T C (fun r=>lX p.bools.length p.conds s r.cond) out (p.rules.take (m+1))=if lX p.bools.length p.conds s y.cond=true then oD T C y (dV T C (fun r=>lX p.bools.length p.conds s r.cond) out (p.rules.take m)) y.pairs else dV T C (fun r=>lX p.bools.length p.conds s r.cond) out (p.rules.take m):=fun out=>by
   unfold dV;rw[List.take_add_one,hy];simp
  refine lb 0<|an rfl<|ia<|an ⟨rfl,rfl,by omega⟩<|lc<|an (bY M.below hcell)<|ei<|an mP fun g3 w4 M=>lb 0<|an ⟨rfl,rfl⟩ fun w5 M=>?_
  refine lb 1<|an rfl<|lb 0<|an rfl<|cl<|an (wm _ _ _ _ _ _ _ _ _ _ _ _ _ _ _ _ _ _ _ p s y.cond (hp.keep M.below) (hs.keep M.below) hb hc hyk.cond) fun w6 M=>an (fun hoff=>?_) fun hon=>?_
  ·refine an (by omega)<|bk (m+1) ⟨rfl,trivial⟩ (fun M=>⟨(M.only (.cons _ (.refl _)) (.refl _)).cast rfl ?_,by omega⟩) (by dsimp only;omega);refine congrArg (fun x=>[(⟨_,50,1,_,List.flatMap o_ x⟩:Rw)]) ?_;unfold bU;rw[hstep,if_neg (by simpa using hoff)]
  ·have aiT:lX p.bools.length p.conds s y.cond=true:=by simpa using hon
   obtain⟨K,hK⟩:∃ K:Nat,y.kind=(K:Int)+1:=⟨(y.kind-1).toNat,by have:=hRV.kind;omega⟩;obtain⟨c,hcl⟩:∃ c:Nat,y.cls=(c:Int):=⟨y.cls.toNat,by have:=hRV.cls;omega⟩;have pR:K≤3:=by have:=hRV.kind;omega
   have hcC:c<C:=by have:=hRV.cls;omega
   refine lb 0<|an rfl<|cw M (F3 _ y ⟨hyk.src,hyk.tgt⟩) fun u w7 M=>?_
   refine lq (ι:=Nat) (fun k=>[(11,.int .i64 (k:Int))]) (fun k=>[⟨u,111,2,y.pairs.length,fZ y.pairs⟩,⟨.slice (some ⟨g2,0,none⟩) (4*T*T*C) (4*T*T*C),50,1,4*T*T*C,(oD T C y (bU T C (fun r=>lX p.bools.length p.conds s r.cond) (p.rules.take m)) (y.pairs.take k)).flatMap o_⟩]) (fun k _=>k≤y.pairs.length) (fun k=>y.pairs.length-k) 0
    (an ⟨⟨rfl,trivial⟩,fun M=>⟨M,avX _⟩⟩ ?_)
   intro k w M hk;obtain⟨ua,uc,rfl,EX⟩:=M.shape 0 rfl;refine an (fun h2=>?_) fun h2=>?_
   ·simp only[decide_eq_true_eq] at h2;obtain⟨q,hq⟩:∃ q,y.pairs[k]?=some q:=⟨_,av2 (by omega)⟩;obtain⟨hq1,hq2⟩:=hRV.pairs q (av7 hq);obtain⟨gp,cp,hup⟩:=M.own 0 rfl (by omega);cases hup;have hcp:=M.elt 0 (f:=JF) (l:=y.pairs) rfl (fun _=>rfl) hq;obtain⟨x1,x2,x3,x4,x5,x6⟩:=VT pR hT hC hq1 hq2 hcC;have i1:y.kind-1=(K:Int):=by omega
    have i2:(y.kind-1)*(T:Int)=((K*T:Nat):Int):=by rw[i1];simp
    have i3:(y.kind-1)*(T:Int)+(q.1:Int)=((K*T+q.1:Nat):Int):=by rw[i2];simp
    have i4:((y.kind-1)*(T:Int)+(q.1:Int))*(T:Int)=(((K*T+q.1)*T:Nat):Int):=by rw[i3];simp
    have i5:((y.kind-1)*(T:Int)+(q.1:Int))*(T:Int)+(q.2:Int)=(((K*T+q.1)*T+q.2:Nat):Int):=by rw[i4];simp
    have i6:(((y.kind-1)*(T:Int)+(q.1:Int))*(T:Int)+(q.2:Int))*(C:Int)=((((K*T+q.1)*T+q.2)*C:Nat):Int):=by rw[i5];simp
    have i7:(((y.kind-1)*(T:Int)+(q.1:Int))*(T:Int)+(q.2:Int))*(C:Int)+y.cls=((((K*T+q.1)*T+q.2)*C+c:Nat):Int):=by rw[i6,hcl];simp
    have XP:AL T C y q=((K*T+q.1)*T+q.2)*C+c:=by unfold AL;rw[hcl,i1];simp
    refine dr (by kernel_rfl)<|lb 0<|an rfl<|an (by omega)<|an (by omega)<|ia<|an ⟨rfl,rfl,by omega⟩<|ei (x:=0)<|an ⟨rfl,by decide⟩<|lc<|an (hcp 0 _ rfl)<|an (by omega)<|an (by omega)<|ia<|an ⟨rfl,rfl,by omega⟩<|ei (x:=1)<|an ⟨rfl,by decide⟩<|lc<|an (hcp 1 _ rfl)<|an (by omega)<|an (by omega)<|lb 0<|an rfl<|an (by omega) fun w8 Wq M=>?_
    have hol:(oD T C y (bU T C (fun r=>lX p.bools.length p.conds s r.cond) (p.rules.take m)) (y.pairs.take k)).length=4*T*T*C:=by rw[vg,gJ]
    obtain⟨vo,hvo⟩:∃ vo,(oD T C y (bU T C (fun r=>lX p.bools.length p.conds s r.cond) (p.rules.take m)) (y.pairs.take k))[((K*T+q.1)*T+q.2)*C+c]?=some vo:=⟨_,av2 (by rw[hol];exact x6)⟩;have hco:=M.elt 1 (f:=o_) rfl (fun _=>rfl) hvo;refine dr (by kernel_rfl)<|ia<|an ⟨rfl,i7,x6⟩<|lc<|an (hco 0 _ rfl)<|lb 0<|an rfl<|ei<|an rfl<|ia<|an ⟨rfl,i7,x6⟩ fun w9 P8 M=>sr 1 _ ⟨rfl,Nat.zero_add _,x6⟩ rfl fun qq M=>an (by omega)<|bk (k+1) ⟨rfl,trivial⟩ (fun M=>⟨M.cast rfl ?_,by omega⟩) (by dsimp only;omega)
    refine congrArg (fun x=>[(⟨_,111,2,_,_⟩:Rw),⟨_,50,1,_,x⟩]) ?_
    have hput:oD T C y (bU T C (fun r=>lX p.bools.length p.conds s r.cond) (p.rules.take m)) (y.pairs.take (k+1))=(oD T C y (bU T C (fun r=>lX p.bools.length p.conds s r.cond) (p.rules.take m)) (y.pairs.take k)).set (((K*T+q.1)*T+q.2)*C+c) (bits .or .u32 vo y.perms):=by
     have e9:y.pairs.take (k+1)=y.pairs.take k++[q]:=by rw[List.take_add_one,hq];rfl
     have hs1:oD T C y (bU T C (fun r=>lX p.bools.length p.conds s r.cond) (p.rules.take m)) (y.pairs.take k++[q])=xE (AL T C y q) y.perms (oD T C y (bU T C (fun r=>lX p.bools.length p.conds s r.cond) (p.rules.take m)) (y.pairs.take k)):=by
      unfold oD;rw[List.foldl_append];rfl
     rw[e9,hs1,xE,XP,awg,hvo];rfl
    rw[hput,← Yq (by rw[hol];exact x6),Nat.zero_add];rfl
   ·simp only[decide_eq_false_iff_not] at h2;obtain rfl:k=y.pairs.length:=by omega
    refine an (by omega)<|bk (m+1) ⟨rfl,trivial⟩ (fun M=>⟨(M.only (.cons _ (.refl _)) (.cons _ (.refl _))).cast rfl ?_,by omega⟩) (by dsimp only;omega);refine congrArg (fun x=>[(⟨_,50,1,_,List.flatMap o_ x⟩:Rw)]) ?_;unfold bU;rw[hstep,if_pos aiT,awb]
 ·simp only[decide_eq_false_iff_not] at h;obtain rfl:m=p.rules.length:=by omega
  exact⟨_,rfl,by have h1:=M.r 0 rfl;simp only[awb] at h1;exact h1,M.below⟩
def rL(w:World)(u:Value)(l:List (List Int)):Prop:=∃ vs:List Value,vs.length=l.length∧SliceAt w u 1 l.length vs∧∀ (i:Nat) v row,vs[i]?=some v→l[i]?=some row→SliceAt w v 1 row.length (row.flatMap o_)
theorem rL.keep{w w':World}{u:Value}{l:List (List Int)}(h:rL w u l)(hb:avZ w.heap.size w w'):rL w' u l:=by
 obtain⟨vs,h1,h2,h3⟩:=h;exact⟨vs,h1,h2.keep hb,fun i v row a b=>(h3 i v row a b).keep hb⟩
theorem Ye(l:List Int):∀ u∈l.flatMap o_,u.oneCell'=true:=fun u hu=>by
 obtain⟨x,-,hx⟩:=List.mem_flatMap.1 hu;simp only[o_,avP] at hx;rw[hx];rfl
theorem Cn(w0:World)(c0 c1 c2 c3 c4 c5 c6 c7 c8 c9 aQ aL aK aP aO aN aM:Value)(p:aA)(r:Nat)(hp:aJ w0 c0 c1 c2 c3 c4 c5 c6 c7 c8 c9 aQ aL aK aP aO aN aM p)(hb:p.bools.length≤60):
 Calls Tryz.prog 134 #[.agg #[c0,c1,c2,c3,c4,c5,c6,c7,c8,c9,aQ,aL,aK,aP,aO,aN,aM],.int .i64 (r:Int)] w0 fun x w'=>∃ u,x=.returned u∧(gA w' u (oH p.bools.length r)∧avZ w0.heap.size w0 w'):=
 (Cm w0 c0 c1 c2 c3 c4 c5 c6 c7 c8 c9 aQ aL aK aP aO aN aM p r hp hb).mono fun _ _ ⟨u,h1,h2,h3⟩=>⟨u,h1,Bf h2 (by simp[oH]) rfl,h3⟩
def Ca(p:aA)(i:Nat):List Int:=bU p.types.length p.classes.length (fun r=>lX p.bools.length p.conds (oH p.bools.length i) r.cond) p.rules
def fB(p:aA):List (List Int):=(List.range (2^p.bools.length)).map (Ca p)
structure pW (p:aA):Prop where
 bools:p.bools.length≤10
 conds:p.conds.length≤1000
 types:p.types.length≤256
 classes:p.classes.length≤256
 rules:∀ r∈p.rules,RV p.types.length p.classes.length r∧r.oU
def U4(wb:World)(n:Nat)(l:List Int):Value→World→Prop:=fun v w=>w.ownsRow wb.heap.size 50 1 v n (l.flatMap o_)
theorem tW(wb:World)(n:Nat)(l:List Int):eG (U4 wb n l):=fun _ _ _ h hb=>gH hb h (Nat.le_refl _)
theorem B_{wb:World}{n:Nat}{l:List Int}{u:Value}{w:World}(h:U4 wb n l u w):u.cells=#[u]:=by
 obtain⟨a,c,rfl,-⟩:=fQ h;rfl
theorem Yy{wb:World}{n:Nat}{l:List Int}{u:Value}{w:World}{q:Nat}(h:U4 wb n l u w)(hq:u.ownBlock=some q):q<w.heap.size:=(World.ownsRow.lt h q hq).2
theorem Q0(n:Nat)(h:n≤10):2^n≤1024:=Nat.pow_le_pow_right (by decide) h
theorem jR(w0:World)(c0 c1 c2 c3 c4 c5 c6 c7 c8 c9 aQ aL aK aP aO aN aM:Value)(p:aA)(hp:aJ w0 c0 c1 c2 c3 c4 c5 c6 c7 c8 c9 aQ aL aK aP aO aN aM p)(hS:pW p):
 Calls Tryz.prog 70 #[.agg #[c0,c1,c2,c3,c4,c5,c6,c7,c8,c9,aQ,aL,aK,aP,aO,aN,aM]] w0 fun x w'=>∃ u,x=.returned u∧(rL w' u (fB p)∧avZ w0.heap.size w0 w'):=by
 obtain⟨iz,iy,rfl,-⟩:=SliceAt.form hp.bools (by decide);have Sh:=Q0 _ hS.bools;have hNl:∀ i,(Ca p i).length=4*p.types.length*p.types.length*p.classes.length:=fun i=>gJ ..
 refine bP [] (fn:=Tryz.f70) Tryz.func70 rfl Tryz.ntmps70 rfl fun g w1 M1=>lq (ι:=Nat×Value×List Rw) (fun(m,u,T)=>[(3,u),(4,.int .i64 (m:Int))]) (fun(m,u,T)=>⟨u,224,1,m,T.map (·.v)⟩::T)
  (fun(m,u,T) _=>m≤2^p.bools.length∧T.length=m∧∀ (i:Nat) r,T[i]?=some r→r=⟨r.v,50,1,4*p.types.length*p.types.length*p.classes.length,(Ca p i).flatMap o_⟩) (fun(m,u,T)=>2^p.bools.length-m) (0,.slice none 0 0,[])
  (an ⟨⟨rfl,rfl,trivial⟩,fun M=>⟨M.bB 224 1,avX _,rfl,fun i r h=>by simp at h⟩⟩ ?_)
 rintro⟨m,u,T⟩ w M ⟨hm,Wu,hT⟩;refine lb 0<|an rfl<|ei (x:=.int .i64 ((2^p.bools.length:Nat):Int))<|an (fun a w o ho hv=>?_)<|an (fun h=>?_) fun h M=>?_
 ·have:=ku (P:=Tryz.prog) (w:=w) ho (dU hv) (fE hv) (by omega) (by simp[IntKind.bits];have:=hS.bools;omega);rw[this]
  have hw:IntKind.i64.wrap (1*2^(p.bools.length:Int).toNat)=((2^p.bools.length:Nat):Int):=by
   rw[Int.toNat_natCast,Int.one_mul,wrap_i64]
   ·simp
   ·have e:(2:Int)^p.bools.length=((2^p.bools.length:Nat):Int):=by simp
    rw[e];omega
  rw[hw]
 ·simp only[decide_eq_true_eq] at h;have hlt:m<2^p.bools.length:=by omega
  refine dr (by kernel_rfl)<|lb 0<|an rfl<|lb 0<|an rfl<|cr (fun u w=>gA w u (oH p.bools.length m))<|an (xZ _)<|an (fun w' hb' M'=>Cn _ _ _ _ _ _ _ _ _ _ _ _ _ _ _ _ _ _ p m (hp.keep M'.below) (avQ hS.bools (by decide)))<|cv (U4 w (4*p.types.length*p.types.length*p.classes.length) (Ca p m))<|an (tW _ _ _)<|an (fun s _ w' hb' M' hR=>?_)<|br (adO w 224 (U4 w (4*p.types.length*p.types.length*p.classes.length) (Ca p m)))<|an (NA (tW _ _ _))<|an (fun u=>b1 (tW _ _ _) (fun _ _=>B_) (fun _ _ _=>Yy) (b:=24) (by kernel_rfl)) fun v w2 hR hb2 M2=>?_
  ·exact(Kr w' _ _ _ _ _ _ _ _ _ _ _ _ _ _ _ _ _ s p _ (hp.keep M'.below) hR (avQ hS.bools (by decide)) hS.conds hS.types hS.classes hS.rules).mono fun _ _ ⟨u,h1,h2,h3⟩=>⟨u,h1,mZ h2 hb'.size,h3⟩
  obtain⟨ur,gr,rfl,hW,hge,hne,hur⟩:=hR;have M3:=M.YR hb2 hW hge (r:=⟨ur,50,1,4*p.types.length*p.types.length*p.classes.length,(Ca p m).flatMap o_⟩) hur hne;have huc:=B_ hur;obtain⟨ua,uc,rfl,-⟩:=fQ hur;have hp:∀ a:Rw,(a::T).Perm (T++[a]):=fun a=>by simpa using List.perm_append_comm (l₁:=[a]) (l₂:=T)
  refine ap 1 (fun _=>M3) rfl (M3.slice 0 rfl rfl rfl (by simp[maxLen])) ⟨by unfold maxLen;omega,by omega⟩ fun v2 w4 M=>an (by omega)<|bk (m+1,v2,T++[⟨.slice ua (4*p.types.length*p.types.length*p.classes.length) uc,50,1,4*p.types.length*p.types.length*p.classes.length,(Ca p m).flatMap o_⟩]) ⟨rfl,rfl,trivial⟩ (fun M=>⟨((M.only (.cons _ (.refl _)) (.refl _)).perm ((List.Perm.swap _ _ _).trans (.cons _ (hp _)))).cast rfl ?_,?_⟩) (by dsimp only;omega)
  ·refine congrArg (fun x=>(⟨v2,224,1,m+1,x⟩:Rw)::(T++[_])) ?_;simp
  ·refine⟨by omega,by simp[Wu],fun i r hr=>?_⟩;by_cases hi:i<m
   ·rw[av4 (by omega)] at hr;exact hT i r hr
   ·have hlen:=(av3.1 hr).1;rw[av5,Wu,List.length_singleton] at hlen;obtain rfl:i=m:=by omega
    rw[av6 (by omega),Wu,Nat.sub_self] at hr;obtain rfl:=avR hr;rfl
 ·simp only[decide_eq_false_iff_not] at h;obtain rfl:m=2^p.bools.length:=by omega
  have hml:(fB p).length=2^p.bools.length:=by simp[fB]
  have hs1:SliceAt w u 1 (2^p.bools.length) (T.map (·.v)):=SliceAt.bq (M.r 0 rfl) fun x hx=>by
   obtain⟨r,hr,rfl⟩:=awe.1 hx;obtain⟨a,c,e,-⟩:=fQ (M.row r (av8 _ hr));rw[e];rfl
  refine⟨_,rfl,⟨T.map (·.v),by rw[awf,Wu,hml],by rw[hml];exact hs1,fun i v row hv hrow=>?_⟩,M.below⟩
  ·rw[awh] at hv
   cases hr:T[i]? with
   | none=>rw[hr] at hv;cases hv
   | some r=>
    rw[hr] at hv;obtain rfl:=avR hv;have h1:=M.row r (av8 _ (av7 hr));rw[hT i r hr] at h1;have hi:i<2^p.bools.length:=Wu▸(av3.1 hr).1
    have afv:row=Ca p i:=by
     unfold fB at hrow;rw[awh,List.getElem?_range hi] at hrow;exact(avR hrow).symm
    rw[afv,hNl];exact SliceAt.bq h1 (Ye _)
theorem rL.get{w:World}{u:Value}{l:List (List Int)}(h:rL w u l):∃ a c,u=.slice a l.length c∧l.length≤9223372036854775807∧∀ (i:Nat) row,l[i]?=some row→∃ b off a' c',a=some ⟨b,off,none⟩∧w.cell? ⟨b,off+i*1,none⟩=some (.slice a' row.length c')∧row.length≤9223372036854775807 ∧
 ∀ (j:Nat) x,row[j]?=some x→∃ b' off',a'=some ⟨b',off',none⟩∧w.cell? ⟨b',off'+j*1,none⟩=some (.int .u32 x):=by
 obtain⟨vs,h1,h2,h3⟩:=h;obtain⟨a,c,rfl,-,hm,hc⟩:=h2.form (by decide);refine⟨a,c,rfl,hm,fun i row hi=>?_⟩;have hlt:=(av3.1 hi).1;obtain⟨b,off,rfl,hc'⟩:=hc i hlt;obtain⟨v,hv⟩:∃ v,vs[i]?=some v:=⟨_,av2 (h1▸hlt)⟩;have h4:=h3 i v row hv hi;obtain⟨a',c',rfl,-,hm',-⟩:=h4.form (by decide);refine⟨b,off,a',c',rfl,hc' 0 _ (by simpa using hv),hm',fun j x hx=>?_⟩;obtain⟨b',off',e,h5⟩:=h4.elt (f:=o_) (fun _=>rfl) (by decide) hx (av3.1 hx).1;exact⟨b',off',e,h5 0 _ rfl⟩
theorem jc{α:Type}{a b:List α}{m:Nat}{x y:α}(h:a.take m=b.take m)(hx:a[m]?=some x)(hy:b[m]?=some y)(e:x=y):a.take (m+1)=b.take (m+1):=by
 rw[List.take_add_one,List.take_add_one,h,hx,hy,e]
theorem qC{α:Type}{a b:List α}{m:Nat}(h:a.take m=b.take m)(hl:a.length=b.length)(hm:a.length≤m):a=b:=by
 rwa [List.take_of_length_le hm,List.take_of_length_le (hl▸hm)] at h
theorem mW(w0:World)(v v':Value)(a b:List (List Int))(ha:rL w0 v a)(hb:rL w0 v' b):Calls Tryz.prog 69 #[v,v'] w0 fun r w'=>r=.returned (.bool (decide (a=b)))∧avZ w0.heap.size w0 w':=by
 obtain⟨la,ka,rfl,hma,hca⟩:=ha.get;obtain⟨lb',kb',rfl,-,hcb⟩:=hb.get;have no:a≠b→Ending.returned (lS [Value.bool false])=.returned (.bool (decide (a=b))):=fun h=>by rw[decide_eq_false h];rfl
 refine bP [] (fn:=Tryz.f69) Tryz.func69 rfl Tryz.ntmps69 rfl<|an (fun h M=>⟨no fun e=>by rw[e] at h;simp at h,M.below⟩) fun h=>lr (ι:=Nat) (fun m=>[(5,.int .i64 (m:Int))]) (fun m _=>m≤a.length∧a.take m=b.take m) (fun m=>a.length-m) 0 (an ⟨⟨rfl,trivial⟩,fun M=>⟨M,avX _,rfl⟩⟩ ?_)
 have hll:a.length=b.length:=Int.ofNat_inj.1 (by simpa using h);intro m w M ⟨hm,ht⟩;refine an (fun h2=>?_) fun h2 M=>⟨?_,M.below⟩
 ·simp only[decide_eq_true_eq] at h2;obtain⟨x,hx⟩:∃ x,a[m]?=some x:=⟨_,av2 (by omega)⟩;obtain⟨y,hy⟩:∃ y,b[m]?=some y:=⟨_,av2 (by omega)⟩;obtain⟨b1,o1,a1,c1,rfl,hc1,hm1,hr1⟩:=hca m x hx;obtain⟨b2,o2,a2,c2,rfl,hc2,hm2,NX⟩:=hcb m y hy;refine dr (by kernel_rfl)<|ia<|an ⟨rfl,rfl,by omega⟩<|lc<|an (awi M.below hc1)<|ia<|an ⟨rfl,rfl,by omega⟩<|lc<|an (awi M.below hc2) fun w2 hb2 M2=>an (fun h3 M=>⟨no fun e=>?_,M.below⟩) fun h3=>?_
  ·subst e;rw[hx] at hy;obtain rfl:=avR hy;simp at h3
  have hxy:x.length=y.length:=Int.ofNat_inj.1 (by simpa using h3);refine lr (ι:=Nat) (fun k=>[(6,.int .i64 (k:Int))]) (fun k _=>k≤x.length∧x.take k=y.take k) (fun k=>x.length-k) 0 (an ⟨⟨rfl,trivial⟩,fun M=>⟨M,avX _,rfl⟩⟩ ?_);intro k w M ⟨hk,hkt⟩;refine ia<|an ⟨rfl,rfl,by omega⟩<|lc<|an (awi M.below hc1)<|an (fun h4=>?_) fun h4=>?_
  ·simp only[decide_eq_true_eq] at h4;obtain⟨p,hp⟩:∃ p,x[k]?=some p:=⟨_,av2 (by omega)⟩;obtain⟨q,hq⟩:∃ q,y[k]?=some q:=⟨_,av2 (by omega)⟩;obtain⟨b3,o3,e3,hc3⟩:=hr1 k p hp;obtain⟨b4,o4,e4,Zj⟩:=NX k q hq;refine dr (by kernel_rfl)<|ia<|an ⟨rfl,rfl,by omega⟩<|lc<|an (awi M.below hc1)<|ia<|an ⟨e3,rfl,by omega⟩<|lc<|an (awi M.below hc3)<|ia<|an ⟨rfl,rfl,by omega⟩<|lc<|an (awi M.below hc2)<|ia<|an ⟨e4,rfl,by omega⟩<|lc<|an (awi M.below Zj) fun w3 pQ M=>an (fun h5 M=>⟨no fun e=>?_,M.below⟩) fun h5=>an (by omega)<|bk (k+1) ⟨rfl,trivial⟩ (fun M=>⟨M,by omega,jc hkt hp hq (by simpa using h5)⟩) (by dsimp only;omega)
   subst e;rw[hx] at hy;obtain rfl:=avR hy;rw[hp] at hq;obtain rfl:=avR hq;simp at h5
  ·simp only[decide_eq_false_iff_not] at h4;exact an (by omega)<|bk (m+1) ⟨rfl,trivial⟩ (fun M=>⟨M,by omega,jc ht hx hy (qC hkt hxy (by omega))⟩) (by dsimp only;omega)
 ·simp only[decide_eq_false_iff_not] at h2;rw[decide_eq_true (qC ht hll (by omega))];rfl
def iZ(p:aA)(k:Int):List Bool:=(List.range (2^p.bools.length)).map fun i=>lX p.bools.length p.conds (oH p.bools.length i) k
def qB(p:aA)(y:bE):Option (bE×List Bool):=if (iZ p y.cond).any id=true then some ({ y with cond:=0 },iZ p y.cond) else none
def gD(p:aA):List (bE×List Bool):=p.trans.filterMap (qB p)
def Q6(z:bE×List Bool):List Value:=z.1.cells
structure nD (w:World) (u1 u2:Value) (L:List (bE×List Bool)):Prop where
 tr:SliceAt w u1 13 L.length (L.flatMap Q6)
 wh:∃ vs:List Value,vs.length=L.length∧SliceAt w u2 1 L.length vs∧∀ (i:Nat) v z,vs[i]?=some v→L[i]?=some z→gA w v z.2
theorem nD.keep{w w':World}{u1 u2:Value}{L:List (bE×List Bool)}(h:nD w u1 u2 L)(hb:avZ w.heap.size w w'):nD w' u1 u2 L:=by
 obtain⟨vs,h1,h2,h3⟩:=h.wh;exact⟨h.tr.keep hb,vs,h1,h2.keep hb,fun i v row a b=>(h3 i v row a b).keep hb⟩
theorem UM(L:List (bE×List Bool)):∀ u∈L.flatMap Q6,u.oneCell'=true:=fun u hu=>by
 obtain⟨x,-,hx⟩:=List.mem_flatMap.1 hu;simp only[Q6,bE.cells,av1,List.not_mem_nil,or_false] at hx;rcases hx with rfl|rfl|rfl|rfl|rfl|rfl|rfl|rfl|rfl|rfl|rfl|rfl|rfl<;>rfl
theorem zf(w0:World)(c0 c1 c2 c3 c4 c5 c6 c7 c8 c9 aQ aL aK aP aO aN aM:Value)(p:aA)(hp:aJ w0 c0 c1 c2 c3 c4 c5 c6 c7 c8 c9 aQ aL aK aP aO aN aM p)(hS:pW p)(ht:p.trans.length≤1000)(hk:∀ y∈p.trans,iX y.cond):
 Calls Tryz.prog 135 #[.agg #[c0,c1,c2,c3,c4,c5,c6,c7,c8,c9,aQ,aL,aK,aP,aO,aN,aM]] w0 fun x w'=>∃ v,x=.returned v∧((∃ u1 u2,v=.tuple #[u1,u2]∧nD w' u1 u2 (gD p))∧avZ w0.heap.size w0 w'):=by
 obtain⟨iz,iy,rfl,-⟩:=SliceAt.form hp.bools (by decide);obtain⟨R3,RT,rfl,-⟩:=SliceAt.form hp.trans (by decide);have Sh:=Q0 _ hS.bools;have hwl:∀ k,(iZ p k).length=2^p.bools.length:=fun k=>by simp[iZ]
 have aiL:∀ (a:Act) (w:World) (o:Oper) (x y:Operand) (ty yt:TypeId),o.op=.binOp .shl ty x y yt→a.eval x=.int .i64 1→a.eval y=.int .i64 (p.bools.length:Int)→(execOp a.eval o).run Tryz.prog w=.ok (.value (.int .i64 ((2^p.bools.length:Nat):Int))) w:=fun a w o x y ty yt ho hx hy=>by
  have:=ku (P:=Tryz.prog) (w:=w) ho hx hy (by omega) (by simp[IntKind.bits];have:=hS.bools;omega);rw[this]
  have hw:IntKind.i64.wrap (1*2^(p.bools.length:Int).toNat)=((2^p.bools.length:Nat):Int):=by
   have e:(2:Int)^p.bools.length=((2^p.bools.length:Nat):Int):=by simp
   rw[Int.toNat_natCast,Int.one_mul,e];generalize 2^p.bools.length=P2 at Sh;exact wrap_i64 ⟨by omega,by omega⟩
  rw[hw]
 refine bP [] (fn:=Tryz.f135) Tryz.func135 rfl Tryz.ntmps135 rfl fun g w1 M1=>lq (ι:=Nat×Value×Value×List Rw×List (bE×List Bool)) (fun(m,u1,u2,T,L)=>[(4,u1),(5,u2),(6,.int .i64 (m:Int))]) (fun(m,u1,u2,T,L)=>⟨u1,84,13,L.length,L.flatMap Q6⟩::⟨u2,40,1,L.length,T.map (·.v)⟩::T)
  (fun(m,u1,u2,T,L) _=>m≤p.trans.length∧(p.trans.take m).filterMap (qB p)=L∧T.length=L.length∧∀ (i:Nat) r z,T[i]?=some r→L[i]?=some z→r=⟨r.v,4,1,z.2.length,z.2.map Value.bool⟩) (fun(m,u1,u2,T,L)=>p.trans.length-m) (0,.slice none 0 0,.slice none 0 0,[],[])
  (an ⟨⟨rfl,rfl,rfl,trivial⟩,fun M=>⟨(M.bB 40 1).bB 84 13,avX _,rfl,rfl,fun i r z h=>by simp at h⟩⟩ ?_)
 rintro⟨m,u1,u2,T,L⟩ w M ⟨hm,hLd,Wu,hT⟩;have hL:L.length≤m:=by rw[← hLd];exact avQ (List.length_filterMap_le ..) (by simp;omega)
 refine lb 0<|an rfl<|an (fun h=>?_) fun h M=>?_
 ·simp only[decide_eq_true_eq] at h;obtain⟨y,hy⟩:∃ y,p.trans[m]?=some y:=⟨_,av2 (by omega)⟩;have hky:=hk y (av7 hy);obtain⟨b0,o0,rfl,hcell⟩:=SliceAt.elt hp.trans (f:=bE.cells) (fun _=>rfl) (by decide) hy (by omega)
  have hnext:(p.trans.take (m+1)).filterMap (qB p)=L++(qB p y).toList:=by
   rw[List.take_add_one,hy,av_,hLd];cases hq:qB p y<;>simp[hq]
  refine lq (ι:=Nat×Value) (fun(k,v7)=>[(7,v7),(8,.bool (((iZ p y.cond).take k).any id)),(9,.int .i64 (k:Int))]) (fun(k,v7)=>⟨v7,4,1,k,((iZ p y.cond).take k).map Value.bool⟩::⟨u1,84,13,L.length,L.flatMap Q6⟩::⟨u2,40,1,L.length,T.map (·.v)⟩::T) (fun(k,v7) _=>k≤2^p.bools.length) (fun(k,v7)=>2^p.bools.length-k) (0,.slice none 0 0)
   (an ⟨⟨rfl,rfl,rfl,trivial⟩,fun M=>⟨M.bB 4 1,avX _⟩⟩ ?_)
  rintro⟨k,v7⟩ w M hk2;refine lb 0<|an rfl<|ei<|an (fun a w o ho hv=>aiL a w o _ _ _ _ ho (dU hv) (fE hv))<|an (fun h2=>?_) fun h2=>?_
  ·simp only[decide_eq_true_eq] at h2;have hlt:k<2^p.bools.length:=by omega
   have hwk:(iZ p y.cond)[k]?=some (lX p.bools.length p.conds (oH p.bools.length k) y.cond):=by
    unfold iZ;rw[awh,List.getElem?_range hlt];rfl
   refine dr (by kernel_rfl)<|lb 0<|an rfl<|lb 0<|an rfl<|cr (fun u w=>gA w u (oH p.bools.length k))<|an (xZ _)<|an (fun w' hb' M'=>Cn _ _ _ _ _ _ _ _ _ _ _ _ _ _ _ _ _ _ p k (hp.keep M'.below) (avQ hS.bools (by decide)))<|lb 0<|an rfl<|ia<|an ⟨rfl,rfl,by omega⟩<|lc<|an (awi M.below (hcell 12 _ rfl))<|cu<|an (fun u _ w' hb' M' hR=>wm w' _ _ _ _ _ _ _ _ _ _ _ _ _ _ _ _ _ u p _ y.cond (hp.keep M'.below) hR (avQ hS.bools (by decide)) hS.conds hky) fun w2 hb2 M=>?_
   refine fun g3 w3 M=>ap 0 id rfl (M.slice 0 rfl rfl rfl (by simp[maxLen])) ⟨by unfold maxLen;omega,by omega⟩ fun v3 w4 M=>an (by omega)<|bk (k+1,v3) ⟨rfl,congrArg (fun b=>some (Value.bool b)) ?_,rfl,trivial⟩ (fun M=>⟨(M.only (.cons _ (.refl _)) (.refl _)).cast rfl ?_,by omega⟩) (by dsimp only;omega)
   ·rw[List.take_add_one,hwk];simp
   ·show _=(⟨v3,4,1,k+1,((iZ p y.cond).take (k+1)).map Value.bool⟩:Rw)::_;rw[List.take_add_one,hwk];simp
  ·simp only[decide_eq_false_iff_not] at h2;obtain rfl:k=2^p.bools.length:=by omega
   have htk:(iZ p y.cond).take (2^p.bools.length)=iZ p y.cond:=List.take_of_length_le (by rw[hwl];exact Nat.le_refl _);refine an (fun h3=>?_) fun h3=>?_
   ·rw[htk] at h3;have hO:qB p y=some ({ y with cond:=0 },iZ p y.cond):=if_pos h3;obtain⟨a7,k7,rfl,-⟩:=M.shape 0 rfl;refine lb 0<|an rfl<|ia<|an ⟨rfl,rfl,by omega⟩<|lc<|an (bY M.below hcell)<|ei<|an LK fun g4 w5 M=>lb 0<|an ⟨rfl,rfl⟩ fun w6 M=>lb 0<|an ⟨rfl,rfl⟩ fun w7 M=>lb 0<|an rfl fun g5 w8 M=>ap 1 id rfl (M.slice 0 rfl rfl rfl (by simp[maxLen])) ⟨by unfold maxLen;omega,by omega⟩ fun u1' w9 M=>fun g6 qq M=>ap 2 id rfl (M.slice 0 rfl rfl rfl (by simp[maxLen])) ⟨by unfold maxLen;omega,by omega⟩ fun u2' zS M=>an (by omega)<|bk (m+1,u1',u2',T++[⟨.slice a7 (2^p.bools.length) k7,4,1,2^p.bools.length,(iZ p y.cond).map Value.bool⟩],L++[({ y with cond:=0 },iZ p y.cond)]) ⟨rfl,rfl,rfl,trivial⟩ (fun M=>?_) (by dsimp only;omega)
    have hp:∀ a b c:Rw,(a::b::c::T).Perm (b::c::(T++[a])):=fun a b c=>by
     have h1:(a::(b::c::T)).Perm ((b::c::T)++[a]):=by simpa using List.perm_append_comm (l₁:=[a]) (l₂:=b::c::T)
     simpa using h1
    refine⟨((M.only (.cons _ (.cons _ (.cons _ (.refl _)))) (.refl _)).perm (hp _ _ _)).cast rfl ?_,by omega,by rw[hnext,hO];rfl,by simp[Wu],fun i r z hr hz=>?_⟩
    ·simp only[awa,List.map_append,av5,List.length_singleton,htk];rfl
    ·by_cases hi:i<T.length
     ·rw[av4 hi] at hr;rw[av4 (Wu▸hi)] at hz;exact hT i r z hr hz
     ·have hlen:=(av3.1 hr).1;rw[av5,List.length_singleton] at hlen;obtain rfl:i=T.length:=by omega
      rw[av6 (Nat.le_refl _),Nat.sub_self] at hr;rw[Wu,av6 (Nat.le_refl _),Nat.sub_self] at hz;obtain rfl:=avR hr;obtain rfl:=avR hz;rw[hwl]
   ·rw[htk] at h3;have hO:qB p y=none:=if_neg (by rw[h3];decide);refine an (by omega)<|bk (m+1,u1,u2,T,L) ⟨rfl,rfl,rfl,trivial⟩ (fun M=>?_) (by dsimp only;omega);exact⟨M.only (.refl _) (.cons _ (.refl _)),by omega,by rw[hnext,hO];simp,Wu,hT⟩
 ·simp only[decide_eq_false_iff_not] at h;obtain rfl:m=p.trans.length:=by omega
  rw[awb] at hLd;have hLt:L=gD p:=hLd.symm;rw[← hLt];refine⟨_,rfl,⟨_,_,rfl,⟨SliceAt.bq (M.r 0 rfl) (UM _),T.map (·.v),by rw[awf,Wu],SliceAt.bq (M.r 1 rfl) ?_,fun i v z hv hz=>?_⟩⟩,M.below⟩
  ·intro x hx;obtain⟨r,hr,rfl⟩:=awe.1 hx;obtain⟨a,c,e,-⟩:=fQ (M.row r (av8 _ (av8 _ hr)));rw[e];rfl
  ·rw[awh] at hv
   cases hr:T[i]? with
   | none=>rw[hr] at hv;cases hv
   | some r=>
    rw[hr] at hv;obtain rfl:=avR hv;have h1:=M.row r (av8 _ (av8 _ (av7 hr)));rw[hT i r z hr hz] at h1;exact Bf h1 rfl rfl
theorem nD.get{w:World}{u1 u2:Value}{L:List (bE×List Bool)}(h:nD w u1 u2 L):∃ a c a' c',u1=.slice a L.length c∧u2=.slice a' L.length c'∧L.length≤9223372036854775807∧∀ (i:Nat) z,L[i]?=some z→∃ b off b' off' v,a=some ⟨b,off,none⟩∧(∀ j u,z.1.cells[j]?=some u→w.cell? ⟨b,off+i*13+j,none⟩=some u) ∧
 a'=some ⟨b',off',none⟩∧w.cell? ⟨b',off'+i*1,none⟩=some v∧gA w v z.2:=by
 obtain⟨vs,h1,h2,h3⟩:=h.wh;obtain⟨a,c,rfl,-,hm,-⟩:=h.tr.form (by decide);obtain⟨a',c',rfl,-,-,hc⟩:=h2.form (by decide);refine⟨a,c,a',c',rfl,rfl,hm,fun i z hz=>?_⟩;have hlt:=(av3.1 hz).1;obtain⟨b,off,rfl,hcz⟩:=h.tr.elt (f:=Q6) (fun _=>rfl) (by decide) hz hlt;obtain⟨b',off',rfl,hc'⟩:=hc i hlt;obtain⟨v,hv⟩:∃ v,vs[i]?=some v:=⟨_,av2 (h1▸hlt)⟩;exact⟨b,off,b',off',v,rfl,hcz,rfl,hc' 0 _ (by simpa using hv),h3 i v z hv hz⟩
theorem zV(w0:World)(c0 c1 c2 c3 c4 c5 c6 c7 c8 c9 aQ aL aK aP aO aN aM d0 d1 d2 d3 d4 d5 d6 d7 d8 d9 Bc Bb Ba A_ A9 A8 AZ:Value)(p q:aA)(hp:aJ w0 c0 c1 c2 c3 c4 c5 c6 c7 c8 c9 aQ aL aK aP aO aN aM p)(hq:aJ w0 d0 d1 d2 d3 d4 d5 d6 d7 d8 d9 Bc Bb Ba A_ A9 A8 AZ q)(hS:pW p)(hS':pW q)(ht:p.trans.length≤1000)(ht':q.trans.length≤1000)(hk:∀ y∈p.trans,iX y.cond)(hk':∀ y∈q.trans,iX y.cond):
 Calls Tryz.prog 71 #[.agg #[c0,c1,c2,c3,c4,c5,c6,c7,c8,c9,aQ,aL,aK,aP,aO,aN,aM],.agg #[d0,d1,d2,d3,d4,d5,d6,d7,d8,d9,Bc,Bb,Ba,A_,A9,A8,AZ]] w0 fun x w'=>x=.returned (.bool (decide (gD p=gD q)))∧avZ w0.heap.size w0 w':=by
 have no:gD p≠gD q→Ending.returned (lS [Value.bool false])=.returned (.bool (decide (gD p=gD q))):=fun h=>by rw[decide_eq_false h];rfl
 refine bP [] (fn:=Tryz.f71) Tryz.func71 rfl Tryz.ntmps71 rfl fun g1 w1 M1=>fun g2 w2 M2=>lb 1<|an rfl<|cg<|an (zf w2 _ _ _ _ _ _ _ _ _ _ _ _ _ _ _ _ _ p (hp.keep M2.below) hS ht hk) fun v w3 hR=>?_
 obtain⟨⟨u1,u2,rfl,hT⟩,pQ⟩:=hR;refine⟨_,_,M2.keep pQ,lb 0<|an rfl<|cg<|an (zf w3 _ _ _ _ _ _ _ _ _ _ _ _ _ _ _ _ _ q (hq.keep (M2.keep pQ).below) hS' ht' hk') fun v w4 hR=>?_⟩;obtain⟨⟨u3,u4,rfl,hT'⟩,hb4⟩:=hR;have hT:=hT.keep hb4;generalize gD p=a at *;generalize gD q=b at *;obtain⟨a1,k1,a2,k2,rfl,rfl,hml,-⟩:=hT.get;obtain⟨a3,k3,a4,k4,rfl,rfl,-,-⟩:=hT'.get;refine⟨_,_,(M2.keep pQ).keep hb4,an (fun h M=>⟨no fun e=>by rw[e] at h;simp at h,M.below⟩) fun h=>lr (ι:=Nat) (fun m=>[(9,.int .i64 (m:Int))]) (fun m w=>m≤a.length∧a.take m=b.take m∧nD w (.slice a1 a.length k1) (.slice a2 a.length k2) a∧nD w (.slice a3 b.length k3) (.slice a4 b.length k4) b) (fun m=>a.length-m) 0 (an ⟨⟨rfl,trivial⟩,fun M=>⟨M,avX _,rfl,hT,hT'⟩⟩ ?_)⟩;have hll:a.length=b.length:=Int.ofNat_inj.1 (by simpa using h);rintro m w M ⟨hm,ht,hT,hT'⟩;refine an (fun h2=>?_) fun h2 M=>⟨?_,M.below⟩
 ·simp only[decide_eq_true_eq] at h2;obtain⟨x,hx⟩:∃ x,a[m]?=some x:=⟨_,av2 (by omega)⟩;obtain⟨y,hy⟩:∃ y,b[m]?=some y:=⟨_,av2 (by omega)⟩
  obtain⟨b1,o1,b2,o2,v1,e1,hc1,e2,hv1,hs1⟩:∃ b off b' off' v,a1=some ⟨b,off,none⟩∧(∀ j u,x.1.cells[j]?=some u→w.cell? ⟨b,off+m*13+j,none⟩=some u)∧a2=some ⟨b',off',none⟩∧w.cell? ⟨b',off'+m*1,none⟩=some v∧gA w v x.2:=by
   obtain⟨_,_,_,_,e1,e2,-,hg⟩:=hT.get;injection e1 with e1;injection e2 with e2;subst e1 e2;exact hg m x hx
  obtain⟨b3,o3,b4,o4,v2,e3,hc2,e4,hv2,hs2⟩:∃ b off b' off' v,a3=some ⟨b,off,none⟩∧(∀ j u,y.1.cells[j]?=some u→w.cell? ⟨b,off+m*13+j,none⟩=some u)∧a4=some ⟨b',off',none⟩∧w.cell? ⟨b',off'+m*1,none⟩=some v∧gA w v y.2:=by
   obtain⟨_,_,_,_,e1,e2,-,hg⟩:=hT'.get;injection e1 with e1;injection e2 with e2;subst e1 e2;exact hg m y hy
  refine dr (by kernel_rfl)<|ia<|an ⟨e1,rfl,by omega⟩<|lc<|an hc1<|ia<|an ⟨e3,rfl,by omega⟩<|lc<|an hc2<|ei<|an ⟨adj,fun w=>WV x.1 y.1 w⟩<|ia<|an (fun _=>⟨e2,rfl,by omega⟩)<|lc (x:=v1)<|an (fun _=>hv1)<|ia<|an (fun _=>⟨e4,rfl,by omega⟩)<|lc (x:=v2)<|an (fun _=>hv2)<|cl<|an (fun _ w' hb' M'=>ME w' v1 v2 _ _ (hs1.keep hb') (hs2.keep hb')) fun w5 CU M=>an (fun h3 M=>⟨no fun e=>?_,M.below⟩) fun h3=>an (by omega)<|bk (m+1) ⟨rfl,trivial⟩ (fun M=>⟨M,by omega,jc ht hx hy ?_,hT.keep CU,hT'.keep CU⟩) (by dsimp only;omega)
  ·subst e;rw[hx] at hy;obtain rfl:=avR hy;simp at h3
  ·have h4:x.1=y.1∧x.2=y.2:=by simpa using h3
   exact Prod.ext h4.1 h4.2
 ·simp only[decide_eq_false_iff_not] at h2;rw[decide_eq_true (qC ht hll (by omega))];rfl
theorem ow(w0:World)(v v':Value)(l l':List ByteArray)(h:aF w0 v l)(h':aF w0 v' l'):Calls Tryz.prog 131 #[v,v'] w0 fun r w'=>r=.returned (.bool (decide (l=l')))∧avZ w0.heap.size w0 w':=by
 obtain⟨la,lk,rfl,EX,hcell⟩:=h.get;obtain⟨la',lk',rfl,-,CT⟩:=h'.get;have no:l≠l'→Ending.returned (lS [Value.bool false])=.returned (.bool (decide (l=l'))):=fun h=>by rw[decide_eq_false h];rfl
 refine bP [] (fn:=Tryz.f131) Tryz.func131 rfl Tryz.ntmps131 rfl<|an (fun h M=>⟨no fun e=>by rw[e] at h;simp at h,M.below⟩) fun h=>lr (ι:=Nat) (fun m=>[(5,.int .i64 (m:Int))]) (fun m _=>m≤l.length∧l.take m=l'.take m) (fun m=>l.length-m) 0 (an ⟨⟨rfl,trivial⟩,fun M=>⟨M,avX _,rfl⟩⟩ ?_)
 have hll:l.length=l'.length:=Int.ofNat_inj.1 (by simpa using h);rintro m w M ⟨hm,ht⟩;refine an (fun h2=>?_) fun h2 M=>⟨?_,M.below⟩
 ·simp only[decide_eq_true_eq] at h2;obtain⟨x,hx⟩:∃ x,l[m]?=some x:=⟨_,av2 (by omega)⟩;obtain⟨y,hy⟩:∃ y,l'[m]?=some y:=⟨_,av2 (by omega)⟩;obtain⟨b,off,e1,hc⟩:=hcell m x hx;obtain⟨b',off',e2,hc'⟩:=CT m y hy;refine dr (by kernel_rfl)<|ia<|an ⟨e1,rfl,by omega⟩<|lc<|an (awi M.below hc)<|ia<|an ⟨e2,rfl,by omega⟩<|lc<|an (awi M.below hc') fun w2 hb2 M=>an (fun h3 M=>⟨no fun e=>?_,M.below⟩) fun h3=>an (by omega) (bk (m+1) ⟨rfl,trivial⟩ (fun M=>⟨M,by omega,jc ht hx hy ?_⟩) (by dsimp only;omega))
  ·subst e;rw[hx] at hy;obtain rfl:=avR hy;simp at h3
  ·rw[pE] at h3;simpa using h3
 ·simp only[decide_eq_false_iff_not] at h2;rw[decide_eq_true (qC ht hll (by omega))];rfl
section
variable {α:Type} {p:α→α→Bool} {l r:List α} {m:Nat} {x y:α}
theorem eX(hx:l[m]?=some x)(hy:r[m]?=some y):au p (l.take (m+1)) (r.take (m+1))=(au p (l.take m) (r.take m)&&p x y):=by
 induction l generalizing r m with
 | nil=>simp at hx
 | cons a l ih=>cases r with
  | nil=>simp at hy
  | cons b r=>cases m with
   | zero=>
    simp only[List.getElem?_cons_zero,Option.some.injEq] at hx hy;subst hx hy;simp[au]
   | succ m=>
    simp only[List.getElem?_cons_succ] at hx hy;simp only[List.take_succ_cons,au,ih hx hy,Bool.and_assoc]
theorem eY(h:l.length=r.length):au p (l.take l.length) (r.take l.length)=au p l r:=by
 rw[awb,h,awb]
theorem eW:au p (l.take 0) (r.take 0)=true:=by rw[List.take_zero,List.take_zero];rfl
end
theorem kJ{α:Type}[DecidableEq α]:∀ l r:List α,au (fun x y=>decide (x=y)) l r=decide (l=r)
 | [],[]=>by simp[au]
 | [],_::_=>by simp[au]
 | _::_,[]=>by simp[au]
 | x::l,y::r=>by
  rw[au,kJ l r];by_cases h:x=y<;>simp[h]
theorem ez{a b:Bool}(h:a=b):(some (Value.bool a))=some (Value.bool b):=by rw[h]
theorem Xv{α:Type}{p:α→α→Bool}{l r:List α}{m:Nat}{x y:α}(hx:l[m]?=some x)(hy:r[m]?=some y)(h:p x y=false):au p l r=false:=by
 induction l generalizing r m with
 | nil=>simp at hx
 | cons a l ih=>cases r with
  | nil=>simp at hy
  | cons b r=>cases m with
   | zero=>
    simp only[List.getElem?_cons_zero,Option.some.injEq] at hx hy;subst hx hy;simp[au,h]
   | succ m=>
    simp only[List.getElem?_cons_succ] at hx hy;simp[au,ih hx hy]
theorem qF:∀ e:ak,∀ (w0:World) (cs cs':List Value) (y:ak),aZ w0 cs e→aZ w0 cs' y→Calls Tryz.prog 132 #[.agg cs.toArray,.agg cs'.toArray] w0 fun r w'=>r=.returned (.bool (eT e y))∧avZ w0.heap.size w0 w':=by
 refine ak.ind fun e ih=>?_
 intro w0 cs cs' y h h';obtain⟨nv,kv,rfl,D7,hk⟩:=h.open;obtain⟨ka,kc,rfl,-,EX,hcell⟩:=hk.form (by decide);obtain⟨nv',kv',rfl,aiV,hk'⟩:=h'.open;obtain⟨ka',kc',rfl,-,-,CT⟩:=hk'.form (by decide);have no:eT e y=false→Ending.returned (lS [Value.bool false])=.returned (.bool (eT e y)):=fun h=>by rw[h];rfl
 refine bP [] (fn:=Tryz.f132) Tryz.func132 rfl Tryz.ntmps132 rfl fun g1 w1 M1=>fun g2 w2 M2=>lb 1<|an rfl<|lb 0<|an rfl<|lb 1<|an (fun _=>rfl)<|lb 0<|an (fun _=>rfl)<|lb 1<|an (fun _=>rfl)<|lb 0<|an (fun _=>rfl)<|lb 1<|an (fun _=>rfl)<|lb 0<|an (fun _=>rfl)<|lb 1<|an (fun _=>rfl)<|lb 0<|an (fun _=>rfl)<|ei<|an (fun _=>⟨rA,fun w=>oM e.set y.set w⟩)<|lb 1<|an (fun _=>rfl)<|lb 0<|an (fun _=>rfl)<|cl<|an (fun _=>ow _ _ _ _ _ (D7.keep M2.below) (aiV.keep M2.below)) fun w3 M=>lb 1<|an (fun _=>rfl)<|lb 0<|an (fun _=>rfl)<|an (fun h M=>⟨no ?_,M.below⟩) fun h=>?_
 ·rw[BX];by_cases hl:e.kids.length=y.kids.length
  ·simp only[hl] at h;simp at h ⊢;intro a1 a2 a3 a4 a5 a6
   simp_all
  ·rw[← uD hl,Bool.and_false]
 simp only[Bool.or_eq_false_iff,Bool.not_eq_false',decide_eq_true_eq] at h;obtain⟨⟨⟨⟨⟨⟨h1,h2⟩,h3⟩,h4⟩,h5⟩,h6⟩,h7⟩:=h;have hll:e.kids.length=y.kids.length:=by omega
 have hE:eT e y=au eT e.kids y.kids:=by
  rw[BX];simp[h1,h2,h3,h4,h5,h6]
 refine lr (ι:=Nat) (fun m=>[(5,.int .i64 (m:Int))]) (fun m _=>m≤e.kids.length∧au eT (e.kids.take m) (y.kids.take m)=true) (fun m=>e.kids.length-m) 0 (an ⟨⟨rfl,trivial⟩,fun M=>⟨M,avX _,eW⟩⟩ ?_);rintro m w M ⟨hm,ht⟩;refine lb 1<|an rfl<|an (fun h8=>?_) fun h8 M=>⟨?_,M.below⟩
 ·simp only[decide_eq_true_eq] at h8;obtain⟨x1,hx⟩:∃ x,e.kids[m]?=some x:=⟨_,av2 (by omega)⟩;obtain⟨x2,hy⟩:∃ x,y.kids[m]?=some x:=⟨_,av2 (by omega)⟩;obtain⟨b1,o1,z1,e1,vJ,-,hr1⟩:=hcell m x1 hx;obtain⟨b2,o2,z2,e2,he2,-,NX⟩:=CT m x2 hy;obtain⟨JM,VO,rfl,-⟩:=vJ.open;obtain⟨Vl,kv2,rfl,-⟩:=he2.open;refine dr (by kernel_rfl)<|lb 1<|an rfl<|ia<|an ⟨e1,rfl,by omega⟩<|lc<|an (bY M.below hr1)<|lb 0<|an rfl<|ia<|an ⟨e2,rfl,by omega⟩<|lc<|an (bY M.below NX)<|cl<|an (fun w' hb' M'=>ih x1 (av7 hx) _ _ _ x2 (aZ.keep M'.below vJ) (aZ.keep M'.below he2)) fun w4 hb4 M=>an (fun h9 M=>⟨no ?_,M.below⟩) fun h9=>an (by omega) (bk (m+1) ⟨rfl,trivial⟩ (fun M=>⟨M,by omega,?_⟩) (by dsimp only;omega))
  ·rw[hE,Xv hx hy (by simpa using h9)]
  ·rw[eX hx hy,ht];simpa using h9
 ·simp only[decide_eq_false_iff_not] at h8;obtain rfl:m=e.kids.length:=by omega
  rw[hE,← eY hll,ht];rfl
theorem Bk{α:Type}{p:α→α→Bool}{l r:List α}(h:au p l r=true):l.length=r.length:=by
 by_cases hl:l.length=r.length
 ·exact hl
 ·rw[← uD hl] at h;cases h
theorem FX{p q:aA}(h:kG p q=true):p.classes.length=q.classes.length∧p.types.length=q.types.length∧p.attrs=q.attrs∧p.roles=q.roles∧p.users=q.users∧p.bools=q.bools∧p.aW=q.aW∧p.cats=q.cats:=by
 unfold kG at h;simp only[awd,decide_eq_true_eq] at h;obtain⟨⟨⟨⟨⟨⟨⟨h1,h2⟩,h3⟩,h4⟩,h5⟩,h6⟩,h7⟩,h8⟩:=h;exact⟨Bk h1,Bk h2,h3,h4,h5,h6,h7,h8⟩
theorem uT(w0:World)(c0 c1 c2 c3 c4 c5 c6 c7 c8 c9 aQ aL aK aP aO aN aM d0 d1 d2 d3 d4 d5 d6 d7 d8 d9 Bc Bb Ba A_ A9 A8 AZ:Value)(p q:aA)(hp:aJ w0 c0 c1 c2 c3 c4 c5 c6 c7 c8 c9 aQ aL aK aP aO aN aM p)(hq:aJ w0 d0 d1 d2 d3 d4 d5 d6 d7 d8 d9 Bc Bb Ba A_ A9 A8 AZ q):Calls Tryz.prog 67 #[.agg #[c0,c1,c2,c3,c4,c5,c6,c7,c8,c9,aQ,aL,aK,aP,aO,aN,aM],.agg #[d0,d1,d2,d3,d4,d5,d6,d7,d8,d9,Bc,Bb,Ba,A_,A9,A8,AZ]] w0 fun r w'=>r=.returned (.bool (kG p q))∧avZ w0.heap.size w0 w':=by
 obtain⟨la0,lk0,rfl,-,hm0,hc0⟩:=aq.form hp.classes (by decide);obtain⟨ma0,mk0,rfl,-,-,hd0⟩:=aq.form hq.classes (by decide);obtain⟨la1,lk1,rfl,-,hm1,hc1⟩:=aq.form hp.types (by decide);obtain⟨ma1,mk1,rfl,-,-,hd1⟩:=aq.form hq.types (by decide);obtain⟨la2,lk2,rfl,-,hm2,-⟩:=SliceAt.form hp.attrs (by decide);obtain⟨ma2,mk2,rfl,-⟩:=SliceAt.form hq.attrs (by decide);obtain⟨la3,lk3,rfl,-,hm3,-⟩:=SliceAt.form hp.roles (by decide);obtain⟨ma3,mk3,rfl,-⟩:=SliceAt.form hq.roles (by decide);obtain⟨la4,lk4,rfl,-,hm4,-⟩:=SliceAt.form hp.users (by decide);obtain⟨ma4,mk4,rfl,-⟩:=SliceAt.form hq.users (by decide);obtain⟨iz,iy,rfl,-,hm5,-⟩:=SliceAt.form hp.bools (by decide);obtain⟨ma5,mk5,rfl,-⟩:=SliceAt.form hq.bools (by decide);obtain⟨ka6,kk6,hv6,-⟩:=aF.get hp.aW;have no:kG p q=false→Ending.returned (lS [Value.bool false])=.returned (.bool (kG p q)):=fun h=>by rw[h];rfl
 refine bP [] (fn:=Tryz.f67) Tryz.func67 rfl Tryz.ntmps67 rfl fun g1 w1 M1=>fun g2 w2 M2=>lb 1<|an rfl<|lb 0<|an rfl<|lb 1<|an (fun _=>rfl)<|lb 0<|an (fun _=>rfl)<|lb 1<|an (fun _=>rfl)<|lb 0<|an (fun _=>rfl)<|lb 1<|an (fun _=>rfl)<|lb 0<|an (fun _=>rfl)<|lb 1<|an (fun _=>rfl)<|lb 0<|an (fun _=>rfl)<|lb 1<|an (fun _=>rfl)<|lb 0<|an (fun _=>rfl)<|lb 1<|an (fun _=>rfl)<|lb 0<|an (fun _=>rfl)<|cl<|an (fun _=>ow _ _ _ _ _ (aF.keep hp.aW M2.below) (aF.keep hq.aW M2.below)) fun w3 M=>lb 1<|an (fun _=>rfl)<|lb 0<|an (fun _=>rfl)<|cl<|an (fun _=>ow _ _ _ _ _ (aF.keep hp.cats M.below) (aF.keep hq.cats M.below)) fun w4 M=>an (fun h M=>⟨no ?_,M.below⟩) fun h=>?_
 ·cases hs:kG p q with
  | false=>rfl
  | true=>
   obtain⟨a1,a2,a3,a4,a5,a6,a7,a8⟩:=FX hs;simp[a1,a2,a3,a4,a5,a6,a7,a8] at h
 simp only[Bool.or_eq_false_iff,Bool.not_eq_false',decide_eq_true_eq] at h;obtain⟨⟨⟨⟨⟨⟨⟨Oa,Ww⟩,WD⟩,Wz⟩,Wv⟩,WC⟩,hS1⟩,hS2⟩:=h;have NY:p.classes.length=q.classes.length:=by have:=Oa;omega
 have Wj:p.types.length=q.types.length:=by have:=Ww;omega
 have Kk:p.attrs.length=q.attrs.length:=by have:=WD;omega
 have Kh:p.roles.length=q.roles.length:=by have:=Wz;omega
 have Ke:p.users.length=q.users.length:=by have:=Wv;omega
 have Kj:p.bools.length=q.bools.length:=by have:=WC;omega
 refine lr (ι:=Nat) (fun m=>[(5,.bool (true&&au mX (p.classes.take m) (q.classes.take m))),(6,.int .i64 (m:Int))]) (fun m _=>m≤p.classes.length) (fun m=>p.classes.length-m) 0 (an ⟨⟨ez (by rw[eW];rfl),rfl,trivial⟩,fun M=>⟨M,avX _⟩⟩ ?_);intro m w M hm;refine lb 1<|an rfl<|an (fun h=>?_) fun h=>?_
 ·simp only[decide_eq_true_eq] at h;obtain⟨x,hx⟩:∃ x,p.classes[m]?=some x:=⟨_,av2 (by omega)⟩;obtain⟨y,hy⟩:∃ y,q.classes[m]?=some y:=⟨_,av2 (by omega)⟩;obtain⟨b,o,z,e1,hz,-,hc⟩:=hc0 m x hx;obtain⟨b',o',z',e2,hz',-,hc'⟩:=hd0 m y hy;obtain⟨pv,rfl,hpv⟩:=hz;obtain⟨pv',rfl,aci⟩:=hz';refine dr (by kernel_rfl)<|lb 1<|an (fun _=>rfl)<|ia<|an (fun _=>⟨e1,rfl,by omega⟩)<|lc<|an (fun _=>awi M.below (hc 0 _ rfl))<|lb 0<|an (fun _=>rfl)<|ia<|an (fun _=>⟨e2,rfl,by omega⟩)<|lc<|an (fun _=>awi M.below (hc' 0 _ rfl))<|lb 1<|an (fun _=>rfl)<|ia<|an (fun _=>⟨e1,rfl,by omega⟩)<|lc<|an (fun _=>awi M.below (hc 1 _ rfl))<|lb 0<|an (fun _=>rfl)<|ia<|an (fun _=>⟨e2,rfl,by omega⟩)<|lc<|an (fun _=>awi M.below (hc' 1 _ rfl))<|cl<|an (fun _ w' hb' M'=>ow w' _ _ _ _ (hpv.keep M'.below) (aci.keep M'.below)) fun w2 hb M=>an (by omega) (bk (m+1) ⟨ez (by rw[eX hx hy];unfold mX;simp[Bool.and_assoc,pE]),rfl,trivial⟩ (fun M=>⟨M,by omega⟩) (by dsimp only;omega))
 simp only[decide_eq_false_iff_not] at h;obtain rfl:m=p.classes.length:=by omega
 refine lr (ι:=Nat) (fun m=>[(5,.bool ((true&&au mX p.classes q.classes)&&au oy (p.types.take m) (q.types.take m))),(7,.int .i64 (m:Int))]) (fun m _=>m≤p.types.length) (fun m=>p.types.length-m) 0 (an ⟨⟨ez (by rw[eY NY,eW,Bool.and_true]),rfl,trivial⟩,fun M=>⟨M,avX _⟩⟩ ?_);intro m w M hm;refine lb 1<|an rfl<|an (fun h=>?_) fun h=>?_
 ·simp only[decide_eq_true_eq] at h;obtain⟨x,hx⟩:∃ x,p.types[m]?=some x:=⟨_,av2 (by omega)⟩;obtain⟨y,hy⟩:∃ y,q.types[m]?=some y:=⟨_,av2 (by omega)⟩;obtain⟨b,o,z,e1,hz,-,hc⟩:=hc1 m x hx;obtain⟨b',o',z',e2,hz',-,hc'⟩:=hd1 m y hy;obtain⟨pv,rfl,hpv⟩:=hz;obtain⟨pv',rfl,aci⟩:=hz';refine dr (by kernel_rfl)<|lb 1<|an (fun _=>rfl)<|ia<|an (fun _=>⟨e1,rfl,by omega⟩)<|lc<|an (fun _=>awi M.below (hc 0 _ rfl))<|lb 0<|an (fun _=>rfl)<|ia<|an (fun _=>⟨e2,rfl,by omega⟩)<|lc<|an (fun _=>awi M.below (hc' 0 _ rfl))<|lb 1<|an (fun _=>rfl)<|ia<|an (fun _=>⟨e1,rfl,by omega⟩)<|lc<|an (fun _=>awi M.below (hc 2 _ rfl))<|lb 0<|an (fun _=>rfl)<|ia<|an (fun _=>⟨e2,rfl,by omega⟩)<|lc<|an (fun _=>awi M.below (hc' 2 _ rfl))<|lb 1<|an (fun _=>rfl)<|ia<|an (fun _=>⟨e1,rfl,by omega⟩)<|lc<|an (fun _=>awi M.below (hc 1 _ rfl))<|lb 0<|an (fun _=>rfl)<|ia<|an (fun _=>⟨e2,rfl,by omega⟩)<|lc<|an (fun _=>awi M.below (hc' 1 _ rfl))<|cl<|an (fun _ w' hb' M'=>ow w' _ _ _ _ (hpv.keep M'.below) (aci.keep M'.below)) fun w2 hb M=>an (by omega) (bk (m+1) ⟨ez (by rw[eX hx hy];unfold oy;simp[Bool.and_assoc,pE]),rfl,trivial⟩ (fun M=>⟨M,by omega⟩) (by dsimp only;omega))
 simp only[decide_eq_false_iff_not] at h;obtain rfl:m=p.types.length:=by omega
 refine lr (ι:=Nat) (fun m=>[(5,.bool (((true&&au mX p.classes q.classes)&&au oy p.types q.types)&&au (fun x y=>decide (x=y)) (p.attrs.take m) (q.attrs.take m))),(8,.int .i64 (m:Int))]) (fun m _=>m≤p.attrs.length) (fun m=>p.attrs.length-m) 0 (an ⟨⟨ez (by rw[eY Wj,eW,Bool.and_true]),rfl,trivial⟩,fun M=>⟨M,avX _⟩⟩ ?_);intro m w M hm;refine lb 1<|an rfl<|an (fun h=>?_) fun h=>?_
 ·simp only[decide_eq_true_eq] at h;obtain⟨x,y,b,o,b',o',hx,hy,⟨e1,hc⟩,e2,hc'⟩:=dS (f:=lD.cells) (fun _=>rfl) (by decide) hp.attrs hq.attrs rfl rfl (m:=m) (by omega) Kk M.below;refine dr (by kernel_rfl)<|lb 1<|an (fun _=>rfl)<|ia<|an (fun _=>⟨e1,rfl,by omega⟩)<|lc<|an (fun _=>hc)<|lb 0<|an (fun _=>rfl)<|ia<|an (fun _=>⟨e2,rfl,by omega⟩)<|lc<|an (fun _=>hc')<|ei<|an (fun _=>⟨aaZ,fun w=>W6 x y w⟩) fun w2 hb M=>an (by omega) (bk (m+1) ⟨ez (by rw[eX hx hy,Bool.and_assoc]),rfl,trivial⟩ (fun M=>⟨M,by omega⟩) (by dsimp only;omega))
 simp only[decide_eq_false_iff_not] at h;obtain rfl:m=p.attrs.length:=by omega
 refine lr (ι:=Nat) (fun m=>[(5,.bool ((((true&&au mX p.classes q.classes)&&au oy p.types q.types)&&au (fun x y=>decide (x=y)) p.attrs q.attrs)&&au (fun x y=>decide (x=y)) (p.roles.take m) (q.roles.take m))),(9,.int .i64 (m:Int))]) (fun m _=>m≤p.roles.length) (fun m=>p.roles.length-m) 0 (an ⟨⟨ez (by rw[eY Kk,eW,Bool.and_true]),rfl,trivial⟩,fun M=>⟨M,avX _⟩⟩ ?_);intro m w M hm;refine lb 1<|an rfl<|an (fun h=>?_) fun h=>?_
 ·simp only[decide_eq_true_eq] at h;obtain⟨x,y,b,o,b',o',hx,hy,⟨e1,hc⟩,e2,hc'⟩:=dS (f:=iH.cells) (fun _=>rfl) (by decide) hp.roles hq.roles rfl rfl (m:=m) (by omega) Kh M.below;refine dr (by kernel_rfl)<|lb 1<|an (fun _=>rfl)<|ia<|an (fun _=>⟨e1,rfl,by omega⟩)<|lc<|an (fun _=>hc)<|lb 0<|an (fun _=>rfl)<|ia<|an (fun _=>⟨e2,rfl,by omega⟩)<|lc<|an (fun _=>hc')<|ei<|an (fun _=>⟨Xb,fun w=>W5 x y w⟩) fun w2 hb M=>an (by omega) (bk (m+1) ⟨ez (by rw[eX hx hy,Bool.and_assoc]),rfl,trivial⟩ (fun M=>⟨M,by omega⟩) (by dsimp only;omega))
 simp only[decide_eq_false_iff_not] at h;obtain rfl:m=p.roles.length:=by omega
 refine lr (ι:=Nat) (fun m=>[(5,.bool (((((true&&au mX p.classes q.classes)&&au oy p.types q.types)&&au (fun x y=>decide (x=y)) p.attrs q.attrs)&&au (fun x y=>decide (x=y)) p.roles q.roles)&&au (fun x y=>decide (x=y)) (p.users.take m) (q.users.take m))),(10,.int .i64 (m:Int))]) (fun m _=>m≤p.users.length) (fun m=>p.users.length-m) 0 (an ⟨⟨ez (by rw[eY Kh,eW,Bool.and_true]),rfl,trivial⟩,fun M=>⟨M,avX _⟩⟩ ?_);intro m w M hm;refine lb 1<|an rfl<|an (fun h=>?_) fun h=>?_
 ·simp only[decide_eq_true_eq] at h;obtain⟨x,y,b,o,b',o',hx,hy,⟨e1,hc⟩,e2,hc'⟩:=dS (f:=kK.cells) (fun _=>rfl) (by decide) hp.users hq.users rfl rfl (m:=m) (by omega) Ke M.below;refine dr (by kernel_rfl)<|lb 1<|an (fun _=>rfl)<|ia<|an (fun _=>⟨e1,rfl,by omega⟩)<|lc<|an (fun _=>hc)<|lb 0<|an (fun _=>rfl)<|ia<|an (fun _=>⟨e2,rfl,by omega⟩)<|lc<|an (fun _=>hc')<|ei<|an (fun _=>⟨aaY,fun w=>W4 x y w⟩) fun w2 hb M=>an (by omega) (bk (m+1) ⟨ez (by rw[eX hx hy,Bool.and_assoc]),rfl,trivial⟩ (fun M=>⟨M,by omega⟩) (by dsimp only;omega))
 simp only[decide_eq_false_iff_not] at h;obtain rfl:m=p.users.length:=by omega
 refine lr (ι:=Nat) (fun m=>[(5,.bool ((((((true&&au mX p.classes q.classes)&&au oy p.types q.types)&&au (fun x y=>decide (x=y)) p.attrs q.attrs)&&au (fun x y=>decide (x=y)) p.roles q.roles)&&au (fun x y=>decide (x=y)) p.users q.users)&&au (fun x y=>decide (x=y)) (p.bools.take m) (q.bools.take m))),(11,.int .i64 (m:Int))]) (fun m _=>m≤p.bools.length) (fun m=>p.bools.length-m) 0 (an ⟨⟨ez (by rw[eY Ke,eW,Bool.and_true]),rfl,trivial⟩,fun M=>⟨M,avX _⟩⟩ ?_);intro m w M hm;refine lb 1<|an rfl<|an (fun h=>?_) fun h=>?_
 ·simp only[decide_eq_true_eq] at h;obtain⟨x,y,b,o,b',o',hx,hy,⟨e1,hc⟩,e2,hc'⟩:=dS (f:=dP.cells) (fun _=>rfl) (by decide) hp.bools hq.bools rfl rfl (m:=m) (by omega) Kj M.below;refine dr (by kernel_rfl)<|lb 1<|an (fun _=>rfl)<|ia<|an (fun _=>⟨e1,rfl,by omega⟩)<|lc<|an (fun _=>hc)<|lb 0<|an (fun _=>rfl)<|ia<|an (fun _=>⟨e2,rfl,by omega⟩)<|lc<|an (fun _=>hc')<|ei<|an (fun _=>⟨aaX,fun w=>WZ x y w⟩) fun w2 hb M=>an (by omega) (bk (m+1) ⟨ez (by rw[eX hx hy,Bool.and_assoc]),rfl,trivial⟩ (fun M=>⟨M,by omega⟩) (by dsimp only;omega))
 simp only[decide_eq_false_iff_not] at h;obtain rfl:m=p.bools.length:=by omega
 intro M;refine⟨?_,M.below⟩;have e7:p.aW=q.aW:=by simpa using hS1
 have e8:p.cats=q.cats:=by simpa using hS2
 rw[eY Kj,kJ,kJ,kJ,kJ];unfold kG;simp only[e7,e8,decide_true,Bool.and_true,Bool.true_and,lS]
def nJ(p q:aA):Bool:=(((((au eT p.conds q.conds&&decide (p.rules=q.rules))&&decide (p.trans=q.trans))&&decide (p.aS=q.aS))&&decide (p.ranges=q.ranges))&&au sW p.cons q.cons)
theorem FY{p q:aA}(h:nJ p q=true):p.conds.length=q.conds.length∧p.rules=q.rules∧p.trans=q.trans∧p.aS=q.aS∧p.ranges=q.ranges∧p.cons.length=q.cons.length:=by
 unfold nJ at h;simp only[awd,decide_eq_true_eq] at h;obtain⟨⟨⟨⟨⟨h1,h2⟩,h3⟩,h4⟩,h5⟩,h6⟩:=h;exact⟨Bk h1,h2,h3,h4,h5,Bk h6⟩
theorem zX(w0:World)(c0 c1 c2 c3 c4 c5 c6 c7 c8 c9 aQ aL aK aP aO aN aM d0 d1 d2 d3 d4 d5 d6 d7 d8 d9 Bc Bb Ba A_ A9 A8 AZ:Value)(p q:aA)(hp:aJ w0 c0 c1 c2 c3 c4 c5 c6 c7 c8 c9 aQ aL aK aP aO aN aM p)(hq:aJ w0 d0 d1 d2 d3 d4 d5 d6 d7 d8 d9 Bc Bb Ba A_ A9 A8 AZ q):Calls Tryz.prog 68 #[.agg #[c0,c1,c2,c3,c4,c5,c6,c7,c8,c9,aQ,aL,aK,aP,aO,aN,aM],.agg #[d0,d1,d2,d3,d4,d5,d6,d7,d8,d9,Bc,Bb,Ba,A_,A9,A8,AZ]] w0 fun r w'=>r=.returned (.bool (nJ p q))∧avZ w0.heap.size w0 w':=by
 obtain⟨la8,lk8,rfl,-,hm8,hc8⟩:=aq.form hp.conds (by decide);obtain⟨ma8,mk8,rfl,-,-,hd8⟩:=aq.form hq.conds (by decide);obtain⟨Y0,VE,rfl,-,hm9,-⟩:=SliceAt.form hp.rules (by decide);obtain⟨ma9,mk9,rfl,-⟩:=SliceAt.form hq.rules (by decide);obtain⟨R3,RT,rfl,-,afF,-⟩:=SliceAt.form hp.trans (by decide);obtain⟨aoj,aoc,rfl,-⟩:=SliceAt.form hq.trans (by decide);obtain⟨aoz,aoq,rfl,-,apo,-⟩:=SliceAt.form hp.aS (by decide);obtain⟨aoi,aob,rfl,-⟩:=SliceAt.form hq.aS (by decide);obtain⟨aoy,aop,rfl,-,apn,-⟩:=SliceAt.form hp.ranges (by decide);obtain⟨aoh,aoa,rfl,-⟩:=SliceAt.form hq.ranges (by decide);obtain⟨aox,aoo,rfl,-,ai5,ajl⟩:=aq.form hp.cons (by decide);obtain⟨aog,an_,rfl,-,-,ajc⟩:=aq.form hq.cons (by decide);have no:nJ p q=false→Ending.returned (lS [Value.bool false])=.returned (.bool (nJ p q)):=fun h=>by rw[h];rfl
 refine bP [] (fn:=Tryz.f68) Tryz.func68 rfl Tryz.ntmps68 rfl fun g1 w1 M1=>fun g2 w2 M2=>lb 1<|an rfl<|lb 0<|an rfl<|lb 1<|an (fun _=>rfl)<|lb 0<|an (fun _=>rfl)<|lb 1<|an (fun _=>rfl)<|lb 0<|an (fun _=>rfl)<|lb 1<|an (fun _=>rfl)<|lb 0<|an (fun _=>rfl)<|lb 1<|an (fun _=>rfl)<|lb 0<|an (fun _=>rfl)<|lb 1<|an (fun _=>rfl)<|lb 0<|an (fun _=>rfl)<|an (fun h M=>⟨no ?_,M.below⟩) fun h=>?_
 ·cases hs:nJ p q with
  | false=>rfl
  | true=>
   obtain⟨a1,a2,a3,a4,a5,a6⟩:=FY hs;simp[a1,a2,a3,a4,a5,a6] at h
 simp only[Bool.or_eq_false_iff,Bool.not_eq_false',decide_eq_true_eq] at h;obtain⟨⟨⟨⟨⟨WB,Wy⟩,Wx⟩,Sn⟩,Sp⟩,Zn⟩:=h;have Wk:p.conds.length=q.conds.length:=by have:=WB;omega
 have Kg:p.rules.length=q.rules.length:=by have:=Wy;omega
 have Kf:p.trans.length=q.trans.length:=by have:=Wx;omega
 have EY:p.aS.length=q.aS.length:=by have:=Sn;omega
 have EZ:p.ranges.length=q.ranges.length:=by have:=Sp;omega
 have Zc:p.cons.length=q.cons.length:=by have:=Zn;omega
 refine lr (ι:=Nat) (fun m=>[(5,.bool (true&&au eT (p.conds.take m) (q.conds.take m))),(6,.int .i64 (m:Int))]) (fun m _=>m≤p.conds.length) (fun m=>p.conds.length-m) 0 (an ⟨⟨ez (by rw[eW];rfl),rfl,trivial⟩,fun M=>⟨M,avX _⟩⟩ ?_);intro m w M hm;refine lb 1<|an rfl<|an (fun h=>?_) fun h=>?_
 ·simp only[decide_eq_true_eq] at h;obtain⟨x,hx⟩:∃ x,p.conds[m]?=some x:=⟨_,av2 (by omega)⟩;obtain⟨y,hy⟩:∃ y,q.conds[m]?=some y:=⟨_,av2 (by omega)⟩;obtain⟨b,o,z,e1,hz,-,hc⟩:=hc8 m x hx;obtain⟨b',o',z',e2,hz',-,hc'⟩:=hd8 m y hy;obtain⟨JM,VO,rfl,-⟩:=hz.open;obtain⟨Vl,kv2,rfl,-⟩:=hz'.open;refine dr (by kernel_rfl)<|lb 1<|an (fun _=>rfl)<|ia<|an (fun _=>⟨e1,rfl,by omega⟩)<|lc<|an (fun _=>bY M.below hc)<|lb 0<|an (fun _=>rfl)<|ia<|an (fun _=>⟨e2,rfl,by omega⟩)<|lc<|an (fun _=>bY M.below hc')<|cl<|an (fun _ w' hb' M'=>qF x _ _ _ y (aZ.keep M'.below hz) (aZ.keep M'.below hz')) fun w2 hb M=>an (by omega) (bk (m+1) ⟨ez (by rw[eX hx hy];simp),rfl,trivial⟩ (fun M=>⟨M,by omega⟩) (by dsimp only;omega))
 simp only[decide_eq_false_iff_not] at h;obtain rfl:m=p.conds.length:=by omega
 refine lr (ι:=Nat) (fun m=>[(5,.bool ((true&&au eT p.conds q.conds)&&au (fun x y=>decide (x=y)) (p.rules.take m) (q.rules.take m))),(7,.int .i64 (m:Int))]) (fun m _=>m≤p.rules.length) (fun m=>p.rules.length-m) 0 (an ⟨⟨ez (by rw[eY Wk,eW,Bool.and_true]),rfl,trivial⟩,fun M=>⟨M,avX _⟩⟩ ?_);intro m w M hm;refine lb 1<|an rfl<|an (fun h=>?_) fun h=>?_
 ·simp only[decide_eq_true_eq] at h;obtain⟨x,y,b,o,b',o',hx,hy,⟨e1,hc⟩,e2,hc'⟩:=dS (f:=aj.cells) (fun _=>rfl) (by decide) hp.rules hq.rules rfl rfl (m:=m) (by omega) Kg M.below;refine dr (by kernel_rfl)<|lb 1<|an (fun _=>rfl)<|ia<|an (fun _=>⟨e1,rfl,by omega⟩)<|lc<|an (fun _=>hc)<|lb 0<|an (fun _=>rfl)<|ia<|an (fun _=>⟨e2,rfl,by omega⟩)<|lc<|an (fun _=>hc')<|ei<|an (fun _=>⟨adk,fun w=>WW x y w⟩) fun w2 hb M=>an (by omega) (bk (m+1) ⟨ez (by rw[eX hx hy,Bool.and_assoc]),rfl,trivial⟩ (fun M=>⟨M,by omega⟩) (by dsimp only;omega))
 simp only[decide_eq_false_iff_not] at h;obtain rfl:m=p.rules.length:=by omega
 refine lr (ι:=Nat) (fun m=>[(5,.bool (((true&&au eT p.conds q.conds)&&au (fun x y=>decide (x=y)) p.rules q.rules)&&au (fun x y=>decide (x=y)) (p.trans.take m) (q.trans.take m))),(8,.int .i64 (m:Int))]) (fun m _=>m≤p.trans.length) (fun m=>p.trans.length-m) 0 (an ⟨⟨ez (by rw[eY Kg,eW,Bool.and_true]),rfl,trivial⟩,fun M=>⟨M,avX _⟩⟩ ?_);intro m w M hm;refine lb 1<|an rfl<|an (fun h=>?_) fun h=>?_
 ·simp only[decide_eq_true_eq] at h;obtain⟨x,y,b,o,b',o',hx,hy,⟨e1,hc⟩,e2,hc'⟩:=dS (f:=bE.cells) (fun _=>rfl) (by decide) hp.trans hq.trans rfl rfl (m:=m) (by omega) Kf M.below;refine dr (by kernel_rfl)<|lb 1<|an (fun _=>rfl)<|ia<|an (fun _=>⟨e1,rfl,by omega⟩)<|lc<|an (fun _=>hc)<|lb 0<|an (fun _=>rfl)<|ia<|an (fun _=>⟨e2,rfl,by omega⟩)<|lc<|an (fun _=>hc')<|ei<|an (fun _=>⟨adj,fun w=>WV x y w⟩) fun w2 hb M=>an (by omega) (bk (m+1) ⟨ez (by rw[eX hx hy,Bool.and_assoc]),rfl,trivial⟩ (fun M=>⟨M,by omega⟩) (by dsimp only;omega))
 simp only[decide_eq_false_iff_not] at h;obtain rfl:m=p.trans.length:=by omega
 refine lr (ι:=Nat) (fun m=>[(5,.bool ((((true&&au eT p.conds q.conds)&&au (fun x y=>decide (x=y)) p.rules q.rules)&&au (fun x y=>decide (x=y)) p.trans q.trans)&&au (fun x y=>decide (x=y)) (p.aS.take m) (q.aS.take m))),(9,.int .i64 (m:Int))]) (fun m _=>m≤p.aS.length) (fun m=>p.aS.length-m) 0 (an ⟨⟨ez (by rw[eY Kf,eW,Bool.and_true]),rfl,trivial⟩,fun M=>⟨M,avX _⟩⟩ ?_);intro m w M hm;refine lb 1<|an rfl<|an (fun h=>?_) fun h=>?_
 ·simp only[decide_eq_true_eq] at h;obtain⟨x,y,b,o,b',o',hx,hy,⟨e1,hc⟩,e2,hc'⟩:=dS (f:=k_.cells) (fun _=>rfl) (by decide) hp.aS hq.aS rfl rfl (m:=m) (by omega) EY M.below;refine dr (by kernel_rfl)<|lb 1<|an (fun _=>rfl)<|ia<|an (fun _=>⟨e1,rfl,by omega⟩)<|lc<|an (fun _=>hc)<|lb 0<|an (fun _=>rfl)<|ia<|an (fun _=>⟨e2,rfl,by omega⟩)<|lc<|an (fun _=>hc')<|ei<|an (fun _=>⟨aaW,fun w=>WY x y w⟩) fun w2 hb M=>an (by omega) (bk (m+1) ⟨ez (by rw[eX hx hy,Bool.and_assoc]),rfl,trivial⟩ (fun M=>⟨M,by omega⟩) (by dsimp only;omega))
 simp only[decide_eq_false_iff_not] at h;obtain rfl:m=p.aS.length:=by omega
 refine lr (ι:=Nat) (fun m=>[(5,.bool (((((true&&au eT p.conds q.conds)&&au (fun x y=>decide (x=y)) p.rules q.rules)&&au (fun x y=>decide (x=y)) p.trans q.trans)&&au (fun x y=>decide (x=y)) p.aS q.aS)&&au (fun x y=>decide (x=y)) (p.ranges.take m) (q.ranges.take m))),(10,.int .i64 (m:Int))]) (fun m _=>m≤p.ranges.length) (fun m=>p.ranges.length-m) 0 (an ⟨⟨ez (by rw[eY EY,eW,Bool.and_true]),rfl,trivial⟩,fun M=>⟨M,avX _⟩⟩ ?_);intro m w M hm;refine lb 1<|an rfl<|an (fun h=>?_) fun h=>?_
 ·simp only[decide_eq_true_eq] at h;obtain⟨x,y,b,o,b',o',hx,hy,⟨e1,hc⟩,e2,hc'⟩:=dS (f:=lu.cells) (fun _=>rfl) (by decide) hp.ranges hq.ranges rfl rfl (m:=m) (by omega) EZ M.below;refine dr (by kernel_rfl)<|lb 1<|an (fun _=>rfl)<|ia<|an (fun _=>⟨e1,rfl,by omega⟩)<|lc<|an (fun _=>hc)<|lb 0<|an (fun _=>rfl)<|ia<|an (fun _=>⟨e2,rfl,by omega⟩)<|lc<|an (fun _=>hc')<|ei<|an (fun _=>⟨aaV,fun w=>WX x y w⟩) fun w2 hb M=>an (by omega) (bk (m+1) ⟨ez (by rw[eX hx hy,Bool.and_assoc]),rfl,trivial⟩ (fun M=>⟨M,by omega⟩) (by dsimp only;omega))
 simp only[decide_eq_false_iff_not] at h;obtain rfl:m=p.ranges.length:=by omega
 refine lr (ι:=Nat) (fun m=>[(5,.bool ((((((true&&au eT p.conds q.conds)&&au (fun x y=>decide (x=y)) p.rules q.rules)&&au (fun x y=>decide (x=y)) p.trans q.trans)&&au (fun x y=>decide (x=y)) p.aS q.aS)&&au (fun x y=>decide (x=y)) p.ranges q.ranges)&&au sW (p.cons.take m) (q.cons.take m))),(11,.int .i64 (m:Int))]) (fun m _=>m≤p.cons.length) (fun m=>p.cons.length-m) 0 (an ⟨⟨ez (by rw[eY EZ,eW,Bool.and_true]),rfl,trivial⟩,fun M=>⟨M,avX _⟩⟩ ?_);intro m w M hm;refine lb 1<|an rfl<|an (fun h=>?_) fun h=>?_
 ·simp only[decide_eq_true_eq] at h;obtain⟨x,hx⟩:∃ x,p.cons[m]?=some x:=⟨_,av2 (by omega)⟩;obtain⟨y,hy⟩:∃ y,q.cons[m]?=some y:=⟨_,av2 (by omega)⟩;obtain⟨b,o,z,e1,hz,-,hc⟩:=ajl m x hx;obtain⟨b',o',z',e2,hz',-,hc'⟩:=ajc m y hy;obtain⟨SG,rfl,hz1⟩:=hz;obtain⟨es2,rfl,hz2⟩:=hz';obtain⟨JM,VO,rfl,hn1,hk1⟩:=hz1.open;obtain⟨Vl,kv2,rfl,hn2,hk2⟩:=hz2.open;obtain⟨_,_,rfl,-⟩:=hn1.get;obtain⟨_,_,rfl,-⟩:=hn2.get;obtain⟨_,_,rfl,-⟩:=hk1.form (by decide);obtain⟨_,_,rfl,-⟩:=hk2.form (by decide);refine dp (by kernel_rfl)<|lb 1<|an rfl<|ia<|an ⟨e1,rfl,by omega⟩<|lc<|an (bY M.below hc)<|lb 0<|an rfl<|ia<|an ⟨e2,rfl,by omega⟩<|lc<|an (bY M.below hc')<|ei<|ei<|an ⟨QK,QK⟩<|an ⟨rfl,rfl⟩ fun g3 g4 w2 hb2 M=>?_
  refine lb 0<|an (fun _=>rfl)<|lb 1<|an (fun _=>rfl)<|lb 0<|an (fun _=>rfl)<|lb 1<|an (fun _=>rfl)<|lb 0<|an (fun _=>rfl)<|lb 1<|an (fun _=>rfl)<|lb 0<|an (fun _=>rfl)<|lb 1<|an (fun _=>rfl)<|cl<|an (fun _=>qF x.expr _ _ _ y.expr (aZ.keep M.below hz1) (aZ.keep M.below hz2)) fun w3 M=>an (by omega) (bk (m+1) ⟨ez (by rw[eX hx hy];unfold sW;simp[Bool.and_assoc]),rfl,trivial⟩ (fun M=>⟨M.only (.cons _ (.cons _ (.refl _))) (.refl _),by omega⟩) (by dsimp only;omega))
 simp only[decide_eq_false_iff_not] at h;obtain rfl:m=p.cons.length:=by omega
 intro M;refine⟨?_,M.below⟩;rw[eY Zc,kJ,kJ,kJ,kJ];unfold nJ;simp only[Bool.true_and,lS]
theorem oA(w0:World)(c0 c1 c2 c3 c4 c5 c6 c7 c8 c9 aQ aL aK aP aO aN aM d0 d1 d2 d3 d4 d5 d6 d7 d8 d9 Bc Bb Ba A_ A9 A8 AZ:Value)(p q:aA)(hp:aJ w0 c0 c1 c2 c3 c4 c5 c6 c7 c8 c9 aQ aL aK aP aO aN aM p)(hq:aJ w0 d0 d1 d2 d3 d4 d5 d6 d7 d8 d9 Bc Bb Ba A_ A9 A8 AZ q):Calls Tryz.prog 23 #[.agg #[c0,c1,c2,c3,c4,c5,c6,c7,c8,c9,aQ,aL,aK,aP,aO,aN,aM],.agg #[d0,d1,d2,d3,d4,d5,d6,d7,d8,d9,Bc,Bb,Ba,A_,A9,A8,AZ]] w0 fun r w'=>r=.returned (.bool (gU p q))∧avZ w0.heap.size w0 w':=by
 obtain⟨aow,aon,rfl,-,apm,-⟩:=SliceAt.form hp.bL (by decide);obtain⟨aof,an9,rfl,-⟩:=SliceAt.form hq.bL (by decide);obtain⟨aov,aom,rfl,-,apl,-⟩:=SliceAt.form hp.files (by decide);obtain⟨aoe,an8,rfl,-⟩:=SliceAt.form hq.files (by decide);obtain⟨aou,aol,rfl,-,apk,-⟩:=SliceAt.form hp.asserts (by decide);obtain⟨aod,an7,rfl,-⟩:=SliceAt.form hq.asserts (by decide)
 have hE:gU p q=((((kG p q&&nJ p q)&&decide (p.bL=q.bL))&&decide (p.files=q.files))&&decide (p.asserts=q.asserts)):=by
  unfold gU nJ;simp only[Bool.and_assoc]
 have no:gU p q=false→Ending.returned (lS [Value.bool false])=.returned (.bool (gU p q)):=fun h=>by rw[h];rfl
 refine bP [] (fn:=Tryz.f23) Tryz.func23 rfl Tryz.ntmps23 rfl fun g1 w1 M1=>fun g2 w2 M2=>lb 1<|an rfl<|lb 0<|an rfl<|cl<|an (uT _ _ _ _ _ _ _ _ _ _ _ _ _ _ _ _ _ _ _ _ _ _ _ _ _ _ _ _ _ _ _ _ _ _ _ p q (hp.keep M2.below) (hq.keep M2.below)) fun w3 M3=>lb 1<|an (fun _=>rfl)<|lb 0<|an (fun _=>rfl)<|cl<|an (fun _=>zX _ _ _ _ _ _ _ _ _ _ _ _ _ _ _ _ _ _ _ _ _ _ _ _ _ _ _ _ _ _ _ _ _ _ _ p q (hp.keep M3.below) (hq.keep M3.below)) fun w4 M4=>lb 1<|an (fun _=>rfl)<|lb 0<|an (fun _=>rfl)<|lb 1<|an (fun _=>rfl)<|lb 0<|an (fun _=>rfl)<|lb 1<|an (fun _=>rfl)<|lb 0<|an (fun _=>rfl)<|an (fun h M=>⟨no ?_,M.below⟩) fun h=>?_
 ·rw[hE]
  cases hs:(((kG p q&&nJ p q)&&decide (p.bL=q.bL))&&decide (p.files=q.files))&&decide (p.asserts=q.asserts) with
  | false=>rfl
  | true=>
   simp only[awd,decide_eq_true_eq] at hs;obtain⟨⟨⟨⟨a1,a2⟩,a3⟩,a4⟩,a5⟩:=hs;simp[a1,a2,a3,a4,a5] at h
 simp only[Bool.or_eq_false_iff,Bool.not_eq_false',decide_eq_true_eq] at h;obtain⟨⟨⟨⟨hsy,hru⟩,Zm⟩,WA⟩,Ob⟩:=h;have P6:p.bL.length=q.bL.length:=by have:=Zm;omega
 have Ki:p.files.length=q.files.length:=by have:=WA;omega
 have CQ:p.asserts.length=q.asserts.length:=by have:=Ob;omega
 refine lr (ι:=Nat) (fun m=>[(5,.bool (true&&au (fun x y=>decide (x=y)) (p.bL.take m) (q.bL.take m))),(6,.int .i64 (m:Int))]) (fun m _=>m≤p.bL.length) (fun m=>p.bL.length-m) 0 (an ⟨⟨ez (by rw[eW];rfl),rfl,trivial⟩,fun M=>⟨M,avX _⟩⟩ ?_);intro m w M hm;refine lb 1<|an rfl<|an (fun h=>?_) fun h=>?_
 ·simp only[decide_eq_true_eq] at h;obtain⟨x,y,b,o,b',o',hx,hy,⟨e1,hc⟩,e2,hc'⟩:=dS (f:=kZ.cells) (fun _=>rfl) (by decide) hp.bL hq.bL rfl rfl (m:=m) (by omega) P6 M.below;refine dr (by kernel_rfl)<|lb 1<|an (fun _=>rfl)<|ia<|an (fun _=>⟨e1,rfl,by omega⟩)<|lc<|an (fun _=>hc)<|lb 0<|an (fun _=>rfl)<|ia<|an (fun _=>⟨e2,rfl,by omega⟩)<|lc<|an (fun _=>hc')<|ei<|an (fun _=>⟨aa2,fun w=>W9 x y w⟩) fun w2 hb M=>an (by omega) (bk (m+1) ⟨ez (by rw[eX hx hy,Bool.and_assoc]),rfl,trivial⟩ (fun M=>⟨M,by omega⟩) (by dsimp only;omega))
 simp only[decide_eq_false_iff_not] at h;obtain rfl:m=p.bL.length:=by omega
 refine lr (ι:=Nat) (fun m=>[(5,.bool ((true&&au (fun x y=>decide (x=y)) p.bL q.bL)&&au (fun x y=>decide (x=y)) (p.files.take m) (q.files.take m))),(7,.int .i64 (m:Int))]) (fun m _=>m≤p.files.length) (fun m=>p.files.length-m) 0 (an ⟨⟨ez (by rw[eY P6,eW,Bool.and_true]),rfl,trivial⟩,fun M=>⟨M,avX _⟩⟩ ?_);intro m w M hm;refine lb 1<|an rfl<|an (fun h=>?_) fun h=>?_
 ·simp only[decide_eq_true_eq] at h;obtain⟨x,y,b,o,b',o',hx,hy,⟨e1,hc⟩,e2,hc'⟩:=dS (f:=lC.cells) (fun _=>rfl) (by decide) hp.files hq.files rfl rfl (m:=m) (by omega) Ki M.below;refine dr (by kernel_rfl)<|lb 1<|an (fun _=>rfl)<|ia<|an (fun _=>⟨e1,rfl,by omega⟩)<|lc<|an (fun _=>hc)<|lb 0<|an (fun _=>rfl)<|ia<|an (fun _=>⟨e2,rfl,by omega⟩)<|lc<|an (fun _=>hc')<|ei<|an (fun _=>⟨aa1,fun w=>W8 x y w⟩) fun w2 hb M=>an (by omega) (bk (m+1) ⟨ez (by rw[eX hx hy,Bool.and_assoc]),rfl,trivial⟩ (fun M=>⟨M,by omega⟩) (by dsimp only;omega))
 simp only[decide_eq_false_iff_not] at h;obtain rfl:m=p.files.length:=by omega
 refine lr (ι:=Nat) (fun m=>[(5,.bool (((true&&au (fun x y=>decide (x=y)) p.bL q.bL)&&au (fun x y=>decide (x=y)) p.files q.files)&&au (fun x y=>decide (x=y)) (p.asserts.take m) (q.asserts.take m))),(8,.int .i64 (m:Int))]) (fun m _=>m≤p.asserts.length) (fun m=>p.asserts.length-m) 0 (an ⟨⟨ez (by rw[eY Ki,eW,Bool.and_true]),rfl,trivial⟩,fun M=>⟨M,avX _⟩⟩ ?_);intro m w M hm;refine lb 1<|an rfl<|an (fun h=>?_) fun h=>?_
 ·simp only[decide_eq_true_eq] at h;obtain⟨x,y,b,o,b',o',hx,hy,⟨e1,hc⟩,e2,hc'⟩:=dS (f:=lE.cells) (fun _=>rfl) (by decide) hp.asserts hq.asserts rfl rfl (m:=m) (by omega) CQ M.below;refine dr (by kernel_rfl)<|lb 1<|an (fun _=>rfl)<|ia<|an (fun _=>⟨e1,rfl,by omega⟩)<|lc<|an (fun _=>hc)<|lb 0<|an (fun _=>rfl)<|ia<|an (fun _=>⟨e2,rfl,by omega⟩)<|lc<|an (fun _=>hc')<|ei<|an (fun _=>⟨aa0,fun w=>W7 x y w⟩) fun w2 hb M=>an (by omega) (bk (m+1) ⟨ez (by rw[eX hx hy,Bool.and_assoc]),rfl,trivial⟩ (fun M=>⟨M,by omega⟩) (by dsimp only;omega))
 simp only[decide_eq_false_iff_not] at h;obtain rfl:m=p.asserts.length:=by omega
 intro M;refine⟨?_,M.below⟩;rw[eY CQ,kJ,kJ,kJ,hE,hsy,hru];simp only[Bool.true_and,lS]
theorem EU(l:List (List Int)):eG (fun u w=>rL w u l):=fun _ _ _ h hb=>h.keep hb
def UZ(p q:aA):Bool:=(gU (mJ p) (mJ q)&&decide (fB p=fB q))&&decide (gD p=gD q)
theorem Mz(w0:World)(c0 c1 c2 c3 c4 c5 c6 c7 c8 c9 aQ aL aK aP aO aN aM d0 d1 d2 d3 d4 d5 d6 d7 d8 d9 Bc Bb Ba A_ A9 A8 AZ:Value)(p q:aA)(hp:aJ w0 c0 c1 c2 c3 c4 c5 c6 c7 c8 c9 aQ aL aK aP aO aN aM p)(hq:aJ w0 d0 d1 d2 d3 d4 d5 d6 d7 d8 d9 Bc Bb Ba A_ A9 A8 AZ q)(hS:pW p)(hS':pW q)(ht:p.trans.length≤1000)(ht':q.trans.length≤1000)(hk:∀ y∈p.trans,iX y.cond)(hk':∀ y∈q.trans,iX y.cond):
 Calls Tryz.prog 25 #[.agg #[c0,c1,c2,c3,c4,c5,c6,c7,c8,c9,aQ,aL,aK,aP,aO,aN,aM],.agg #[d0,d1,d2,d3,d4,d5,d6,d7,d8,d9,Bc,Bb,Ba,A_,A9,A8,AZ]] w0 fun r w'=>r=.returned (.bool (UZ p q))∧avZ w0.heap.size w0 w':=by
 obtain⟨_,_,_,_,_,_,_,_,_,_,_,_,_,_,_,_,_,_,_,_,_,_,_,_,_,_,_,_,_,_,_,_,_,_,rfl,rfl,rfl,rfl,rfl,rfl,rfl,rfl,rfl,rfl,rfl,rfl,rfl,rfl,rfl,rfl,rfl⟩:=hp.open;obtain⟨_,_,_,_,_,_,_,_,_,_,_,_,_,_,_,_,_,_,_,_,_,_,_,_,_,_,_,_,_,_,_,_,_,_,rfl,rfl,rfl,rfl,rfl,rfl,rfl,rfl,rfl,rfl,rfl,rfl,rfl,rfl,rfl,rfl,rfl⟩:=hq.open;refine bP [] (fn:=Tryz.f25) Tryz.func25 rfl Tryz.ntmps25 rfl fun g1 w1 M1=>fun g2 w2 M2=>dp (by kernel_rfl)<|lb 1<|an rfl<|lb 0<|an rfl<|ei<|ei<|an ⟨kE,kE⟩<|an ⟨rfl,rfl⟩ fun g3 g4 w3 pQ M3=>?_
 refine lb 0<|an ⟨rfl,rfl⟩ fun w4 M4=>lb 0<|an ⟨rfl,rfl⟩ fun w5 M5=>lb 0<|an ⟨rfl,rfl⟩ fun w6 M6=>lb 1<|an ⟨rfl,rfl⟩ fun w7 M7=>lb 1<|an ⟨rfl,rfl⟩ fun w8 M8=>lb 1<|an ⟨rfl,rfl⟩ fun w9 M9=>?_
 refine dr (by kernel_rfl)<|lb 0<|an rfl<|lb 1<|an rfl<|cl<|an (fun w' hb' M'=>oA _ _ _ _ _ _ _ _ _ _ _ _ _ _ _ _ _ _ _ _ _ _ _ _ _ _ _ _ _ _ _ _ _ _ _ (mJ p) (mJ q) (Bh (hp.keep M'.below)) (Bh (hq.keep M'.below)))<|lb 3<|an (fun _=>rfl)<|cr (fun u w=>rL w u (fB p))<|an (EU _)<|an (fun _ w' hb' M'=>jR _ _ _ _ _ _ _ _ _ _ _ _ _ _ _ _ _ _ p (hp.keep M'.below) hS)<|lb 2<|an (fun _=>rfl)<|cr (fun u w=>rL w u (fB q))<|an (EU _)<|an (fun _ w' hb' M'=>jR _ _ _ _ _ _ _ _ _ _ _ _ _ _ _ _ _ _ q (hq.keep M'.below) hS')<|cu<|an (fun u1 u2 h w' hb' M' hR=>mW _ _ _ (fB p) (fB q) (hR.1 h) (hR.2 h))<|lb 3<|an (fun _=>rfl)<|lb 2<|an (fun _=>rfl)<|cl<|an (fun _ w' hb' M'=>zV _ _ _ _ _ _ _ _ _ _ _ _ _ _ _ _ _ _ _ _ _ _ _ _ _ _ _ _ _ _ _ _ _ _ _ p q (hp.keep M'.below) (hq.keep M'.below) hS hS' ht ht' hk hk') fun qq z_ M=>?_
 exact fun M=>⟨rfl,M.below⟩
theorem SK{P:Program}{a:Act}{w:World}{o:Oper}{t e:TypeId}{x lo:Operand}{g off n c l k:Nat}{lk:IntKind}(ho:o.op=.slice t x (some lo) none none)(hx:a.eval x=.slice (some ⟨g,off,none⟩) n c)(hl:a.eval lo=.int lk (l:Int))(hln:l≤n)
 (hu:P.underlying t=some (.slice e)) (hs:(P.info? e).map (·.size)=some k):(execOp a.eval o).run P w=.ok (.value (.slice (if c=l then some ⟨g,off,none⟩ else some ⟨g,off+l*k,none⟩) (n-l) (c-l))) w:=by
 have hadd:(⟨g,off,none⟩:Addr).add (l*k)=⟨g,off+l*k,none⟩:=by unfold Addr.add;split<;>simp_all
 have h1:(0:Int)≤(l:Int)∧(l:Int)≤(n:Int):=by omega
 unfold execOp;simp only[ho,hx,hl,Option.map_some,Option.map_none,Instr.sliceAt,awc,run_underlying hu w,Result.andThen_ok,Instr.slice,Instr.sliceBounds,Instr.sliceBound,asIntOf,Sem.run_pure,h1,and_self,if_true,Int.toNat_natCast];by_cases h:c=l
 ·subst h;simp[run_sizeOf hs]
 ·simp[h,run_sizeOf hs,hadd]
theorem SliceAt.lo{w:World}{g off n c l k:Nat}{xs:List Value}(h:SliceAt w (.slice (some ⟨g,off,none⟩) n c) k n xs)(hl:l≤n):SliceAt w (.slice (if c=l then some ⟨g,off,none⟩ else some ⟨g,off+l*k,none⟩) (n-l) (c-l)) k (n-l) (xs.drop (l*k)):=by
 obtain⟨h1,h2,h3,h4⟩:=h;rcases h4 with⟨h,-⟩|⟨a,c',e,h5,h6⟩
 ·cases h
 cases e;refine⟨by rw[List.length_drop,h1,Nat.sub_mul],by omega,fun u hu=>h3 u (List.mem_of_mem_drop hu),.inr ?_⟩;by_cases hc:c=l
 ·rw[if_pos hc];exact⟨_,_,rfl,by omega,fun j u hu=>by rw[List.drop_of_length_le (by rw[h1];exact avY _ (by omega))] at hu;simp at hu⟩
 ·rw[if_neg hc];refine⟨_,_,rfl,by omega,fun j u hu=>?_⟩;rw[List.getElem?_drop] at hu;have:=h6 _ _ hu;rw[Addr.add_mid] at this ⊢;rw[Nat.add_assoc];exact this
theorem SliceAt.hi{w:World}{g off n c l k:Nat}{xs:List Value}(h:SliceAt w (.slice (some ⟨g,off,none⟩) n c) k n xs)(hl:l≤n):SliceAt w (.slice (some ⟨g,off,none⟩) l c) k l (xs.take (l*k)):=by
 obtain⟨h1,h2,h3,h4⟩:=h;rcases h4 with⟨h,-⟩|⟨a,c',e,h5,h6⟩
 ·cases h
 cases e;refine⟨by rw[List.length_take,h1,Nat.min_eq_left (avY _ hl)],by omega,fun u hu=>h3 u (List.mem_of_mem_take hu),.inr ⟨_,_,rfl,by omega,fun j u hu=>h6 _ _ ?_⟩⟩;rw[List.getElem?_take] at hu;split at hu
 ·exact hu
 ·cases hu
theorem aV.agA{B:Nat}{w0 w w':World}{bs bs':List Bx}{rs rs':List Rw}(M:aV B w0 w bs rs)(N:aV w.heap.size w w' bs' rs'):aV B w0 w' bs' rs':=
 ⟨M.below.trans (N.below.mono M.big),M.le,fun g cs h=>N.old g cs (M.old g cs h),N.box,fun b hb=>avQ M.big (N.lo b hb),N.nd,fun r hr=>mZ (N.row r hr) M.big,N.far,N.wJ⟩
section
variable (N:Nat) (J C:List Nat)
def vcb:Code→Nat→World→Slots→List Bx→List Rw→World→(Nat→World→KK)→Prop
 | .seq x y,B,w0,l,bs,rs,w,K=>bif jn (fid y) J then QT B w0 N J (.seq x y) l bs rs w (K B w0) else vcb x B w0 l bs rs w fun B' w0' e l' bs' rs' w'=>match e with
  | .normal=>bif jn (fid y) C then vcb y w'.heap.size w' l' [] [] w' K else vcb y B' w0' l' bs' rs' w' K
  | e=>K B' w0' e l' bs' rs' w'
 | c,B,w0,l,bs,rs,w,K=>QT B w0 N J c l bs rs w (K B w0)
end
theorem abw{N:Nat}{J C:List Nat}:∀ {c:Code} {B:Nat} {w0:World} {l:Slots} {bs:List Bx} {rs:List Rw} {w:World} {K:Nat→World→KK} {Q:Exit→Act→World→Prop} {a:Act},vcb N J C c B w0 l bs rs w K→Fs a N l→aV B w0 w bs rs →
 (∀ B' w0' e a l bs rs w,(∀ w bs rs,aV B' w0' w bs rs→aV B w0 w bs rs)→Fs a N l→aV B' w0' w bs rs→K B' w0' e l bs rs w→Q e a w)→c.wp Tryz.prog Q a w:=by
 intro c
 induction c with
 | seq x y ihx ihy=>
  intro B w0 l bs rs w K Q a h F M hQ;unfold vcb at h
  cases hj:jn (fid y) J with
  | true=>rw[hj] at h;exact Mc h F M fun e a l bs rs w F M hk=>hQ B w0 e a l bs rs w (fun _ _ _ h=>h) F M hk
  | false=>
   rw[hj] at h;refine wp_seq (ihx h F M fun B' w0' e a l' bs' rs' w' cv F' M' hk=>?_)
   cases e with
   | normal=>
    cases hc:jn (fid y) C with
    | false=>
     simp only[hc,cond_false] at hk;exact ihy hk F' M' fun B2 w2 e a l bs rs w cv2 F M hk=>hQ B2 w2 e a l bs rs w (fun w bs rs h=>cv w bs rs (cv2 w bs rs h)) F M hk
    | true=>
     simp only[hc,cond_true] at hk;exact ihy hk F' (Mm.start w') fun B2 w2 e a l bs rs w cv2 F M hk=>hQ B2 w2 e a l bs rs w (fun w bs rs h=>cv w bs rs (M'.agA (cv2 w bs rs h))) F M hk
   | _=>exact hQ _ _ _ _ _ _ _ _ cv F' M' hk
 | _=>intro B w0 l bs rs w K Q a h F M hQ;exact Mc h F M fun e a l bs rs w F M hk=>hQ B w0 e a l bs rs w (fun _ _ _ h=>h) F M hk
theorem ahL{f:FuncId}{fn:Func}{c:Code}{N:Nat}(J C:List Nat){vs:List Value}{R:Ending→World→Prop}{w0:World}(hf:Tryz.prog.funcs[f]?=some fn)(hb:fn.body=some c)(hn:fn.ntmps=N)(hN:Nat.ble vs.length N=true)
 (h:vcb N J C c w0.heap.size w0 (ens 0 vs) [] [] w0 fun _ _=>aeI fn w0.heap.size w0 R):Calls Tryz.prog f vs.toArray w0 R:=by
 refine en hf hb hn (by simpa using hN) rfl fun a F=>abw h F (Mm.start w0) fun B w1 e a l bs rs w cv F M hk=>?_
 have M:=cv _ _ _ M
 cases e with
 | normal=>exact Uu (Aq F M hk)
 | ret=>exact Aq F M hk
 | _=>exact hk.elim
def Em(p:aA):Value→World→Prop:=fun v w=>∃ c0 c1 c2 c3 c4 c5 c6 c7 c8 c9 aQ aL aK aP aO aN aM:Value,v=.agg #[c0,c1,c2,c3,c4,c5,c6,c7,c8,c9,aQ,aL,aK,aP,aO,aN,aM]∧aJ w c0 c1 c2 c3 c4 c5 c6 c7 c8 c9 aQ aL aK aP aO aN aM p
theorem Nx(p:aA):eG (Em p):=fun _ _ _ ⟨c0,c1,c2,c3,c4,c5,c6,c7,c8,c9,aQ,aL,aK,aP,aO,aN,aM,e,h⟩ hb=>⟨c0,c1,c2,c3,c4,c5,c6,c7,c8,c9,aQ,aL,aK,aP,aO,aN,aM,e,h.keep hb⟩
def XF(S:World→Prop)(c0 c1 c2 c3 c4 c5 c6 c7 c8 c9 aQ aL aK aP aO aN aM:Value)(p:aA):Prop:=∃ es:List (List Value),es.length=p.conds.length∧(∀ x∈es,x.length=10)∧∀ u,S u→aJ u c0 c1 c2 c3 c4 c5 c6 c7 c8 c9 aQ aL aK aP aO aN aM p∧SliceAt u c8 10 p.conds.length es.flatten∧∀ (i:Nat) x y,es[i]?=some x→p.conds[i]?=some y→aZ u x y
theorem aJ.aeO{w0:World}{c0 c1 c2 c3 c4 c5 c6 c7 c8 c9 aQ aL aK aP aO aN aM:Value}{p:aA}(hp:aJ w0 c0 c1 c2 c3 c4 c5 c6 c7 c8 c9 aQ aL aK aP aO aN aM p):XF (fun u=>avZ w0.heap.size w0 u) c0 c1 c2 c3 c4 c5 c6 c7 c8 c9 aQ aL aK aP aO aN aM p:=by
 obtain⟨es,h1,h2,h3,h4⟩:=hp.conds;exact⟨es,h1,h2,fun u hu=>⟨hp.keep hu,h3.keep hu,fun i x y hx hy=>aZ.keep hu (h4 i x y hx hy)⟩⟩
def XG(S:World→Prop)(w0:World)(q:aA):Value→World→Prop:=fun v w=>∃ (c0 c1 c2 c3 c4 c5 c6 c7 c8 c9 aQ aL aK aP aO aN aM:Value) (T:List Rw),v=.agg #[c0,c1,c2,c3,c4,c5,c6,c7,c8,c9,aQ,aL,aK,aP,aO,aN,aM]∧RowsIn w0.heap.size w T∧XF (fun u=>S u∧∃ B,RowsIn B u T) c0 c1 c2 c3 c4 c5 c6 c7 c8 c9 aQ aL aK aP aO aN aM q
theorem XG.o{S:World→Prop}{w0 w:World}{q:aA}{v:Value}(h:XG S w0 q v w)(hS:S w):Em q v w:=by
 obtain⟨c0,c1,c2,c3,c4,c5,c6,c7,c8,c9,aQ,aL,aK,aP,aO,aN,aM,T,e,hT,es,-,-,hP⟩:=h;exact⟨c0,c1,c2,c3,c4,c5,c6,c7,c8,c9,aQ,aL,aK,aP,aO,aN,aM,e,(hP w ⟨hS,_,hT⟩).1⟩
theorem aV.vQ{B:Nat}{w0 w:World}{g e k:Nat}{bs:List Bx}{rs:List Rw}(M:aV B w0 w ((g,e,#[])::bs) rs)(ht:Nat.blt e 9000=true:=by rfl):aV B w0 w bs (⟨.slice (some ⟨g,0,none⟩) 0 0,e,k,0,[]⟩::rs):=by
 have M':=M.only (.cons _ (.refl _)) (.refl _);refine M'.DH ⟨by simp,.inr ⟨g,0,#[],rfl,M.lo _ (av9 ..),M.b 0 rfl ht,Nat.le_refl _,avX _,by simp,by simp⟩⟩ (fun b hb e=>?_) fun s hs=>.inr fun e=>M.far s hs _ (av9 ..) e.symm
 have h:=(List.nodup_cons.1 M.nd).1;have e:g=b.1:=avR e;exact h (e▸awe.2 ⟨b,hb,rfl⟩)
theorem Sl(w0:World)(v:Value)(l:List Int)(h:SliceAt w0 v 1 l.length (l.flatMap anyI))(x:Int):Calls Tryz.prog 83 #[v,.int .i64 x] w0 (fun(r:Ending) (w':World)=>r=.returned (.bool (l.contains x))∧avZ w0.heap.size w0 w'):=by
 obtain⟨_,_,rfl,-,hm5,-⟩:=SliceAt.form h (by decide);refine bP [] (fn:=Tryz.f83) Tryz.func83 rfl Tryz.ntmps83 rfl<|lr (ι:=Nat) (fun m=>[(5,.int .i64 (m:Int))]) (fun m _=>m≤l.length∧∀ j z,j<m→l[j]?=some z→x≠z) (fun m=>l.length-m) 0 (an ⟨⟨rfl,trivial⟩,fun M=>⟨M,avX _,fun j z h=>absurd h (Nat.not_lt_zero j)⟩⟩ ?_);intro m w M ⟨hm,hne⟩;refine an (fun h1=>?_) fun h1 M=>⟨rb ?_,M.below⟩
 ·have hlt:m<l.length:=by simp at h1;omega
  obtain⟨y,hy⟩:∃ y,l[m]?=some y:=⟨_,av2 hlt⟩;obtain⟨b,o,e,hc⟩:=SliceAt.elt h (fun _=>rfl) (by decide) hy hlt;refine ia<|an ⟨e,rfl,hlt⟩<|lc (x:=.int .i64 y)<|an (bY M.below hc 0 _ rfl)<|an (fun h2 M=>⟨rb ?_,M.below⟩) fun h2=>an (by omega)<|bk (m+1) ⟨rfl,trivial⟩ (fun M=>⟨M,by omega,Kc hy hne fun e=>by simp[e] at h2⟩) (by dsimp only;omega)
  have e2:y=x:=by simpa using h2
  subst e2;simpa using av7 hy
 ·rw[← P0,← P4 (show m=l.length by simp at h1;omega) hne];rfl
theorem yX(S:World→Prop)(w0:World)(c0 c1 c2 c3 c4 c5 c6 c7 c8 c9 aQ aL aK aP aO aN aM:Value)(p:aA)(hS:XF S c0 c1 c2 c3 c4 c5 c6 c7 c8 c9 aQ aL aK aP aO aN aM p)(h0:S w0)(hsR:p.rules.length≤1000)(lv:Value)(o:List Int)(hlv:SliceAt w0 lv 1 o.length (o.flatMap anyI)):Calls Tryz.prog 31 #[.agg #[c0,c1,c2,c3,c4,c5,c6,c7,c8,c9,aQ,aL,aK,aP,aO,aN,aM],lv] w0 (fun(r:Ending) (w':World)=>∃ v,r=.returned v∧(XG S w0 (sO p o) v w'∧avZ w0.heap.size w0 w')):=by
 obtain⟨es,vJ,he2,hK⟩:=hS;have hp:=(hK w0 h0).1;obtain⟨_,_,-,-,hmR,-⟩:=SliceAt.form hp.rules (by decide);obtain⟨a0,a1,a2,a3,a4,a5,a6,a7,a8,a9,TV,OG,a12,XE,OE,OD,OC,k0,k1,k2,k3,k4,k5,k6,k7,k8,k9,k10,k11,k12,k13,k14,k15,k16,rfl,rfl,rfl,rfl,rfl,rfl,rfl,rfl,rfl,rfl,rfl,rfl,rfl,rfl,rfl,rfl,rfl⟩:=hp.open;refine bP [] (fn:=Tryz.f31) Tryz.func31 rfl Tryz.ntmps31 rfl<|fun g1 w1 M1=>ei<|an kE fun g2 w2 M2=>lb 1<|an rfl<|ei<|an kE fun g3 w3 M3=>lb 0<|an ⟨rfl,rfl⟩ fun w4 M4=>lb 0<|an ⟨rfl,rfl⟩ fun w5 M5=>lp (ι:=Nat×Value) (fun(k,v)=>[(6,.int .i64 (k:Int))]) (fun(k,v)=>(g3,39,#[.slice a0 p.classes.length k0,.slice a1 p.types.length k1,.slice a2 p.attrs.length k2,.slice a3 p.roles.length k3,.slice a4 p.users.length k4,.slice a5 p.bools.length k5,.slice a6 p.aW.length k6,.slice a7 p.cats.length k7,.slice a8 p.conds.length k8,v,.slice TV p.trans.length k10,.slice OG p.aS.length k11,.slice a12 p.ranges.length k12,.slice XE p.cons.length k13,.slice OE p.bL.length k14,.slice OD p.files.length k15,.slice OC p.asserts.length k16])::_) (fun(k,v)=>⟨v,56,13,(nH p.rules o k).length,(nH p.rules o k).flatMap aj.cells⟩::_) (fun(k,v) _=>k≤p.rules.length) (fun(k,v)=>p.rules.length-k) (0,.slice none 0 0) (an ⟨⟨rfl,trivial⟩,fun M=>⟨M.bB 56 13,avX _⟩⟩ ?_)
 rintro⟨k,v⟩ w M hk;refine lb 2<|an rfl<|an (fun h=>?_) fun h=>?_
 ·have hlt:k<p.rules.length:=by simp at h;omega
  obtain⟨y,hy⟩:∃ y,p.rules[k]?=some y:=⟨_,av2 hlt⟩;obtain⟨b,of,e,hc⟩:=SliceAt.elt hp.rules (fun _=>rfl) (by decide) hy hlt;have hsl:=tG (l:=p.rules) (o:=o) k;refine cl<|an (Sl _ lv o (hlv.keep M.below) k) fun w6 M6=>an (fun hq=>?_) fun hq=>?_
  ·refine dr (by kernel_rfl)<|lb 0<|an rfl<|lb 2<|an rfl<|ia<|an ⟨e,rfl,hlt⟩<|lc<|an (bY M6.below hc)<|.inl<|fun g4 w7 XR M7=>Ej 0 id rfl (M7.slice 0 rfl (k:=13) (n:=1) rfl rfl (by simp[maxLen])) ⟨by unfold maxLen;omega,by omega⟩ fun va vc w8 M8=>?_
   exact lb 1<|an ⟨rfl,rfl⟩ fun w9 M9=>an (by omega)<|bk (k+1,.slice va ((nH p.rules o k).length+1) vc) ⟨rfl,trivial⟩ (fun M=>⟨(M.only (.cons _ (.refl _)) (.refl _)).cast rfl (Ur hy (by simpa using hq)),by dsimp only;omega⟩) (by dsimp only;omega)
  ·exact an (by omega)<|bk (k+1,v) ⟨rfl,trivial⟩ (fun M=>⟨M.cast rfl (by dsimp only;rw[Z5 (by simpa using hq)]),by dsimp only;omega⟩) (by dsimp only;omega)
 obtain rfl:k=p.rules.length:=by simp at h;omega
 obtain⟨xa9,xc9,rfl⟩:=M.form 0 rfl;exact lb 0<|an rfl<|lb 1<|an ⟨rfl,rfl⟩ fun w M=>ei (x:=1)<|an rfl fun M=>⟨_,rfl,⟨_,_,_,_,_,_,_,_,_,_,_,_,_,_,_,_,_,_,rfl,M.bC,es,vJ,he2,fun u ⟨hu,B,hT⟩=>⟨{ (hK u hu).1 with rules:=SliceAt.bq (hT.1 _ (av9 ..)) (dA fun _=>rfl) },(hK u hu).2⟩⟩,M.below⟩
theorem DY(w0:World)(c0 c1 c2 c3 c4 c5 c6 c7 c8 c9 aQ aL aK aP aO aN aM:Value)(p:aA)(hp:aJ w0 c0 c1 c2 c3 c4 c5 c6 c7 c8 c9 aQ aL aK aP aO aN aM p)(hsR:p.rules.length≤1000)(lv:Value)(o:List Int)(hlv:SliceAt w0 lv 1 o.length (o.flatMap anyI)):Calls Tryz.prog 31 #[.agg #[c0,c1,c2,c3,c4,c5,c6,c7,c8,c9,aQ,aL,aK,aP,aO,aN,aM],lv] w0 (fun(r:Ending) (w':World)=>∃ v,r=.returned v∧(Em (sO p o) v w'∧avZ w0.heap.size w0 w')):=
 (yX _ w0 _ _ _ _ _ _ _ _ _ _ _ _ _ _ _ _ _ p hp.aeO (avZ.refl _ _) hsR lv o hlv).mono fun _ _ ⟨v,e,h1,h2⟩=>⟨v,e,h1.o h2,h2⟩
inductive eA (n:Nat):ak→Prop
 | bool {a rel b:Int} {ns:List ByteArray} {s:ay}:0≤a→a<n→eA n (.node 1 a rel b ns s [])
 | not {a rel b:Int} {ns:List ByteArray} {s:ay} {k:ak}:eA n k→eA n (.node 2 a rel b ns s [k])
 | bin {op a rel b:Int} {ns:List ByteArray} {s:ay} {k l:ak}:3≤op→op≤7→eA n k→eA n l→eA n (.node op a rel b ns s [k,l])
theorem Xj{n i:Nat}{a:Int}(h0:0≤a)(h1:a<n):XZ (Aa n (oH n i)) a=i.testBit a.toNat:=by
 have ha:a.toNat<n:=by omega
 unfold XZ Aa oH;rw[decide_eq_true h0,Bool.true_and,awh,List.getElem?_range ha];simp only[Option.map_some,Option.getD_some];unfold XZ;rw[decide_eq_true (Int.natCast_nonneg _),Bool.true_and,Int.toNat_natCast,awh,List.getElem?_range ha];rfl
theorem Uz{n i:Nat}{e:ak}(h:eA n e):gB (Aa n (oH n i)) e=jH n i e:=by
 induction h with
 | @bool a rel b ns s h0 h1=>
  rw[oh,nV];show lP _ 1 a []=D9 n i 1 a []
  have hb:dG n 1 a 0=false:=by
   have:¬ a<0:=by omega
   have h2:¬ (n:Int)≤a:=by omega
   simp[dG,qM,this,h2]
  unfold lP D9;rw[if_pos rfl,List.length_nil,hb,if_neg (by decide),if_pos rfl,Xj h0 h1]
 | @not a rel b ns s k hk ih=>
  rw[oh,nV];show lP _ 2 a [gB _ k]=D9 n i 2 a [jH n i k];rw[ih];have hb:dG n 2 a 1=false:=by simp[dG,qM]
  unfold lP D9;simp[hb]
 | @bin op a rel b ns s k l h3 h7 hk hl ihk ihl=>
  rw[oh,nV];show lP _ op a [gB _ k,gB _ l]=D9 n i op a [jH n i k,jH n i l];rw[ihk,ihl]
  have hb:dG n op a 2=false:=by
   have h1:¬ op=1:=by omega
   have h2:¬ op=2:=by omega
   simp[dG,qM,h1,h2]
  unfold lP D9;have e:op=3∨op=4∨op=5∨op=6∨op=7:=by omega
  generalize jH n i k=x;generalize jH n i l=y;rcases e with rfl|rfl|rfl|rfl|rfl<;>simp[hb]<;>cases x<;>cases y<;>rfl
theorem aah{n i:Nat}{conds:List ak}(hc:∀ e∈conds,eA n e){k:Int}(hk:-(conds.length:Int)≤k∧k≤conds.length):lX n conds (oH n i) k=Aw n conds k i:=by
 have get:∀ m,m<conds.length→((kL n conds (oH n i))[m]?).getD false=match conds[m]? with|some e=>jH n i e|none=>false:=fun m hm=>by
  obtain⟨e,he⟩:∃ e,conds[m]?=some e:=⟨_,av2 hm⟩;rw[he];unfold kL;rw[awh,he];exact Uz (hc e (av7 he))
 unfold lX Aw;by_cases h1:0<k∧k≤conds.length
 ·rw[if_pos h1,if_pos h1,get _ (by omega)];cases conds[(k-1).toNat]?<;>rfl
 ·rw[if_neg h1,if_neg h1];by_cases h2:k<0∧0-(conds.length:Int)≤k
  ·rw[if_pos h2,if_pos h2,get _ (by omega)];cases conds[(0-k-1).toNat]?<;>rfl
  ·rw[if_neg h2,if_neg h2,decide_eq_true (by omega)]
theorem vM{T C:Nat}{f g:aj→Bool}:∀ (l:List aj) (out:List Int),(∀ r∈l,f r=g r)→dV T C f out l=dV T C g out l
 | [],_,_=>rfl
 | r::l,out,h=>by
  unfold dV;rw[List.foldl_cons,List.foldl_cons,h r (av9 ..)];exact vM l _ fun x hx=>h x (av8 _ hx)
structure fT (p:aA):Prop where
 bools:p.bools.length≤5
 rv:∀ r∈p.rules,RV p.types.length p.classes.length r
 four:∀ r∈p.rules,r.kind=4→r.cond=0
 conds:∀ e∈p.conds,eA p.bools.length e
 ny:∀ r∈p.rules,-(p.conds.length:Int)≤r.cond∧r.cond≤p.conds.length
 nw:∀ y∈p.trans,-(p.conds.length:Int)≤y.cond∧y.cond≤p.conds.length
theorem FZ{p:aA}(h:fT p)(i:Nat):Ca p i=bU p.types.length p.classes.length (fun r=>Aw p.bools.length p.conds r.cond i) p.rules:=
 vM _ _ fun r hr=>aah h.conds (h.ny r hr)
theorem Vy{p q:aA}(hp:fT p)(hq:fT q)(hT:p.types.length=q.types.length)(hC:p.classes.length=q.classes.length)(hB:p.bools.length=q.bools.length):fB p=fB q↔(vE (eZ p) (eZ q)=true∧vE (eZ q) (eZ p)=true):=by
 have h:=Vz (T:=p.types.length) (C:=p.classes.length) hp.bools (ca:=p.conds) (cb:=q.conds) hp.rv (hT▸hC▸hq.rv) hp.four hq.four;have e1:rlM p.bools.length p.conds p.rules=eZ p:=rfl;have e2:rlM p.bools.length q.conds q.rules=eZ q:=by rw[hB];rfl
 rw[e1,e2] at h;rw[← h];unfold fB;rw[← hB,List.map_inj_left];refine forall_congr' fun i=>?_
 rw[List.mem_range,FZ hp,FZ hq,← hT,← hC,← hB]
theorem Ku{α β:Type}{f g:α→Option β}:∀ (l:List α),(∀ x∈l,f x=g x)→l.filterMap f=l.filterMap g
 | [],_=>rfl
 | x::l,h=>by rw[List.filterMap_cons,List.filterMap_cons,h x (av9 ..),Ku l fun y hy=>h y (av8 _ hy)]
end Go.Proofs.YtdcofoaihmongaaGreat

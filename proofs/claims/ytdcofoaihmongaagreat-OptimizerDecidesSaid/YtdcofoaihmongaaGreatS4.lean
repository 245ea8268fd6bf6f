import Derived.Ground.Names2Prog
import Derived.Shelf.Slices.CompactS
import Derived.Shelf.Slices.In.SortNone
import Derived.Shelf.Sort.Plain
import Derived.Sort.OwnSorted
import Derived.Test.YtdcofoaihmongaaGreatS3
open Bool renaming and_eq_true→asY
open Go renaming wp_seq_k→asE,wpList_nil→asF,wp_block→asG,wp_cond_split→asH,wp_cond_false→asI
open Go.RowKit renaming Below→asK
open List renaming mem_singleton→asB,mem_append→asL,mem_cons→asM,getElem?_eq_getElem→asN,getElem?_eq_some_iff→asO,getElem?_append_left→asP,length_append→asQ,getElem?_append_right→asR,mem_of_getElem?→asS,mem_cons_of_mem→asT,mem_cons_self→asU,filterMap_append→asV,flatMap_append→asW,take_length→asX,length_map→asZ,mem_map→as0,getElem?_map→as1
open Nat renaming lt_of_lt_of_le→asA,le_trans→asC,zero_le→asJ
open Option.some renaming inj→asD
set_option maxRecDepth 100000
set_option maxHeartbeats 8000000
namespace Go.Proofs.YtdcofoaihmongaaGreat
open Go Go.RowKit
theorem aV.Na{w0 w w':World}{bs:List Bx}{rs:List Rw}{mb:Nat}(M:aV w0.heap.size w0 w bs rs)(hlt:mb<w0.heap.size)(hg:w.grownBy w' (some mb))(adf:∀ g cs,Whole w' g 52 cs→g≠mb):
 ∃ wa:World,St [mb] w0 wa∧wa.heap[mb]?=w'.heap[mb]?∧aV wa.heap.size wa w' bs rs:=by
 have af2:mb<w.heap.size:=asA hlt M.below.size;have TR:mb<w'.heap.size:=asA af2 hg.size;have hS:=St.grown (X:=[mb]) hg (asB.2 rfl)
 obtain⟨wa,ho,ht,hp,e1,e2,e3⟩:∃ wa:World,wa.os=w0.os∧wa.tape=w0.tape∧wa.output=w0.output∧wa.heap.size=w0.heap.size∧(∀ k,k≠mb→wa.heap[k]?=w0.heap[k]?)∧wa.heap[mb]?=w'.heap[mb]?:=
  ⟨{ w0 with heap:=w0.heap.setIfInBounds mb (w'.heap[mb]'TR) },rfl,rfl,rfl,Array.size_setIfInBounds ..,fun k hk=>Array.getElem?_setIfInBounds_ne (Ne.symm hk),by
   show(w0.heap.setIfInBounds mb (w'.heap[mb]'TR))[mb]?=_;rw[Array.getElem?_setIfInBounds_self_of_lt hlt,Array.getElem?_eq_getElem TR]⟩
 refine⟨wa,⟨ho,ht,hp,Nat.le_of_eq e1.symm,fun k _ hx=>e2 k (by simpa using hx)⟩,e3,?_⟩;refine⟨⟨hS.os.trans (M.below.os.trans ho.symm),hS.tape.trans (M.below.tape.trans ht.symm),hS.output.trans (M.below.output.trans hp.symm),by rw[e1];exact asC M.below.size hS.size,fun k hk=>?_⟩,Nat.le_refl _,fun g cs h=>?_,fun b hb=>?_,fun b hb=>by rw[e1];exact M.lo b hb,M.nd,fun r hr=>?_,M.far,M.vH⟩
 ·by_cases hkm:k=mb
  ·subst hkm;exact e3.symm
  ·rw[e1] at hk;rw[e2 k hkm,hS.block k (asA hk M.below.size) (by simpa using hkm),M.below.block k hk]
 ·have hne:g≠mb:=fun e=>by
   subst e;have h':wa.heap[g]?=some (.cells cs 52 (0,0)):=h;rw[e3] at h';exact adf g cs h' rfl
  have h0:Whole w0 g 52 cs:=by
   have h':wa.heap[g]?=some (.cells cs 52 (0,0)):=h;rw[e2 g hne] at h';exact h'
  exact hS.whole (M.old g cs h0) (by simpa using hne)
 ·exact(M.box b hb).kept (hS.block _ (M.box b hb).lt fun hm=>by
   have:=M.lo b hb;rw[asB.1 hm] at this;omega)
 ·rw[e1]
  exact hS.own (M.row r hr) fun q hq e=>by
   rw[asB.1 hq] at e;have:=((M.row r hr).lt _ e).1;omega
section
variable {ops:Array Oper} {Q:Exit→Act→World→Prop} {rest:List Oper} {a:Act} {w w0:World} {o:Oper} {bs:List Bx} {rs:List Rw} {mb:Nat} {L:List (Int×Value)}
theorem kpo(hg:o.guard=none)(hd:o.dst=none){t e:TypeId}{m x y:Operand}{v:Value}{k:Int}(ho:o.op=.mapUpdate t m x y)(ht:Tryz.prog.underlying t=some (.map 3 e))(hm:a.eval m=.map (some mb))(hx:a.eval x=.int .i64 k)(hy:a.eval y=v)(hk:iU k)(M:aV w0.heap.size w0 w bs rs)(hM:aL w0 Tryz.prog 3 mb (L.map ival))
 (next:∀ wa w',St [mb] w0 wa→aL wa Tryz.prog 3 mb (((k,v)::gB L k).map ival)→aV wa.heap.size wa w' bs rs→wpList Tryz.prog ops Q rest a w'):wpList Tryz.prog ops Q (o::rest) a w:=
 kmu hg hd ho hm hx hy (aL.Sr ht (hM.kept (M.below.block _ hM.lt)) hk v) fun w' ⟨LP,hg'⟩=>by
  obtain⟨wa,hS,e3,M'⟩:=M.Na hM.lt hg' fun g cs h=>fZ h LP
  exact next wa w' hS (LP.kept e3) M'
theorem aL.ahu{t e ty:TypeId}(ht:Tryz.prog.underlying t=some (.map 3 e))(hM:aL w Tryz.prog 3 mb (L.map ival)){k:Int}(hk:iU k)(hin:(jt L k).isSome=true):
 ∃ w',(Builtin.delete_ #[t,3] ty #[.map (some mb),.int .i64 k]).run Tryz.prog w=.ok (.tuple #[]) w'∧(aL w' Tryz.prog 3 mb ((gB L k).map ival)∧w.grownBy w' (some mb)):=by
 obtain⟨l,hl⟩:=WH hk;obtain⟨u,hf⟩:=Option.isSome_iff_exists.1 hin;obtain⟨w',hw,LP,hg,-⟩:=hM.del (ty:=ty) (key:=.int .i64 k) (old:=u) (R:=(gB L k).map ival) vX ht hl ((wE hM.KY hf).map ival);exact⟨w',hw,LP,hg⟩
theorem kdo(hg:o.guard=none)(hd:o.dst=none){t e:TypeId}{m x:Operand}{k:Int}(ho:o.op=.call { callee:=.builtin .delete,args:=#[m,x],argTypes:=#[t,3] })(ht:Tryz.prog.underlying t=some (.map 3 e))(hm:a.eval m=.map (some mb))(hx:a.eval x=.int .i64 k)(hk:iU k)(M:aV w0.heap.size w0 w bs rs)(hM:aL w0 Tryz.prog 3 mb (L.map ival))(hin:(jt L k).isSome=true)
 (next:∀ wa w',St [mb] w0 wa→aL wa Tryz.prog 3 mb ((gB L k).map ival)→aV wa.heap.size wa w' bs rs→wpList Tryz.prog ops Q rest a w'):wpList Tryz.prog ops Q (o::rest) a w:=
 rC w hg m x t 3 ho _ _ hm hx _ (aL.ahu ht (hM.kept (M.below.block _ hM.lt)) hk hin) fun w' ⟨LP,hg'⟩=>by
  rw[hd];obtain⟨wa,hS,e3,M'⟩:=M.Na hM.lt hg' fun g cs h=>fZ h LP
  exact next wa w' hS (LP.kept e3) M'
theorem qp{t e:TypeId}{m x:Operand}{z:Value}{k:Int}(ht:Tryz.prog.underlying t=some (.map 3 e))(hz:(zeroValue e).run Tryz.prog w=.ok z w)(hM:aL w Tryz.prog 3 mb (L.map ival))(ho:o.op=.lookup t m x false)(hm:a.eval m=.map (some mb))(hx:a.eval x=.int .i64 k)(hk:iU k):
 (execOp a.eval o).run Tryz.prog w=.ok (.value ((jt L k).getD z)) w:=by
 have hl:=aL.Tf ht hz hM hk false;unfold execOp;simp[ho,hm,hx,hl]
end
def rval(r:aj):Value:=.agg r.cells.toArray
def CG(f:Nat→Option aj)(L:List (Int×Value)):Prop:=∀ k:Nat,jt L (k:Int)=(f k).map rval
section
variable {f:Nat→Option aj} {L:List (Int×Value)} {m:Nat} {r:aj}
theorem CG.put(h:CG f L):CG (jQ f m (some r)) (((m:Int),rval r)::gB L (m:Int)):=fun k=>by
 rw[zj];unfold jQ;by_cases e:k=m
 ·subst e;simp
 ·rw[if_neg (by omega),if_neg e,h k]
theorem CG.cut(h:CG f L):CG (jQ f m none) (gB L (m:Int)):=fun k=>by
 rw[Es];unfold jQ;by_cases e:k=m
 ·subst e;simp
 ·rw[if_neg (by omega),if_neg e,h k]
theorem CG.yes(h:CG f L){k:Nat}(e:f k=some r):jt L (k:Int)=some (rval r):=by rw[h k,e];rfl
theorem CG.no(h:CG f L){k:Nat}(e:f k=none):jt L (k:Int)=none:=by rw[h k,e];rfl
end
theorem Im{x:Option Value}{v z:Value}(h:x=some v):x.getD z=v:=by rw[h];rfl
theorem G9{x y:ay}(hx:x.Ok)(hy:y.Ok):(x.or y).Ok:=⟨Nat.or_lt_two_pow (n:=64) hx.a hy.a,Nat.or_lt_two_pow (n:=64) hx.b hy.b,Nat.or_lt_two_pow (n:=64) hx.c hy.c,Nat.or_lt_two_pow (n:=64) hx.d hy.d⟩
theorem NX{a b c:aj}(ha:a.Ok)(hb:b.Ok)(h:aF a b=some c):c.Ok:=by
 unfold aF at h;split at h
 ·cases h
 ·split at h
  ·obtain rfl:=asD h;exact⟨ha.src,ha.tgt⟩
  ·split at h
   ·obtain rfl:=asD h;exact⟨ha.src,G9 ha.tgt hb.tgt⟩
   ·split at h
    ·obtain rfl:=asD h;exact⟨G9 ha.src hb.src,ha.tgt⟩
    ·cases h
def Rx(f:Nat→Option aj):Prop:=∀ k r,f k=some r→r.Ok
theorem Rx.set{f:Nat→Option aj}(h:Rx f){m:Nat}{v:Option aj}(hv:∀ r,v=some r→r.Ok):Rx (jQ f m v):=fun k r e=>by
 unfold jQ at e;split at e
 ·exact hv r e
 ·exact h k r e
def F8(f f':Nat→Option aj)(i n:Nat)(t:Bool):Prop:=
 (t=false∧f'=f∧∀ a,f i=some a→∀ k y,i<k→k<n→f k=some y→aF a y=none) ∨
 (t=true∧∃ k a b c,i<k∧k<n∧f i=some a∧f k=some b∧aF a b=some c∧(∀ j y,i<j→j<k→f j=some y→aF a y=none)∧f'=jQ (jQ f i (some c)) k none)
theorem Ev{α:Type}{x:Option α}{v:α}(h:x=some v):x.isSome=true:=by rw[h];rfl
theorem NM{f:Nat→Option aj}{a:aj}{i k:Nat}(h:∀ j y,i<j→j<k→f j=some y→aF a y=none)(h2:∀ y,f k=some y→aF a y=none):∀ j y,i<j→j<k+1→f j=some y→aF a y=none:=fun j y h1 h3 h4=>by
 by_cases e:j=k
 ·subst e;exact h2 y h4
 ·exact h j y h1 (by omega) h4
structure Vs (f f':Nat→Option aj) (n t0 t:Nat):Prop where
 le:t≤t0
 some_:(f' t).isSome=true
 np:NP aF f' n t n
 nf:Co aF (seg f' 0 n)=Co aF (seg f 0 n)
 len:(seg f' 0 n).length≤(seg f 0 n).length
theorem Nj{f:Nat→Option aj}{h t:Nat}(hs:∀ j x y,j<h→f j=some x→f t=some y→aF x y=none)(h2:∀ x y,f h=some x→f t=some y→aF x y=none):∀ j x y,j<h+1→f j=some x→f t=some y→aF x y=none:=fun j x y h1 h3 h4=>by
 by_cases e:j=h
 ·subst e;exact h2 x y h3 h4
 ·exact hs j x y (by omega) h3 h4
theorem ZI{f:Nat→Option aj}{n h t:Nat}(ht:t≤h)(hp:NP aF f n t t)(hs:∀ j x y,j<h→f j=some x→f t=some y→aF x y=none):NP aF f n t n:=fun j x k y h1 h2 h3 h4 _ h6=>by
 by_cases e:k=t
 ·subst e;exact hs j x y (by omega) h2 h6
 ·exact hp j x k y h1 h2 h3 h4 e h6
theorem L4{f:Nat→Option aj}{n h t:Nat}{a b c:aj}(hlt:h<t)(ht:t<n)(ha:f h=some a)(hb:f t=some b)(hc:aF a b=some c)(hp:NP aF f n t t)(hs:∀ j x y,j<h→f j=some x→f t=some y→aF x y=none):
 NP aF (jQ (jQ f h (some c)) t none) n h h∧Co aF (seg (jQ (jQ f h (some c)) t none) 0 n)=Co aF (seg f 0 n)∧(seg (jQ (jQ f h (some c)) t none) 0 n).length≤(seg f 0 n).length:=by
 have hp':NP aF f n h n:=fun j x k y h1 h2 h3 h4 _ h6=>by
  by_cases e:k=t
  ·subst e;exact hs j x y h1 h2 h6
  ·exact hp j x k y (by omega) h2 h3 h4 e h6
 have h1:=G0 aF hlt ht ha hb hc hp' fun j y h1 h2 h3=>hp h a j y hlt ha h1 (by omega) (by omega) h3
 have h2:=mV aF h1;exact⟨NP.joined aF hp',(Hg aF h1).symm,by omega⟩
theorem PY(w0:World)(mb n:Nat)(hn:n≤1000)(L:List (Int×Value))(hM:aL w0 Tryz.prog 3 mb (L.map ival))(f:Nat→Option aj)(hRv:CG f L)(hfo:Rx f)(i:Nat)(hi:i<n)(qa:aj)(ha:f i=some qa):Calls Tryz.prog 84 #[.map (some mb),.int .i64 (i:Int),.int .i64 (n:Int)] w0 (fun(r:Ending) (w':World)=>∃ v,r=.returned v∧((∃ t L' f',v=.bool t∧aL w' Tryz.prog 3 mb (L'.map ival)∧CG f' L'∧Rx f'∧F8 f f' i n t)∧St [mb] w0 w')):=by
 have HS:=gJ [mb] _ _ (Below.refl w0.heap.size w0);have hla:=hRv.yes ha;have bS:=hr1 Tryz.prog Tryz.f84 (fun(r:Ending) (w':World)=>∃ v,r=.returned v∧((∃ t L' f',v=.bool t∧aL w' Tryz.prog 3 mb (L'.map ival)∧CG f' L'∧Rx f'∧F8 f f' i n t)∧St [mb] w0 w')) 41 6 rfl;refine en Tryz.func84 rfl Tryz.ntmps84 rfl (vs:=[(.map (some mb)),.int .i64 (i:Int),.int .i64 (n:Int)]) rfl fun _ F=>?_
 have M:=Mm.start w0;refine asE fun K1 jd=>ah<|xA (v:=.bool false) F rf rf rf fun _ F=>asF<|jd _ _ ?_
 refine asE fun K2 jy=>asE fun K3 qg=>ah<|xM F rf rf rf fun _ F=>
  ke (on rfl) (fS rfl (F.u rf) rfl) rfl F rfl (congrArg (Value.int .i64) (wrap_i64 (by omega))) fun _ F=>
  xA F rf rf rf fun _ F=>
  asF<|
  qg _ _ ?_
 refine asG<|?_;refine fH (ι:=Nat) (fun k a w=>Fs a 41 [(0,(.map (some mb))),(1,.int .i64 (i:Int)),(2,.int .i64 (n:Int)),(7,.int .i64 (k:Int))]∧Mm w0 w [] []∧(i<k∧k≤n)∧∀ j y,i<j→j<k→f j=some y→aF qa y=none) (fun k=>n-k) (i+1) ⟨F.sub ⟨rfl,rfl,rfl,rfl,trivial⟩,M,⟨by omega,by omega⟩,(fun j y h1 h2=>by omega)⟩ ?_
 (repeat clear F);(repeat clear M)
 rintro k _ _ ⟨F,M,hk,hno⟩;refine asE fun K4 qd=>asE fun K5 p7=>?_
 refine ah<|xM F rf rf rf fun _ F=>xM F rf rf rf fun _ F=>kz F rf (j5 rfl (F.u rf) (F.u rf)) fun _ F=>asF<|p7 _ _ ?_
 refine asH (F.e 16 rfl) (fun hc1=>?_) (fun hc1=>?_)
 ·have hd2:=of_decide_eq_true hc1;refine wp_skip<|qd _ _ ?_;refine asE fun K6 rM=>asG<|asE fun K7 uj=>?_
  cases xI:f k with
  | none=>
   have hlk:=hRv.no xI
   refine ah<|xM F rf rf rf fun _ F=>xM F rf rf rf fun _ F=>
    ke (on rfl) (uw (z:=.agg #[.int .i64 0,.int .u64 0,.int .u64 0,.int .u64 0,.int .u64 0,.int .u64 0,.int .u64 0,.int .u64 0,.int .u64 0,.bool false,.int .i64 0,.int .u32 0,.int .i64 0]) vo (by kernel_rfl) (hM.kept (M.below.block _ hM.lt)) rfl (F.u rf) (F.u rf) (by constructor<;>omega)) rfl F rfl (show _=.tuple #[.agg #[.int .i64 0,.int .u64 0,.int .u64 0,.int .u64 0,.int .u64 0,.int .u64 0,.int .u64 0,.int .u64 0,.int .u64 0,.bool false,.int .i64 0,.int .u32 0,.int .i64 0],.bool false] from oZ hlk) fun _ F=>
    xM F rf rf rf fun _ F=>
    kz F rf (bO rfl (F.u rf) rfl) fun _ F=>
    kz F rf (bO rfl (F.u rf) rfl) fun _ F=>
    Lq (on rfl) rfl oH rfl F rfl M fun g3 _ _ F M=>
    Lm (on rfl) rfl (F.u rf) (F.u rf) F M 0 rfl rS rfl rfl rfl fun _ M=>
    xA F rf rf rf fun _ F=>
    asF<|
    uj _ _ ?_
   refine asE fun K8 Bc=>asE fun K9 zx=>ah<|xM F rf rf rf fun _ F=>kz F rf (oD rfl (F.u rf)) fun _ F=>asF<|zx _ _ ?_
   refine wp_cond_true (F.e 26 rfl) ?_;refine wp_exit<|rM _ _ ?_
   refine ah<|xM F rf rf rf fun _ F=>
    ke (on rfl) (fS rfl (F.u rf) rfl) rfl F rfl (congrArg (Value.int .i64) (wrap_i64 (by omega))) fun _ F=>
    xA F rf rf rf fun _ F=>
    asF<|?_
   exact⟨k+1,⟨F.sub ⟨rfl,rfl,rfl,rfl,trivial⟩,(M.only (.cons _ .slnil) .slnil),by omega,NM (f:=f) (k:=k) hno (fun y hy=>by rw[xI] at hy;cases hy)⟩,by show n-(k+1)<n-k;omega⟩
  | some qb=>
   have hlk:=hRv.yes xI
   refine ah<|xM F rf rf rf fun _ F=>xM F rf rf rf fun _ F=>
    ke (on rfl) (uw (z:=.agg #[.int .i64 0,.int .u64 0,.int .u64 0,.int .u64 0,.int .u64 0,.int .u64 0,.int .u64 0,.int .u64 0,.int .u64 0,.bool false,.int .i64 0,.int .u32 0,.int .i64 0]) vo (by kernel_rfl) (hM.kept (M.below.block _ hM.lt)) rfl (F.u rf) (F.u rf) (by constructor<;>omega)) rfl F rfl (show _=.tuple #[.agg #[.int .i64 qb.kind,.int .u64 qb.src.a,.int .u64 qb.src.b,.int .u64 qb.src.c,.int .u64 qb.src.d,.int .u64 qb.tgt.a,.int .u64 qb.tgt.b,.int .u64 qb.tgt.c,.int .u64 qb.tgt.d,.bool qb.self,.int .i64 qb.cls,.int .u32 qb.perms,.int .i64 qb.cond],.bool true] from oW hlk) fun _ F=>
    xM F rf rf rf fun _ F=>
    kz F rf (bO rfl (F.u rf) rfl) fun _ F=>
    kz F rf (bO rfl (F.u rf) rfl) fun _ F=>
    Lq (on rfl) rfl oH rfl F rfl M fun g4 _ _ F M=>
    Lm (on rfl) rfl (F.u rf) (F.u rf) F M 0 rfl rS rfl rfl rfl fun _ M=>
    xA F rf rf rf fun _ F=>
    asF<|
    uj _ _ ?_
   refine asE fun VE mG=>asE fun K11 sE=>ah<|xM F rf rf rf fun _ F=>kz F rf (oD rfl (F.u rf)) fun _ F=>asF<|sE _ _ ?_
   refine asI (F.e 26 rfl) ?_;refine wp_skip<|mG _ _ ?_
   refine asE fun K12 sC=>ah<|xM F rf rf rf fun _ F=>xM F rf rf rf fun _ F=>
    ke (on rfl) (qp (z:=.agg #[.int .i64 0,.int .u64 0,.int .u64 0,.int .u64 0,.int .u64 0,.int .u64 0,.int .u64 0,.int .u64 0,.int .u64 0,.bool false,.int .i64 0,.int .u32 0,.int .i64 0]) vo (by kernel_rfl) (hM.kept (M.below.block _ hM.lt)) rfl (F.u rf) (F.u rf) (by constructor<;>omega)) rfl F rfl (show _=.agg #[.int .i64 qa.kind,.int .u64 qa.src.a,.int .u64 qa.src.b,.int .u64 qa.src.c,.int .u64 qa.src.d,.int .u64 qa.tgt.a,.int .u64 qa.tgt.b,.int .u64 qa.tgt.c,.int .u64 qa.tgt.d,.bool qa.self,.int .i64 qa.cls,.int .u32 qa.perms,.int .i64 qa.cond] from Im hla) fun _ F=>
    xW F (M.b 0 rfl) rf rf rf VT rf rS rf fun _ F=>
    xC F M rf rf acn (args2 (F.u rf) (F.u rf)) (HV _ qa qb (hfo _ _ ha) (hfo _ _ xI)) fun _ _ F M=>
    xM F rf rf rf fun _ F=>
    kz F rf (bO rfl (F.u rf) rfl) fun _ F=>
    kz F rf (bO rfl (F.u rf) rfl) fun _ F=>
    Lq (on rfl) rfl oH rfl F rfl M fun g5 _ _ F M=>
    Lm (on rfl) rfl (F.u rf) (F.u rf) F M 0 rfl rS rfl rfl rfl fun _ M=>
    xA F rf rf rf fun _ F=>
    asF<|
    sC _ _ ?_
   refine asE fun K13 ru=>ah<|xM F rf rf rf fun _ F=>asF<|ru _ _ ?_
   refine asH (F.e 35 rfl) (fun wj=>?_) (fun wj=>?_)
   ·obtain⟨qc,T3⟩:=Option.isSome_iff_exists.1 wj;refine asE fun K14 wk=>ah<|xM F rf rf rf fun _ F=>xM F rf rf rf fun _ F=>xW F (M.b 0 rfl) rf rf rf VT rf rS rf fun _ F=>kpo rfl rfl rfl vo (F.u rf) (F.u rf) (F.u rf) (by constructor<;>omega) M hM fun wa7 _ Rq hM M=>?_
    have HS:=fJ _ _ _ _ HS Rq;have hRv:=hRv.put (m:=i) (r:=(aF qa qb).getD qa);refine asF<|wk _ _ ?_;refine asE fun K15 um=>ah<|xM F rf rf rf fun _ F=>xM F rf rf rf fun _ F=>kdo rfl rfl rfl vo (F.u rf) (F.u rf) (by constructor<;>omega) M hM (Ev (hRv.yes (r:=qb) (by rw[eV _ _ (by omega)];exact xI))) fun wa8 _ Rq hM M=>?_
    have HS:=fJ _ _ _ _ HS Rq;have hRv:=hRv.cut (m:=k);refine asF<|um _ _ ?_;refine asE fun K16 EB=>ah<|xA (v:=.bool true) F rf rf rf fun _ F=>asF<|EB _ _ ?_
    refine wp_ret<|bS _ _ _ _ F rfl ?_;rw[show(aF qa qb).getD qa=qc by rw[T3];rfl] at hRv hM;exact⟨_,rfl,⟨true,_,_,rfl,(hM.kept (M.below.block _ hM.lt)),hRv,(hfo.set fun r e=>by cases e;exact NX (hfo _ _ ha) (hfo _ _ xI) T3).set (fun r e=>by cases e),.inr ⟨rfl,k,qa,qb,qc,hk.1,by omega,ha,xI,T3,hno,rfl⟩⟩,fJ _ _ _ _ HS (gJ _ _ _ M.below)⟩
   ·have hjn:aF qa qb=none:=by simpa using wj
    refine wp_skip<|rM _ _ ?_
    refine ah<|xM F rf rf rf fun _ F=>
     ke (on rfl) (fS rfl (F.u rf) rfl) rfl F rfl (congrArg (Value.int .i64) (wrap_i64 (by omega))) fun _ F=>
     xA F rf rf rf fun _ F=>
     asF<|?_
    exact⟨k+1,⟨F.sub ⟨rfl,rfl,rfl,rfl,trivial⟩,(M.only (.cons _ (.cons _ .slnil)) .slnil),by omega,NM (f:=f) (k:=k) hno (fun y hy=>by rw[xI] at hy;obtain rfl:=asD hy;exact hjn)⟩,by show n-(k+1)<n-k;omega⟩
 ·have hd9:=of_decide_eq_false hc1;refine wp_exit<|jy _ _ ?_;refine asE fun K17 Uq=>ah<|xA (v:=.bool false) F rf rf rf fun _ F=>asF<|Uq _ _ ?_
  refine wp_ret<|bS _ _ _ _ F rfl ?_
  exact⟨_,rfl,⟨false,_,f,rfl,(hM.kept (M.below.block _ hM.lt)),hRv,hfo,.inl ⟨rfl,rfl,fun a' ha' k' y h1 h2 h3=>by
   rw[ha] at ha';obtain rfl:=asD ha';exact hno k' y h1 (by omega) h3⟩⟩,fJ _ _ _ _ HS (gJ _ _ _ M.below)⟩
theorem IB(w0:World)(mb n:Nat)(hn:n≤1000)(L:List (Int×Value))(hM:aL w0 Tryz.prog 3 mb (L.map ival))(f:Nat→Option aj)(hRv:CG f L)(hfo:Rx f)(t0:Nat)(ht0:t0<n)(q0:aj)(ha:f t0=some q0)(hNP:NP aF f n t0 t0):Calls Tryz.prog 85 #[.map (some mb),.int .i64 (t0:Int)] w0 (fun(r:Ending) (w':World)=>∃ v,r=.returned v∧((∃ t L' f',v=.int .i64 ((t:Nat):Int)∧aL w' Tryz.prog 3 mb (L'.map ival)∧CG f' L'∧Rx f'∧Vs f f' n t0 t)∧St [mb] w0 w')):=by
 have HS:=gJ [mb] _ _ (Below.refl w0.heap.size w0);have bS:=hr1 Tryz.prog Tryz.f85 (fun(r:Ending) (w':World)=>∃ v,r=.returned v∧((∃ t L' f',v=.int .i64 ((t:Nat):Int)∧aL w' Tryz.prog 3 mb (L'.map ival)∧CG f' L'∧Rx f'∧Vs f f' n t0 t)∧St [mb] w0 w')) 39 4 rfl;refine en Tryz.func85 rfl Tryz.ntmps85 rfl (vs:=[(.map (some mb)),.int .i64 (t0:Int)]) rfl fun _ F=>?_
 have M:=Mm.start w0;refine asE fun K1 jd=>ah<|xA (v:=.int .i64 0) F rf rf rf fun _ F=>asF<|jd _ _ ?_
 refine asE fun K2 jy=>asE fun K3 qg=>ah<|xA (v:=.int .i64 0) F rf rf rf fun _ F=>asF<|qg _ _ ?_
 refine asG<|?_;refine fH (ι:=Nat×Nat×(Nat→Option aj)×List (Int×Value)×World) (fun|(hh,tt,ff,LL,wb),a,w=>Fs a 39 [(0,(.map (some mb))),(1,.int .i64 (tt:Int)),(5,.int .i64 (hh:Int))]∧Mm wb w [] []∧aL wb Tryz.prog 3 mb (LL.map ival)∧CG ff LL∧Rx ff∧St [mb] w0 wb∧tt<n∧tt≤t0∧hh≤tt∧(ff tt).isSome=true∧NP aF ff n tt tt∧(∀ j x y,j<hh→ff j=some x→ff tt=some y→aF x y=none)∧Co aF (seg ff 0 n)=Co aF (seg f 0 n)∧(seg ff 0 n).length≤(seg f 0 n).length) (fun|(hh,tt,ff,LL,wb)=>tt*(n+1)+(tt-hh)) (0,t0,f,L,w0) ⟨F.sub ⟨rfl,rfl,rfl,trivial⟩,M,hM,hRv,hfo,HS,ht0,Nat.le_refl _,asJ _,Ev ha,hNP,(fun j _ _ h=>absurd h (Nat.not_lt_zero j)),rfl,Nat.le_refl _⟩ ?_
 (repeat clear F);(repeat clear M)
 rintro⟨hh,tt,ff,LL,wb⟩ _ _ ⟨F,M,hM,hRv,hfo,HS,ht,hle,hh1,hta,hNP,hsc,hnf,hlen⟩;obtain⟨qt,hqt⟩:=Option.isSome_iff_exists.1 hta;refine asE fun K4 qd=>asE fun K5 p7=>ah<|xM F rf rf rf fun _ F=>xM F rf rf rf fun _ F=>kz F rf (j5 rfl (F.u rf) (F.u rf)) fun _ F=>asF<|p7 _ _ ?_
 refine asH (F.e 12 rfl) (fun hc1=>?_) (fun hc1=>?_)
 ·have hd2:=of_decide_eq_true hc1;refine wp_skip<|qd _ _ ?_;refine asE fun K6 rM=>asG<|asE fun K7 uj=>?_
  cases xI:ff hh with
  | none=>
   have hlk:=hRv.no xI
   refine ah<|xM F rf rf rf fun _ F=>xM F rf rf rf fun _ F=>
    ke (on rfl) (uw (z:=.agg #[.int .i64 0,.int .u64 0,.int .u64 0,.int .u64 0,.int .u64 0,.int .u64 0,.int .u64 0,.int .u64 0,.int .u64 0,.bool false,.int .i64 0,.int .u32 0,.int .i64 0]) vo (by kernel_rfl) (hM.kept (M.below.block _ hM.lt)) rfl (F.u rf) (F.u rf) (by constructor<;>omega)) rfl F rfl (show _=.tuple #[.agg #[.int .i64 0,.int .u64 0,.int .u64 0,.int .u64 0,.int .u64 0,.int .u64 0,.int .u64 0,.int .u64 0,.int .u64 0,.bool false,.int .i64 0,.int .u32 0,.int .i64 0],.bool false] from oZ hlk) fun _ F=>
    xM F rf rf rf fun _ F=>
    kz F rf (bO rfl (F.u rf) rfl) fun _ F=>
    kz F rf (bO rfl (F.u rf) rfl) fun _ F=>
    Lq (on rfl) rfl oH rfl F rfl M fun g3 _ _ F M=>
    Lm (on rfl) rfl (F.u rf) (F.u rf) F M 0 rfl rS rfl rfl rfl fun _ M=>
    xA F rf rf rf fun _ F=>
    asF<|
    uj _ _ ?_
   refine asE fun K8 Bc=>asE fun K9 zx=>ah<|xM F rf rf rf fun _ F=>kz F rf (oD rfl (F.u rf)) fun _ F=>asF<|zx _ _ ?_
   refine wp_cond_true (F.e 22 rfl) ?_;refine wp_exit<|rM _ _ ?_
   refine ah<|xM F rf rf rf fun _ F=>
    ke (on rfl) (fS rfl (F.u rf) rfl) rfl F rfl (congrArg (Value.int .i64) (wrap_i64 (by omega))) fun _ F=>
    xA F rf rf rf fun _ F=>
    asF<|?_
   exact⟨(hh+1,tt,ff,LL,wb),⟨F.sub ⟨rfl,rfl,rfl,trivial⟩,(M.only (.cons _ .slnil) .slnil),hM,hRv,hfo,HS,ht,hle,(by omega),hta,hNP,Nj hsc (fun x y hx _=>by rw[xI] at hx;cases hx),hnf,hlen⟩,by show tt*(n+1)+(tt-(hh+1))<tt*(n+1)+(tt-hh);omega⟩
  | some qa=>
   have hlk:=hRv.yes xI
   refine ah<|xM F rf rf rf fun _ F=>xM F rf rf rf fun _ F=>
    ke (on rfl) (uw (z:=.agg #[.int .i64 0,.int .u64 0,.int .u64 0,.int .u64 0,.int .u64 0,.int .u64 0,.int .u64 0,.int .u64 0,.int .u64 0,.bool false,.int .i64 0,.int .u32 0,.int .i64 0]) vo (by kernel_rfl) (hM.kept (M.below.block _ hM.lt)) rfl (F.u rf) (F.u rf) (by constructor<;>omega)) rfl F rfl (show _=.tuple #[.agg #[.int .i64 qa.kind,.int .u64 qa.src.a,.int .u64 qa.src.b,.int .u64 qa.src.c,.int .u64 qa.src.d,.int .u64 qa.tgt.a,.int .u64 qa.tgt.b,.int .u64 qa.tgt.c,.int .u64 qa.tgt.d,.bool qa.self,.int .i64 qa.cls,.int .u32 qa.perms,.int .i64 qa.cond],.bool true] from oW hlk) fun _ F=>
    xM F rf rf rf fun _ F=>
    kz F rf (bO rfl (F.u rf) rfl) fun _ F=>
    kz F rf (bO rfl (F.u rf) rfl) fun _ F=>
    Lq (on rfl) rfl oH rfl F rfl M fun g4 _ _ F M=>
    Lm (on rfl) rfl (F.u rf) (F.u rf) F M 0 rfl rS rfl rfl rfl fun _ M=>
    xA F rf rf rf fun _ F=>
    asF<|
    uj _ _ ?_
   refine asE fun VE mG=>asE fun K11 sE=>ah<|xM F rf rf rf fun _ F=>kz F rf (oD rfl (F.u rf)) fun _ F=>asF<|sE _ _ ?_
   refine asI (F.e 22 rfl) ?_;refine wp_skip<|mG _ _ ?_
   refine asE fun K12 sC=>ah<|xW F (M.b 0 rfl) rf rf rf VT rf rS rf fun _ F=>xM F rf rf rf fun _ F=>xM F rf rf rf fun _ F=>
    ke (on rfl) (qp (z:=.agg #[.int .i64 0,.int .u64 0,.int .u64 0,.int .u64 0,.int .u64 0,.int .u64 0,.int .u64 0,.int .u64 0,.int .u64 0,.bool false,.int .i64 0,.int .u32 0,.int .i64 0]) vo (by kernel_rfl) (hM.kept (M.below.block _ hM.lt)) rfl (F.u rf) (F.u rf) (by constructor<;>omega)) rfl F rfl (show _=.agg #[.int .i64 qt.kind,.int .u64 qt.src.a,.int .u64 qt.src.b,.int .u64 qt.src.c,.int .u64 qt.src.d,.int .u64 qt.tgt.a,.int .u64 qt.tgt.b,.int .u64 qt.tgt.c,.int .u64 qt.tgt.d,.bool qt.self,.int .i64 qt.cls,.int .u32 qt.perms,.int .i64 qt.cond] from Im (hRv.yes hqt)) fun _ F=>
    xC F M rf rf acn (args2 (F.u rf) (F.u rf)) (HV _ qa qt (hfo _ _ xI) (hfo _ _ hqt)) fun _ _ F M=>
    xM F rf rf rf fun _ F=>
    kz F rf (bO rfl (F.u rf) rfl) fun _ F=>
    kz F rf (bO rfl (F.u rf) rfl) fun _ F=>
    Lq (on rfl) rfl oH rfl F rfl M fun g5 _ _ F M=>
    Lm (on rfl) rfl (F.u rf) (F.u rf) F M 0 rfl rS rfl rfl rfl fun _ M=>
    xA F rf rf rf fun _ F=>
    asF<|
    sC _ _ ?_
   refine asE fun K13 ru=>ah<|xM F rf rf rf fun _ F=>asF<|ru _ _ ?_
   refine asH (F.e 31 rfl) (fun wj=>?_) (fun wj=>?_)
   ·obtain⟨qc,T3⟩:=Option.isSome_iff_exists.1 wj;refine asE fun K14 wk=>ah<|xM F rf rf rf fun _ F=>xM F rf rf rf fun _ F=>xW F (M.b 0 rfl) rf rf rf VT rf rS rf fun _ F=>kpo rfl rfl rfl vo (F.u rf) (F.u rf) (F.u rf) (by constructor<;>omega) M hM fun wa7 _ Rq hM M=>?_
    have HS:=fJ _ _ _ _ HS Rq;have hRv:=hRv.put (m:=hh) (r:=((aF qa qt).getD qa));refine asF<|wk _ _ ?_;refine asE fun K15 um=>ah<|xM F rf rf rf fun _ F=>xM F rf rf rf fun _ F=>kdo rfl rfl rfl vo (F.u rf) (F.u rf) (by constructor<;>omega) M hM (Ev (hRv.yes (r:=qt) (by rw[eV _ _ (by omega)];exact hqt))) fun wa8 _ Rq hM M=>?_
    have HS:=fJ _ _ _ _ HS Rq;have hRv:=hRv.cut (m:=tt);refine asF<|um _ _ ?_;refine ah<|xM F rf rf rf fun _ F=>xA F rf rf rf fun _ F=>xA (v:=.int .i64 (-1)) F rf rf rf fun _ F=>asF<|rM _ _ ?_
    refine ah<|xM F rf rf rf fun _ F=>
     ke (on rfl) (fS rfl (F.u rf) rfl) rfl F rfl (congrArg (Value.int .i64) (wrap_i64 (by omega))) fun _ F=>
     xA F rf rf rf fun _ F=>
     asF<|?_
    rw[show((aF qa qt).getD qa)=qc by rw[T3];rfl] at hRv hM;obtain⟨hE1,hE2,hE3⟩:=L4 (n:=n) (by omega) ht xI hqt T3 hNP hsc;have hE4:=Nat.mul_le_mul_right (n+1) (show hh+1≤tt by omega);rw[Nat.add_mul,Nat.one_mul] at hE4;exact⟨(0,hh,jQ (jQ ff hh (some qc)) tt none,_,wa8),⟨F.sub ⟨rfl,rfl,rfl,trivial⟩,(M.only (.cons _ (.cons _ .slnil)) .slnil),hM,hRv,((hfo.set fun r e=>by cases e;exact NX (hfo _ _ xI) (hfo _ _ hqt) T3).set fun r e=>by cases e),HS,by omega,by omega,asJ _,(by rw[eV _ _ (by omega),qJ];rfl),hE1,(fun j _ _ h=>absurd h (Nat.not_lt_zero j)),hE2.trans hnf,asC hE3 hlen⟩,by show hh*(n+1)+(hh-0)<tt*(n+1)+(tt-hh);omega⟩
   ·have hjn:aF qa qt=none:=by simpa using wj
    refine wp_skip<|rM _ _ ?_
    refine ah<|xM F rf rf rf fun _ F=>
     ke (on rfl) (fS rfl (F.u rf) rfl) rfl F rfl (congrArg (Value.int .i64) (wrap_i64 (by omega))) fun _ F=>
     xA F rf rf rf fun _ F=>
     asF<|?_
    exact⟨(hh+1,tt,ff,LL,wb),⟨F.sub ⟨rfl,rfl,rfl,trivial⟩,(M.only (.cons _ (.cons _ .slnil)) .slnil),hM,hRv,hfo,HS,ht,hle,(by omega),hta,hNP,Nj hsc (fun x y hx hy=>by rw[xI] at hx;rw[hqt] at hy;obtain rfl:=asD hx;obtain rfl:=asD hy;exact hjn),hnf,hlen⟩,by show tt*(n+1)+(tt-(hh+1))<tt*(n+1)+(tt-hh);omega⟩
 ·have hd9:=of_decide_eq_false hc1;refine wp_exit<|jy _ _ ?_;refine asE fun K16 EB=>ah<|xM F rf rf rf fun _ F=>xA F rf rf rf fun _ F=>asF<|EB _ _ ?_
  refine wp_ret<|bS _ _ _ _ F rfl ?_;exact⟨_,rfl,⟨tt,_,ff,rfl,(hM.kept (M.below.block _ hM.lt)),hRv,hfo,⟨hle,hta,ZI (by omega) hNP hsc,hnf,hlen⟩⟩,fJ _ _ _ _ HS (gJ _ _ _ M.below)⟩
def RowsIn(B:Nat)(w:World)(T:List Rw):Prop:=(∀ r∈T,w.ownsRow B r.e r.k r.v r.n r.xs)∧T.Pairwise fun r s=>r.v.ownBlock=none∨r.v.ownBlock≠s.v.ownBlock
theorem RowsIn.keep{B:Nat}{w w':World}{T:List Rw}(h:RowsIn B w T)(hb:asK w.heap.size w w'):RowsIn B w' T:=⟨fun r hr=>gL hb (h.1 r hr) (Nat.le_refl _),h.2⟩
theorem RowsIn.low{B C:Nat}{w:World}{T:List Rw}(h:RowsIn B w T)(hc:C≤B):RowsIn C w T:=⟨fun r hr=>tT (h.1 r hr) hc,h.2⟩
theorem RowsIn.nil(B:Nat)(w:World):RowsIn B w []:=⟨fun _ h=>(by cases h),.nil⟩
theorem aV.eB{B:Nat}{w0 w w':World}{bs:List Bx}{rs T:List Rw}(M:aV B w0 w bs rs)(hb:asK w.heap.size w w')(hT:RowsIn w.heap.size w' T):aV B w0 w' bs (rs++T):=by
 have M':=M.keep hb;refine⟨M'.below,M'.le,M'.old,M'.box,M.lo,M.nd,fun r hr=>?_,fun r hr b hb'=>?_,List.pairwise_append.2 ⟨M.vH,hT.2,fun r hr s hs=>?_⟩⟩
 ·rcases asL.1 hr with hr|hr
  ·exact M'.row r hr
  ·exact tT (hT.1 r hr) M.big
 ·rcases asL.1 hr with hr|hr
  ·exact M.far r hr b hb'
  ·intro e;have:=((hT.1 r hr).lt _ e).1;have:=(M.box b hb').lt;omega
 ·cases e:r.v.ownBlock with
  | none=>exact .inl rfl
  | some q=>
   refine .inr fun e2=>?_
   have h1:=((M.row r hr).lt q e).2;have h2:=((hT.1 s hs).lt q e2.symm).1;omega
theorem aV.fM{B:Nat}{w0 w:World}{bs:List Bx}{rs:List Rw}(M:aV B w0 w bs rs):RowsIn B w rs:=⟨M.row,M.vH⟩
theorem aV.form{B:Nat}{w0 w:World}{bs:List Bx}{rs:List Rw}(M:aV B w0 w bs rs)(i:Nat){v:Value}{e:TypeId}{k n:Nat}{xs:List Value}(h:rs[i]?=some ⟨v,e,k,n,xs⟩):∃ a c,v=.slice a n c:=by
 obtain⟨a,c,h,-⟩:=kR (M.r i h);exact⟨a,c,h⟩
inductive cI (T:List Rw):List Value→aq→Prop
 | node {op a rel b:Int} {names:List ByteArray} {set:ay} {kids:List aq} {nv kv:Value} {es:List (List Value)}:nv.oneCell'=true→kv.oneCell'=true→(⟨nv,9,1,names.length,names.flatMap aT⟩:Rw)∈T→(⟨kv,89,10,kids.length,es.flatten⟩:Rw)∈T→es.length=kids.length→(∀ x∈es,x.length=10) →
  (∀ (i:Nat) x y,es[i]?=some x→kids[i]?=some y→cI T x y) →
  cI T [.int .i64 op,.int .i64 a,.int .i64 rel,.int .i64 b,nv,.int .u64 set.a,.int .u64 set.b,.int .u64 set.c,.int .u64 set.d,kv] (.node op a rel b names set kids)
theorem cI.mono{T T':List Rw}(hs:∀ r∈T,r∈T'){cs:List Value}{e:aq}(h:cI T cs e):cI T' cs e:=by
 induction h with
 | node h1 h2 h3 h4 h5 h6 _ ih=>exact .node h1 h2 (hs _ h3) (hs _ h4) h5 h6 ih
theorem cI.one{T:List Rw}{cs:List Value}{e:aq}(h:cI T cs e):∀ u∈cs,u.oneCell'=true:=by
 cases h with
 | node h1 h2=>
  intro u hu;simp only[asM,List.not_mem_nil,or_false] at hu;rcases hu with rfl|rfl|rfl|rfl|rfl|rfl|rfl|rfl|rfl|rfl<;>first|rfl|assumption
theorem D7(l:List ByteArray):∀ u∈l.flatMap aT,u.oneCell'=true:=fun u hu=>by
 obtain⟨s,-,hs⟩:=List.mem_flatMap.1 hu;simp only[aT,asB] at hs;subst hs;rfl
theorem cI.at_{T:List Rw}{B:Nat}{w:World}(hT:RowsIn B w T){cs:List Value}{e:aq}(h:cI T cs e):bh w cs e:=by
 induction h with
 | @node op a rel b names set kids nv kv es h1 h2 h3 h4 h5 h6 hk ih=>
  refine .node (SliceAt.bR (hT.1 _ h3) (D7 _)) h5 h6 (SliceAt.bR (hT.1 _ h4) ?_) ih;intro u hu;obtain⟨x,hx,hux⟩:=List.mem_flatten.1 hu;obtain⟨i,hi⟩:=List.getElem?_of_mem hx;obtain⟨y,hy⟩:∃ y,kids[i]?=some y:=⟨_,asN (by have:=(asO.1 hi).1;rw[h5] at this;exact this)⟩;exact(hk i x y hi hy).one u hux
inductive lH:aq→Prop
 | node {op a rel b:Int} {names:List ByteArray} {set:ay} {kids:List aq}:names.length≤1000000→kids.length≤1000000→(∀ k∈kids,lH k)→lH (.node op a rel b names set kids)
theorem lH.parts{e:aq}(h:lH e):e.names.length≤1000000∧e.kids.length≤1000000∧∀ k∈e.kids,lH k:=by
 cases h with
 | node h1 h2 h3=>exact⟨h1,h2,h3⟩
def DJ(wb:World)(y:aq):Good:=fun v u=>∃ na nc ka kc T,v=.agg #[.int .i64 y.op,.int .i64 y.a,.int .i64 y.rel,.int .i64 y.b,.slice na y.names.length nc,.int .u64 y.set.a,.int .u64 y.set.b,.int .u64 y.set.c,.int .u64 y.set.d,.slice ka y.kids.length kc]∧cI T [.int .i64 y.op,.int .i64 y.a,.int .i64 y.rel,.int .i64 y.b,.slice na y.names.length nc,.int .u64 y.set.a,.int .u64 y.set.b,.int .u64 y.set.c,.int .u64 y.set.d,.slice ka y.kids.length kc] y∧RowsIn wb.heap.size u T
theorem Lk(wb:World)(y:aq):gN (DJ wb y):=fun _ _ _ ⟨na,nc,ka,kc,T,e,h,k⟩ hb=>⟨na,nc,ka,kc,T,e,h,k.keep hb⟩
def SlE(wb:World)(y:aq):Good:=fun v u=>∃ g na nc ka kc T,v=.slice (some ⟨g,0,none⟩) 1 1∧Whole u g 89 #[.int .i64 y.op,.int .i64 y.a,.int .i64 y.rel,.int .i64 y.b,.slice na y.names.length nc,.int .u64 y.set.a,.int .u64 y.set.b,.int .u64 y.set.c,.int .u64 y.set.d,.slice ka y.kids.length kc]∧cI T [.int .i64 y.op,.int .i64 y.a,.int .i64 y.rel,.int .i64 y.b,.slice na y.names.length nc,.int .u64 y.set.a,.int .u64 y.set.b,.int .u64 y.set.c,.int .u64 y.set.d,.slice ka y.kids.length kc] y∧RowsIn wb.heap.size u T
theorem PZ(wb:World)(y:aq):gN (SlE wb y):=fun _ _ _ ⟨g,na,nc,ka,kc,T,e,hw,h,k⟩ hb=>⟨g,na,nc,ka,kc,T,e,Whole.under hb hw hw.lt,h,k.keep hb⟩
theorem w_{w:World}{g:Nat}{t:TypeId}{cs:List Value}{k:Nat}(h:Whole w g t cs.toArray)(hl:cs.length=k)(h1:∀ u∈cs,u.oneCell'=true):SliceAt w (.slice (some ⟨g,0,none⟩) 1 1) k 1 cs:=
 ⟨by simpa using hl,by decide,h1,.inr ⟨_,1,rfl,Nat.le_refl _,fun j u hu=>by rw[Addr.add_lit,Nat.zero_add,h.cell];simpa using hu⟩⟩
theorem UA(e:aq):aq.node e.op e.a e.rel e.b e.names e.set e.kids=e:=by cases e;rfl
theorem P5{T T9:List Rw}{es:List (List Value)}{kids:List aq}{m:Nat}{x:List Value}{y:aq}(hl:es.length=m)(h:∀ (i:Nat) x y,es[i]?=some x→kids[i]?=some y→cI T x y)(hy:kids[m]?=some y)(hx:cI T9 x y):
 ∀ (i:Nat) x' y',(es++[x])[i]?=some x'→kids[i]?=some y'→cI (T++T9) x' y':=fun i x' y' h1 h2=>by
 by_cases hi:i<m
 ·rw[asP (by omega)] at h1;exact(h i x' y' h1 h2).mono fun r hr=>asL.2 (.inl hr)
 ·have hlt:=(asO.1 h1).1;rw[asQ,List.length_singleton,hl] at hlt;obtain rfl:i=m:=by omega
  rw[asR (by omega),hl,Nat.sub_self] at h1;obtain rfl:x=x':=by simpa using h1
  obtain rfl:=asD (hy.symm.trans h2);exact hx.mono fun r hr=>asL.2 (.inr hr)
theorem kW{es:List (List Value)}{x:List Value}{k:Nat}(h:∀ z∈es,z.length=k)(hx:x.length=k):∀ z∈es++[x],z.length=k:=fun z hz=>by
 rcases asL.1 hz with hz|hz
 ·exact h z hz
 ·rw[asB.1 hz];exact hx
theorem gZ{es:List (List Value)}{x:List Value}:es.flatten++x=(es++[x]).flatten:=by rw[List.flatten_append];simp
theorem Qx{P:Program}{f:FuncId}{args:Array Value}{w wb:World}{y:aq}(h:Calls P f args w fun r w'=>∃ v,r=.returned v∧(DJ w y v w'∧asK w.heap.size w w'))(hi:asK wb.heap.size wb w):Calls P f args w fun r w'=>∃ v,r=.returned v∧(DJ wb y v w'∧asK w.heap.size w w'):=
 h.mono fun _ _ ⟨v,e,⟨na,nc,ka,kc,T,h1,h2,h3⟩,hb⟩=>⟨v,e,⟨na,nc,ka,kc,T,h1,h2,h3.low hi.size⟩,hb⟩
theorem Gb{B:Nat}{w0 w:World}{bs:List Bx}{rs:List Rw}{X:Prop}{f:FuncId}{args:Array Value}{e kk n:Nat}{xs:List Value}{K:Value→List Bx→List Rw→World→Prop}(M:aV B w0 w bs rs)
 (hc:Calls Tryz.prog f args w fun r w'=>∃ u,r=.returned u∧(w'.ownsRow w.heap.size e kk u n xs∧asK w.heap.size w w')) (h:∀ a c w',aV B w0 w' bs (⟨.slice a n c,e,kk,n,xs⟩::rs)→K (.slice a n c) bs (⟨.slice a n c,e,kk,n,xs⟩::rs) w') :
 X∨∃ R:Value→World→Prop,(Calls Tryz.prog f args w fun e w'=>∃ v,e=.returned v∧R v w')∧∀ v w',R v w'→∃ bs' rs',aV B w0 w' bs' rs'∧K v bs' rs' w':=
 .inr ⟨_,hc,fun v w' ⟨h1,h2⟩=>by
  obtain⟨a,c,rfl,-,-⟩:=kR h1;have M':=M.ED (r:=⟨.slice a n c,e,kk,n,xs⟩) h2 h1;exact⟨_,_,M',h a c w' M'⟩⟩
theorem V7{α:Type}{l:List α}{i:Nat}{b:α}{f:List α→Prop}(hi:i<l.length)(h:f (l.set i b)):Ae l i b f:=by
 induction l generalizing i f with
 | nil=>exact absurd hi (Nat.not_lt_zero _)
 | cons x r ih=>cases i with
  | zero=>exact h
  | succ i=>exact ih (f:=fun r'=>f (x::r')) (by simpa using hi) h
theorem Ru{B:Nat}{w0 w:World}{bs QL:List Bx}{rs Pt:List Rw}{u v:Value}{e kk Oy nn mm:Nat}{xs news:List Value}{k:Value→List Bx→List Rw→World→Prop}(i:Nat)(hM:aV B w0 w bs rs→aV B w0 w QL Pt)(hr:Pt[i]?=some ⟨v,e,kk,nn,xs⟩)(hs:SliceAt w u kk mm news)
 (hb:nn+mm≤maxLen∧(nn+mm)*Oy≤140737488355328) (h:∀ a c w',Ae Pt i ⟨.slice a (nn+mm) c,e,kk,nn+mm,xs++news⟩ fun rs'=>aV B w0 w' QL rs'→k (.slice a (nn+mm) c) QL rs' w') (hW:Nat.beq e 52=false∨w0.heap.size≤B:=by first|exact .inl rfl|exact .inr (Nat.le_refl _)):apO B w0 bs rs w u v e kk Oy k:=
 ap i hM hr hs hb (fun v' w'=>V7 (asO.1 hr).1 fun M=>by
  obtain⟨a,c,rfl⟩:=M.form i (v:=v') (e:=e) (k:=kk) (n:=nn+mm) (xs:=xs++news) (by rw[List.getElem?_set_self (asO.1 hr).1]);exact yV (h a c w') M) hW
theorem tM{α:Type}{R:List Rw→List Value→α→Prop}(hm:∀ T T' x y,(∀ r∈T,r∈T')→R T x y→R T' x y){T T':List Rw}{es:List (List Value)}{l:List α}{m:Nat}{x:List Value}{y:α}(hl:es.length=m)(h:∀ (i:Nat) x y,es[i]?=some x→l[i]?=some y→R T x y)(hy:l[m]?=some y)(hs:∀ r∈T,r∈T')(hx:R T' x y):
 ∀ (i:Nat) x' y',(es++[x])[i]?=some x'→l[i]?=some y'→R T' x' y':=fun i x' y' h1 h2=>by
 by_cases hi:i<m
 ·rw[asP (by omega)] at h1;exact hm _ _ _ _ hs (h i x' y' h1 h2)
 ·have hlt:=(asO.1 h1).1;rw[asQ,List.length_singleton,hl] at hlt;obtain rfl:i=m:=by omega
  rw[asR (by omega),hl,Nat.sub_self] at h1;obtain rfl:x=x':=by simpa using h1
  obtain rfl:=asD (hy.symm.trans h2);exact hx
theorem eW{α:Type}{f:α→List Value}{l:List α}(h:∀ x,(f x).all (·.oneCell')=true):∀ u∈l.flatMap f,u.oneCell'=true:=fun u hu=>by
 obtain⟨x,-,hx⟩:=List.mem_flatMap.1 hu;exact List.all_eq_true.1 (h x) u hx
theorem KS:∀ (e:aq) (w0:World) (cs:List Value),bh w0 cs e→lH e→Calls Tryz.prog 156 #[.agg cs.toArray] w0 (fun(r:Ending) (w':World)=>∃ v,r=.returned v∧(DJ w0 e v w'∧asK w0.heap.size w0 w')):=by
 refine aq.ind fun e ih=>?_
 intro w0 cs hE iN;obtain⟨nv,kv,rfl,NY,hkv⟩:=hE.open;obtain⟨_,_,rfl,-⟩:=aH.get NY;obtain⟨_,_,rfl,-,hkm,-⟩:=ak.form hkv (by decide);have hkl:=iN.parts;refine bX [] (fn:=Tryz.f156) Tryz.func156 rfl Tryz.ntmps156 rfl<|fun g1 w1 M1=>ei<|an zI fun g2 w2 M2=>lb 1<|an rfl<|lb 1<|an rfl<|Gb M2 ((iK _ _ _ _ (NY.keep M2.below) (by omega)).mono fun _ _ ⟨v',e,h1,_,h3⟩=>⟨v',e,h1,h3⟩) fun na nc w3 M3=>lb 1<|an ⟨rfl,rfl⟩ fun w4 M4=>lb 1<|an ⟨rfl,rfl⟩ fun w5 M5=>?_
 refine lp (ι:=Nat×Value×List (List Value)×List Rw) (fun(m,u,es,T)=>[(15,.int .i64 (m:Int))]) (fun(m,u,es,T)=>[_,(g1,89,#[.int .i64 e.op,.int .i64 e.a,.int .i64 e.rel,.int .i64 e.b,.slice na e.names.length nc,.int .u64 e.set.a,.int .u64 e.set.b,.int .u64 e.set.c,.int .u64 e.set.d,u])]) (fun(m,u,es,T)=>⟨u,89,10,m,es.flatten⟩::_::T) (fun(m,u,es,T) _=>m≤e.kids.length∧es.length=m∧(∀ x∈es,x.length=10)∧∀ (i:Nat) x y,es[i]?=some x→e.kids[i]?=some y→cI T x y) (fun(m,u,es,T)=>e.kids.length-m) (0,.slice none 0 0,[],[]) (an ⟨⟨rfl,trivial⟩,fun M=>⟨M.cL 89 10,asJ _,rfl,(fun _ h=>by cases h),fun i x y h=>by simp at h⟩⟩ ?_);rintro⟨m,u,es,T⟩ w M ⟨hm,hl,he,hR⟩;refine an (fun h=>?_) fun h=>?_
 ·have hlt:m<e.kids.length:=by simp at h;omega
  obtain⟨y,hy⟩:∃ y,e.kids[m]?=some y:=⟨_,asN hlt⟩;have sR:=asS hy;obtain⟨b,o,_,e1,rz,hc⟩:=ak.elt hkv (by decide) hy;obtain⟨_,_,rfl,hn',hk'⟩:=rz.open;obtain⟨_,_,rfl,-⟩:=aH.get hn';obtain⟨_,_,rfl,-⟩:=ak.form hk' (by decide);refine ia<|an ⟨e1,rfl,hlt⟩<|lc<|an (cG M.below hc)<|ei<|an zI fun g3 w7 M7=>lb 0<|an ⟨rfl,rfl⟩ fun w8 M8=>sp [0,1,2,6] (.step 3 (.step 4 (.step 5 (.last 7)))) [0,2] (by kernel_rfl)<|lb 0<|an rfl<|lb 1<|an rfl<|fun w9 hb9 M9=>cg<|an (ih y sR _ _ (rz.keep M9.below) (iN.parts.2.2 y sR)) fun v yq ⟨⟨xa,xc,ka,kc,T9,hv,Rp,Uf⟩,Ij⟩=>⟨_,_,M9.eB Ij Uf,?_⟩
  subst hv;exact an rfl<|fun g7 Gx M11=>an rfl<|Ru 0 id rfl (M11.slice 0 rfl (k:=10) (n:=1) rfl rfl (by simp[maxLen])) ⟨by unfold maxLen;omega,by omega⟩ fun va vc JA Gf=>an rfl<|lb 3<|an ⟨rfl,rfl⟩ fun MS yK=>an (by omega)<|bk (m+1,.slice va (m+1) vc,es++[[.int .i64 y.op,.int .i64 y.a,.int .i64 y.rel,.int .i64 y.b,.slice xa y.names.length xc,.int .u64 y.set.a,.int .u64 y.set.b,.int .u64 y.set.c,.int .u64 y.set.d,.slice ka y.kids.length kc]],T++T9) ⟨rfl,trivial⟩ (fun M=>⟨(M.only (.cons _ (.cons _ (.refl _))) (.refl _)).cast rfl (by dsimp only;rw[← gZ];rfl),by omega,by rw[asQ,hl];rfl,kW he rfl,P5 hl hR hy Rp⟩) (by dsimp only;omega)
 obtain rfl:m=e.kids.length:=by simp at h;omega
 obtain⟨x1,y1,rfl⟩:=M.form 0 rfl
 exact lb 1<|an rfl<|lb 0<|an ⟨rfl,rfl⟩ fun w M=>ei (x:=0)<|an rfl fun M=>⟨_,rfl,⟨_,_,_,_,_,rfl,(by
  have h:=cI.node (T:=_) (op:=e.op) (a:=e.a) (rel:=e.rel) (b:=e.b) (names:=e.names) (set:=e.set) (kids:=e.kids) (es:=es) (nv:=.slice na e.names.length nc) (kv:=.slice x1 e.kids.length y1) rfl rfl (asT _ (asU ..)) (asU ..) hl he (fun i x y h1 h2=>(hR i x y h1 h2).mono fun r hr=>asT _ (asT _ hr))
  rwa [UA] at h),M.fM⟩,M.below⟩
def uQ(T:List Rw)(x:List Value)(y:iB):Prop:=∃ a c,x=[.string y.name,.slice a y.perms.length c]∧(⟨.slice a y.perms.length c,9,1,y.perms.length,y.perms.flatMap aT⟩:Rw)∈T
def uN(T:List Rw)(x:List Value)(y:lK):Prop:=∃ a c,x=[.string y.name,.slice a y.ow.length c,.bool y.perm]∧(⟨.slice a y.ow.length c,9,1,y.ow.length,y.ow.flatMap aT⟩:Rw)∈T
def uP(T:List Rw)(x:List Value)(y:nA):Prop:=∃ es,x=[.int .i64 y.cls,.int .u32 y.perms,.bool y.val]++es∧cI T es y.expr
theorem uQ.mono{T T':List Rw}(hs:∀ r∈T,r∈T'){x:List Value}{y:iB}(h:uQ T x y):uQ T' x y:=by
 obtain⟨a,c,e,h⟩:=h;exact⟨a,c,e,hs _ h⟩
theorem uN.mono{T T':List Rw}(hs:∀ r∈T,r∈T'){x:List Value}{y:lK}(h:uN T x y):uN T' x y:=by
 obtain⟨a,c,e,h⟩:=h;exact⟨a,c,e,hs _ h⟩
theorem uP.mono{T T':List Rw}(hs:∀ r∈T,r∈T'){x:List Value}{y:nA}(h:uP T x y):uP T' x y:=by
 obtain⟨es,e,h⟩:=h;exact⟨es,e,h.mono hs⟩
theorem uQ.at_{T:List Rw}{B:Nat}{w:World}(hT:RowsIn B w T){x:List Value}{y:iB}(h:uQ T x y):qF w x y:=by
 obtain⟨a,c,e,h⟩:=h;exact⟨_,e,SliceAt.bR (hT.1 _ h) (D7 _)⟩
theorem uN.at_{T:List Rw}{B:Nat}{w:World}(hT:RowsIn B w T){x:List Value}{y:lK}(h:uN T x y):qC w x y:=by
 obtain⟨a,c,e,h⟩:=h;exact⟨_,e,SliceAt.bR (hT.1 _ h) (D7 _)⟩
theorem uP.at_{T:List Rw}{B:Nat}{w:World}(hT:RowsIn B w T){x:List Value}{y:nA}(h:uP T x y):qE w x y:=by
 obtain⟨es,e,h⟩:=h;exact⟨es,e,h.at_ hT⟩
theorem uQ.one{T:List Rw}{x:List Value}{y:iB}(h:uQ T x y):∀ u∈x,u.oneCell'=true:=by
 obtain⟨a,c,rfl,-⟩:=h;intro u hu;simp only[asM,List.not_mem_nil,or_false] at hu;rcases hu with rfl|rfl<;>rfl
theorem uN.one{T:List Rw}{x:List Value}{y:lK}(h:uN T x y):∀ u∈x,u.oneCell'=true:=by
 obtain⟨a,c,rfl,-⟩:=h;intro u hu;simp only[asM,List.not_mem_nil,or_false] at hu;rcases hu with rfl|rfl|rfl<;>rfl
theorem uP.one{T:List Rw}{x:List Value}{y:nA}(h:uP T x y):∀ u∈x,u.oneCell'=true:=by
 obtain⟨es,rfl,h⟩:=h;intro u hu;rcases asL.1 hu with hu|hu
 ·simp only[asM,List.not_mem_nil,or_false] at hu;rcases hu with rfl|rfl|rfl<;>rfl
 ·exact h.one u hu
theorem tL{α:Type}{k:Nat}{R:List Value→α→Prop}{w:World}{B e n:Nat}{v:Value}{es:List (List Value)}{l:List α}(ho:w.ownsRow B e k v n es.flatten)(hn:n=l.length)(hl:es.length=n)(hk:∀ x∈es,x.length=k)(h1:∀ (i:Nat) x y,es[i]?=some x→l[i]?=some y→R x y)(hone:∀ x y,R x y→∀ u∈x,u.oneCell'=true):ak k R w v l:=by
 subst hn;refine⟨es,hl,hk,SliceAt.bR ho fun u hu=>?_,h1⟩;obtain⟨x,hx,hux⟩:=List.mem_flatten.1 hu;obtain⟨i,hi⟩:=List.getElem?_of_mem hx;obtain⟨y,hy⟩:∃ y,l[i]?=some y:=⟨_,asN (by have:=(asO.1 hi).1;rw[hl] at this;exact this)⟩;exact hone x y (h1 i x y hi hy) u hux
theorem pJ{α:Type}{k:Nat}{R R':List Value→α→Prop}{w:World}{v:Value}{l:List α}(h:ak k R w v l)(hr:∀ x y,R x y→R' x y):ak k R' w v l:=by
 obtain⟨es,h1,h2,h3,h4⟩:=h;exact⟨es,h1,h2,h3,fun i x y hx hy=>hr x y (h4 i x y hx hy)⟩
structure mh (p:aA):Prop where
 classes:p.classes.length≤1000000
 perms:∀ x∈p.classes,x.perms.length≤1000000
 types:p.types.length≤1000000
 ow:∀ x∈p.types,x.ow.length≤1000000
 attrs:p.attrs.length≤1000000
 roles:p.roles.length≤1000000
 users:p.users.length≤1000000
 bools:p.bools.length≤1000000
 aC:p.aC.length≤1000000
 cats:p.cats.length≤1000000
 conds:p.conds.length≤1000000
 iT:∀ x∈p.conds,lH x
 rules:p.rules.length≤1000000
 trans:p.trans.length≤1000000
 aK:p.aK.length≤1000000
 ranges:p.ranges.length≤1000000
 cons:p.cons.length≤1000000
 ahx:∀ x∈p.cons,lH x.expr
 bH:p.bH.length≤1000000
 files:p.files.length≤1000000
 asserts:p.asserts.length≤1000000
def CH(wb:World)(p:aA):Good:=fun v u=>∃ x0 n0 x1 n1 x2 n2 x3 n3 x4 n4 x5 n5 x6 n6 x7 n7 x8 n8 x9 n9 x10 n10 oM n11 oL n12 J5 n13 J4 n14 J3 n15 J2 n16 T,v=.agg #[.slice x0 p.classes.length n0,.slice x1 p.types.length n1,.slice x2 p.attrs.length n2,.slice x3 p.roles.length n3,.slice x4 p.users.length n4,.slice x5 p.bools.length n5,.slice x6 p.aC.length n6,.slice x7 p.cats.length n7,.slice x8 p.conds.length n8,.slice x9 p.rules.length n9,.slice x10 p.trans.length n10,.slice oM p.aK.length n11,.slice oL p.ranges.length n12,.slice J5 p.cons.length n13,.slice J4 p.bH.length n14,.slice J3 p.files.length n15,.slice J2 p.asserts.length n16]∧RowsIn wb.heap.size u T∧∀ B u',RowsIn B u' T→aJ u' (.slice x0 p.classes.length n0) (.slice x1 p.types.length n1) (.slice x2 p.attrs.length n2) (.slice x3 p.roles.length n3) (.slice x4 p.users.length n4) (.slice x5 p.bools.length n5) (.slice x6 p.aC.length n6) (.slice x7 p.cats.length n7) (.slice x8 p.conds.length n8) (.slice x9 p.rules.length n9) (.slice x10 p.trans.length n10) (.slice oM p.aK.length n11) (.slice oL p.ranges.length n12) (.slice J5 p.cons.length n13) (.slice J4 p.bH.length n14) (.slice J3 p.files.length n15) (.slice J2 p.asserts.length n16) p
theorem wF(w0:World)(c0 c1 c2 c3 c4 c5 c6 c7 c8 c9 aS aN aM aR aQ aP aO:Value)(p:aA)(hp:aJ w0 c0 c1 c2 c3 c4 c5 c6 c7 c8 c9 aS aN aM aR aQ aP aO p)(iN:mh p):Calls Tryz.prog 81 #[.agg #[c0,c1,c2,c3,c4,c5,c6,c7,c8,c9,aS,aN,aM,aR,aQ,aP,aO]] w0 (fun(r:Ending) (w':World)=>∃ v,r=.returned v∧(CH w0 p v w'∧asK w0.heap.size w0 w')):=by
 obtain⟨a0,a1,a2,a3,a4,a5,a6,a7,a8,a9,a10,a11,a12,a13,a14,a15,a16,k0,k1,k2,k3,k4,k5,k6,k7,k8,k9,k10,k11,k12,k13,k14,k15,k16,rfl,rfl,rfl,rfl,rfl,rfl,rfl,rfl,rfl,rfl,rfl,rfl,rfl,rfl,rfl,rfl,rfl⟩:=hp.open;refine bX [] (fn:=Tryz.f81) Tryz.func81 rfl Tryz.ntmps81 rfl<|fun g1 w1 M1=>ei<|an q6 fun g2 w2 M2=>lb 1<|an rfl<|ei<|an q6 fun g3 w3 M3=>lb 0<|an ⟨rfl,rfl⟩ fun w4 M4=>lb 0<|an ⟨rfl,rfl⟩ fun w5 M5=>lb 0<|an ⟨rfl,rfl⟩ fun w6 M6=>lb 0<|an ⟨rfl,rfl⟩ fun w7 M7=>lb 0<|an ⟨rfl,rfl⟩ fun w8 M8=>?_
 clear M1 M2 M3 M4 M5 M6 M7 M8;refine lb 2<|an rfl<|lp (ι:=Nat×Value×List (List Value)×List Rw) (fun(m0,u,Od,T0)=>[(20,.int .i64 (m0:Int))]) (fun(m0,u,Od,T0)=>(g3,39,#[u,.slice none 0 0,.slice a2 p.attrs.length k2,.slice a3 p.roles.length k3,.slice a4 p.users.length k4,.slice a5 p.bools.length k5,.slice a6 p.aC.length k6,.slice a7 p.cats.length k7,.slice none 0 0,.slice a9 p.rules.length k9,.slice a10 p.trans.length k10,.slice a11 p.aK.length k11,.slice a12 p.ranges.length k12,.slice none 0 0,.slice a14 p.bH.length k14,.slice a15 p.files.length k15,.slice a16 p.asserts.length k16])::_) (fun(m0,u,Od,T0)=>⟨u,180,2,m0,Od.flatten⟩::([]++T0)) (fun(m0,u,Od,T0) _=>m0≤p.classes.length∧Od.length=m0∧(∀ x∈Od,x.length=2)∧(∀ (i:Nat) x y,Od[i]?=some x→p.classes[i]?=some y→uQ T0 x y)∧∀ r∈([]:List Rw),r∈T0) (fun(m0,u,Od,T0)=>p.classes.length-m0) (0,.slice none 0 0,[],[]) (an ⟨⟨rfl,trivial⟩,fun M=>⟨M.cL 180 2,asJ _,rfl,(fun _ h=>by cases h),(fun i x y h=>by simp at h),fun _ h=>h⟩⟩ ?_);rintro⟨m0,u,Od,T0⟩ w M ⟨hm0,hl0,he0,hR0,hs0⟩;refine an (fun h=>?_) fun h=>?_
 ·have hlt:m0<p.classes.length:=by simp at h;omega
  have hB:=iN.classes;obtain⟨y,hy⟩:∃ y,p.classes[m0]?=some y:=⟨_,asN hlt⟩;obtain⟨b,o,_,e,⟨pv,rfl,hpv⟩,hc⟩:=ak.elt hp.classes (by decide) hy;obtain⟨_,_,rfl,-⟩:=aH.get hpv;have hsY:=iN.perms y (asS hy);exact ia<|an ⟨e,rfl,hlt⟩<|lc<|an (cG M.below hc)<|ei<|an MO fun g4 w9 M9=>lb 0<|an ⟨rfl,rfl⟩ fun yq oK=>lb 0<|an rfl<|Gb oK ((iK _ _ _ _ (hpv.keep oK.below) (by omega)).mono fun _ _ ⟨v',e,h1,_,h3⟩=>⟨v',e,h1,h3⟩) fun pa pc Gx M11=>lb 0<|an ⟨rfl,rfl⟩ fun JA Gf=>lb 1<|an rfl<|lb 0<|an rfl<|fun g5 MS yK=>Ru 1 id rfl (yK.slice 0 rfl (k:=2) (n:=1) rfl rfl (by simp[maxLen])) ⟨by unfold maxLen;omega,by omega⟩ fun va vc Vu JD=>lb 2<|an ⟨rfl,rfl⟩ fun OY Ge=>an (by omega)<|bk (m0+1,.slice va (m0+1) vc,Od++[[.string y.name,.slice pa y.perms.length pc]],⟨.slice pa y.perms.length pc,9,1,y.perms.length,y.perms.flatMap aT⟩::T0) ⟨rfl,trivial⟩ (fun M=>⟨((M.only (.cons _ (.cons _ (.refl _))) (.refl _)).perm (List.perm_middle (l₁:=_::[])).symm).cast rfl (by dsimp only;rw[← gZ];rfl),by omega,by rw[asQ,hl0];rfl,kW he0 rfl,tM (R:=uQ) (fun _ _ _ _ hs0 h=>uQ.mono hs0 h) hl0 hR0 hy (fun r hr=>asT _ hr) ⟨_,_,rfl,asU ..⟩,fun r hr=>asT _ (hs0 r hr)⟩) (by dsimp only;omega)
 have hq0:m0=p.classes.length:=by simp at h;omega
 obtain⟨x0,y0,rfl⟩:=M.form 0 rfl;clear M h;refine lb 2<|an rfl<|lp (ι:=Nat×Value×List (List Value)×List Rw) (fun(m1,u,Qy,T1)=>[(38,.int .i64 (m1:Int))]) (fun(m1,u,Qy,T1)=>(g3,39,#[.slice x0 m0 y0,u,.slice a2 p.attrs.length k2,.slice a3 p.roles.length k3,.slice a4 p.users.length k4,.slice a5 p.bools.length k5,.slice a6 p.aC.length k6,.slice a7 p.cats.length k7,.slice none 0 0,.slice a9 p.rules.length k9,.slice a10 p.trans.length k10,.slice a11 p.aK.length k11,.slice a12 p.ranges.length k12,.slice none 0 0,.slice a14 p.bH.length k14,.slice a15 p.files.length k15,.slice a16 p.asserts.length k16])::_) (fun(m1,u,Qy,T1)=>⟨u,86,3,m1,Qy.flatten⟩::([(⟨.slice x0 m0 y0,180,2,m0,Od.flatten⟩:Rw)]++T1)) (fun(m1,u,Qy,T1) _=>m1≤p.types.length∧Qy.length=m1∧(∀ x∈Qy,x.length=3)∧(∀ (i:Nat) x y,Qy[i]?=some x→p.types[i]?=some y→uN T1 x y)∧∀ r∈(T0:List Rw),r∈T1) (fun(m1,u,Qy,T1)=>p.types.length-m1) (0,.slice none 0 0,[],T0) (an ⟨⟨rfl,trivial⟩,fun M=>⟨M.cL 86 3,asJ _,rfl,(fun _ h=>by cases h),(fun i x y h=>by simp at h),fun _ h=>h⟩⟩ ?_);rintro⟨m1,u,Qy,T1⟩ w M ⟨hm1,hl1,Dr,hR1,hs1⟩;refine an (fun h=>?_) fun h=>?_
 ·have hlt:m1<p.types.length:=by simp at h;omega
  have hB:=iN.types;obtain⟨y,hy⟩:∃ y,p.types[m1]?=some y:=⟨_,asN hlt⟩;obtain⟨b,o,_,e,⟨pv,rfl,hpv⟩,hc⟩:=ak.elt hp.types (by decide) hy;obtain⟨_,_,rfl,-⟩:=aH.get hpv;have hsY:=iN.ow y (asS hy);exact ia<|an ⟨e,rfl,hlt⟩<|lc<|an (cG M.below hc)<|ei<|an YU fun g4 w9 M9=>lb 0<|an ⟨rfl,rfl⟩ fun yq oK=>lb 0<|an rfl<|Gb oK ((iK _ _ _ _ (hpv.keep oK.below) (by omega)).mono fun _ _ ⟨v',e,h1,_,h3⟩=>⟨v',e,h1,h3⟩) fun pa pc Gx M11=>lb 0<|an ⟨rfl,rfl⟩ fun JA Gf=>lb 1<|an rfl<|lb 0<|an rfl<|fun g5 MS yK=>Ru 1 id rfl (yK.slice 0 rfl (k:=3) (n:=1) rfl rfl (by simp[maxLen])) ⟨by unfold maxLen;omega,by omega⟩ fun va vc Vu JD=>lb 2<|an ⟨rfl,rfl⟩ fun OY Ge=>an (by omega)<|bk (m1+1,.slice va (m1+1) vc,Qy++[[.string y.name,.slice pa y.ow.length pc,.bool y.perm]],⟨.slice pa y.ow.length pc,9,1,y.ow.length,y.ow.flatMap aT⟩::T1) ⟨rfl,trivial⟩ (fun M=>⟨((M.only (.cons _ (.cons _ (.refl _))) (.refl _)).perm (List.perm_middle (l₁:=_::[(⟨.slice x0 m0 y0,180,2,m0,Od.flatten⟩:Rw)])).symm).cast rfl (by dsimp only;rw[← gZ];rfl),by omega,by rw[asQ,hl1];rfl,kW Dr rfl,tM (R:=uN) (fun _ _ _ _ hs1 h=>uN.mono hs1 h) hl1 hR1 hy (fun r hr=>asT _ hr) ⟨_,_,rfl,asU ..⟩,fun r hr=>asT _ (hs1 r hr)⟩) (by dsimp only;omega)
 have hq1:m1=p.types.length:=by simp at h;omega
 obtain⟨x1,y1,rfl⟩:=M.form 0 rfl;clear M h;refine lb 2<|an rfl<|lp (ι:=Nat×Value×List (List Value)×List Rw) (fun(m8,u,UC,T8)=>[(56,.int .i64 (m8:Int))]) (fun(m8,u,UC,T8)=>(g3,39,#[.slice x0 m0 y0,.slice x1 m1 y1,.slice a2 p.attrs.length k2,.slice a3 p.roles.length k3,.slice a4 p.users.length k4,.slice a5 p.bools.length k5,.slice a6 p.aC.length k6,.slice a7 p.cats.length k7,u,.slice a9 p.rules.length k9,.slice a10 p.trans.length k10,.slice a11 p.aK.length k11,.slice a12 p.ranges.length k12,.slice none 0 0,.slice a14 p.bH.length k14,.slice a15 p.files.length k15,.slice a16 p.asserts.length k16])::_) (fun(m8,u,UC,T8)=>⟨u,89,10,m8,UC.flatten⟩::([(⟨.slice x1 m1 y1,86,3,m1,Qy.flatten⟩:Rw),(⟨.slice x0 m0 y0,180,2,m0,Od.flatten⟩:Rw)]++T8)) (fun(m8,u,UC,T8) _=>m8≤p.conds.length∧UC.length=m8∧(∀ x∈UC,x.length=10)∧(∀ (i:Nat) x y,UC[i]?=some x→p.conds[i]?=some y→cI T8 x y)∧∀ r∈(T1:List Rw),r∈T8) (fun(m8,u,UC,T8)=>p.conds.length-m8) (0,.slice none 0 0,[],T1) (an ⟨⟨rfl,trivial⟩,fun M=>⟨M.cL 89 10,asJ _,rfl,(fun _ h=>by cases h),(fun i x y h=>by simp at h),fun _ h=>h⟩⟩ ?_);rintro⟨m8,u,UC,T8⟩ w M ⟨hm8,WV,he8,hR8,hs8⟩;refine an (fun h=>?_) fun h=>?_
 ·have hlt:m8<p.conds.length:=by simp at h;omega
  have hB:=iN.conds;obtain⟨y,hy⟩:∃ y,p.conds[m8]?=some y:=⟨_,asN hlt⟩;obtain⟨b,o,_,e,hE,hc⟩:=ak.elt hp.conds (by decide) hy;obtain⟨_,_,rfl,hn,hk⟩:=hE.open;obtain⟨_,_,rfl,-⟩:=aH.get hn;obtain⟨_,_,rfl,-⟩:=ak.form hk (by decide);have hsY:=iN.iT y (asS hy);refine ia<|an ⟨e,rfl,hlt⟩<|lc<|an (cG M.below hc)<|ei<|an zI fun g4 w9 M9=>lb 0<|an ⟨rfl,rfl⟩ fun yq oK=>?_
  refine dr (by kernel_rfl)<|lb 1<|an rfl<|lb 0<|an rfl<|cr (DJ yq y)<|an (Lk _ _)<|an (fun w' hb' M'=>Qx (KS y _ _ (hE.keep M'.below) hsY) hb')<|br (SlE yq y)<|an (PZ _ _)<|an (fun u w1 a o' hb M' hu hop oJ=>?_)<|fun u Gx hu LM M11=>?_
  ·obtain⟨na,nc,ka,kc,T9,rfl,Rp,Uf⟩:=hu;obtain⟨v,w2,h1,⟨g,h2,h3,h4⟩,h5⟩:=bK (w:=yq) (p:=fun _=>True) (kk:=10) (b:=112) (by kernel_rfl) rfl rfl (by decide) (by decide) (by simp[Value.cells]) rfl w1 a o' hb trivial hop oJ;exact⟨v,w2,h1,⟨g,na,nc,ka,kc,T9,h2,h3,Rp,Uf.keep h5⟩,h5⟩
  obtain⟨g,na,nc,ka,kc,T9,rfl,hW,Rp,Uf⟩:=hu;exact Ru 0 (fun _=>oK.eB LM Uf) rfl (w_ hW rfl Rp.one) ⟨by unfold maxLen;omega,by omega⟩ fun va vc JA Gf=>lb 1<|an ⟨rfl,rfl⟩ fun MS yK=>an (by omega)<|bk (m8+1,.slice va (m8+1) vc,UC++[[.int .i64 y.op,.int .i64 y.a,.int .i64 y.rel,.int .i64 y.b,.slice na y.names.length nc,.int .u64 y.set.a,.int .u64 y.set.b,.int .u64 y.set.c,.int .u64 y.set.d,.slice ka y.kids.length kc]],T8++T9) ⟨rfl,trivial⟩ (fun M=>⟨(M.only (.cons _ (.refl _)) (.refl _)).cast rfl (by dsimp only;rw[← gZ];simp),by omega,by rw[asQ,WV];rfl,kW he8 rfl,tM (R:=cI) (fun _ _ _ _ hs8 h=>cI.mono hs8 h) WV hR8 hy (fun r hr=>asL.2 (.inl hr)) (Rp.mono fun r hr=>asL.2 (.inr hr)),fun r hr=>asL.2 (.inl (hs8 r hr))⟩) (by dsimp only;omega)
 have hq8:m8=p.conds.length:=by simp at h;omega
 obtain⟨x8,y8,rfl⟩:=M.form 0 rfl;clear M h;refine lb 2<|an rfl<|lp (ι:=Nat×Value×List (List Value)×List Rw) (fun(m13,u,Ct,QZ)=>[(71,.int .i64 (m13:Int))]) (fun(m13,u,Ct,QZ)=>(g3,39,#[.slice x0 m0 y0,.slice x1 m1 y1,.slice a2 p.attrs.length k2,.slice a3 p.roles.length k3,.slice a4 p.users.length k4,.slice a5 p.bools.length k5,.slice a6 p.aC.length k6,.slice a7 p.cats.length k7,.slice x8 m8 y8,.slice a9 p.rules.length k9,.slice a10 p.trans.length k10,.slice a11 p.aK.length k11,.slice a12 p.ranges.length k12,u,.slice a14 p.bH.length k14,.slice a15 p.files.length k15,.slice a16 p.asserts.length k16])::_) (fun(m13,u,Ct,QZ)=>⟨u,91,13,m13,Ct.flatten⟩::([(⟨.slice x8 m8 y8,89,10,m8,UC.flatten⟩:Rw),(⟨.slice x1 m1 y1,86,3,m1,Qy.flatten⟩:Rw),(⟨.slice x0 m0 y0,180,2,m0,Od.flatten⟩:Rw)]++QZ)) (fun(m13,u,Ct,QZ) _=>m13≤p.cons.length∧Ct.length=m13∧(∀ x∈Ct,x.length=13)∧(∀ (i:Nat) x y,Ct[i]?=some x→p.cons[i]?=some y→uP QZ x y)∧∀ r∈(T8:List Rw),r∈QZ) (fun(m13,u,Ct,QZ)=>p.cons.length-m13) (0,.slice none 0 0,[],T8) (an ⟨⟨rfl,trivial⟩,fun M=>⟨M.cL 91 13,asJ _,rfl,(fun _ h=>by cases h),(fun i x y h=>by simp at h),fun _ h=>h⟩⟩ ?_);rintro⟨m13,u,Ct,QZ⟩ w M ⟨agt,Z8,ado,adC,Qe⟩;refine an (fun h=>?_) fun h=>?_
 ·have hlt:m13<p.cons.length:=by simp at h;omega
  have hB:=iN.cons;obtain⟨y,hy⟩:∃ y,p.cons[m13]?=some y:=⟨_,asN hlt⟩;obtain⟨b,o,_,e,⟨_,rfl,hE⟩,hc⟩:=ak.elt hp.cons (by decide) hy;obtain⟨_,_,rfl,hn,hk⟩:=hE.open;obtain⟨_,_,rfl,-⟩:=aH.get hn;obtain⟨_,_,rfl,-⟩:=ak.form hk (by decide);have hsY:=iN.ahx y (asS hy);refine ia<|an ⟨e,rfl,hlt⟩<|lc<|an (cG M.below hc)<|ei<|an JF fun g4 w9 M9=>lb 0<|an ⟨rfl,rfl⟩ fun yq oK=>?_
  refine lb 0<|an rfl<|cg<|an (KS y.expr _ _ (hE.keep oK.below) hsY) fun v Gx ⟨⟨na,nc,ka,kc,T9,hv,Rp,Uf⟩,LM⟩=>⟨_,_,oK.eB LM Uf,?_⟩
  subst hv;exact lb 0<|an ⟨rfl,rfl⟩ fun JA Gf=>lb 1<|an rfl<|lb 0<|an rfl<|fun g5 MS yK=>Ru 0 id rfl (yK.slice 0 rfl (k:=13) (n:=1) rfl rfl (by simp[maxLen])) ⟨by unfold maxLen;omega,by omega⟩ fun va vc Vu JD=>lb 2<|an ⟨rfl,rfl⟩ fun OY Ge=>an (by omega)<|bk (m13+1,.slice va (m13+1) vc,Ct++[[.int .i64 y.cls,.int .u32 y.perms,.bool y.val,.int .i64 y.expr.op,.int .i64 y.expr.a,.int .i64 y.expr.rel,.int .i64 y.expr.b,.slice na y.expr.names.length nc,.int .u64 y.expr.set.a,.int .u64 y.expr.set.b,.int .u64 y.expr.set.c,.int .u64 y.expr.set.d,.slice ka y.expr.kids.length kc]],QZ++T9) ⟨rfl,trivial⟩ (fun M=>⟨(M.only (.cons _ (.cons _ (.refl _))) (.refl _)).cast rfl (by dsimp only;rw[← gZ];simp),by omega,by rw[asQ,Z8];rfl,kW ado rfl,tM (R:=uP) (fun _ _ _ _ Qe h=>uP.mono Qe h) Z8 adC hy (fun r hr=>asL.2 (.inl hr)) ⟨_,rfl,Rp.mono fun r hr=>asL.2 (.inr hr)⟩,fun r hr=>asL.2 (.inl (Qe r hr))⟩) (by dsimp only;omega)
 have agd:m13=p.cons.length:=by simp at h;omega
 obtain⟨J5,y13,rfl⟩:=M.form 0 rfl;clear M h;refine sp [0,1,3,4,6,7,9,10,12,14,16,18] (.step 2 (.step 5 (.step 8 (.step 11 (.step 13 (.step 15 (.step 17 (.step 19 (.done))))))))) [0] (by kernel_rfl)<|lb 0<|an rfl<|lb 0<|an rfl<|lb 0<|an rfl<|lb 0<|an rfl<|fun w hb M=>Gb M ((FN _ _ _ _ (hp.attrs.keep M.below) (by have:=iN.attrs;omega)).mono fun _ _ ⟨v',e,h1,_,h3⟩=>⟨v',e,h1,h3⟩) fun x2 y2 w M=>an rfl<|Gb M ((FK _ _ _ _ (hp.roles.keep M.below) (by have:=iN.roles;omega)).mono fun _ _ ⟨v',e,h1,_,h3⟩=>⟨v',e,h1,h3⟩) fun x3 y3 w M=>an rfl<|Gb M ((FH _ _ _ _ (hp.users.keep M.below) (by have:=iN.users;omega)).mono fun _ _ ⟨v',e,h1,_,h3⟩=>⟨v',e,h1,h3⟩) fun x4 y4 w M=>an rfl<|Gb M ((FC _ _ _ _ (hp.bools.keep M.below) (by have:=iN.bools;omega)).mono fun _ _ ⟨v',e,h1,_,h3⟩=>⟨v',e,h1,h3⟩) fun x5 y5 w M=>an rfl<|lb 0<|an ⟨rfl,rfl⟩ fun w M=>an rfl<|lb 0<|an ⟨rfl,rfl⟩ fun w M=>an rfl<|lb 0<|an ⟨rfl,rfl⟩ fun w M=>an rfl<|lb 0<|an ⟨rfl,rfl⟩ fun w M=>an rfl<|?_
 refine sp [0,1,3,4,6,7,9,10,12,14,16,18] (.step 2 (.step 5 (.step 8 (.step 11 (.step 13 (.step 15 (.step 17 (.step 19 (.done))))))))) [0] (by kernel_rfl)<|lb 0<|an rfl<|lb 0<|an rfl<|lb 0<|an rfl<|lb 0<|an rfl<|fun w hb M=>Gb M ((iK _ _ _ _ (hp.aC.keep M.below) (by have:=iN.aC;omega)).mono fun _ _ ⟨v',e,h1,_,h3⟩=>⟨v',e,h1,h3⟩) fun x6 y6 w M=>an rfl<|Gb M ((iK _ _ _ _ (hp.cats.keep M.below) (by have:=iN.cats;omega)).mono fun _ _ ⟨v',e,h1,_,h3⟩=>⟨v',e,h1,h3⟩) fun x7 y7 w M=>an rfl<|Gb M ((Fy _ _ _ _ (hp.rules.keep M.below) (by have:=iN.rules;omega)).mono fun _ _ ⟨v',e,h1,_,h3⟩=>⟨v',e,h1,h3⟩) fun x9 y9 w M=>an rfl<|Gb M ((Fv _ _ _ _ (hp.trans.keep M.below) (by have:=iN.trans;omega)).mono fun _ _ ⟨v',e,h1,_,h3⟩=>⟨v',e,h1,h3⟩) fun x10 uT w M=>an rfl<|lb 0<|an ⟨rfl,rfl⟩ fun w M=>an rfl<|lb 0<|an ⟨rfl,rfl⟩ fun w M=>an rfl<|lb 0<|an ⟨rfl,rfl⟩ fun w M=>an rfl<|lb 0<|an ⟨rfl,rfl⟩ fun w M=>an rfl<|?_
 refine sp [0,1,3,4,6,7,9,11,13] (.step 2 (.step 5 (.step 8 (.step 10 (.step 12 (.step 14 (.done))))))) [0] (by kernel_rfl)<|lb 0<|an rfl<|lb 0<|an rfl<|lb 0<|an rfl<|fun w hb M=>Gb M ((Fq _ _ _ _ (hp.aK.keep M.below) (by have:=iN.aK;omega)).mono fun _ _ ⟨v',e,h1,_,h3⟩=>⟨v',e,h1,h3⟩) fun oM Cg w M=>an rfl<|Gb M ((Fm _ _ _ _ (hp.ranges.keep M.below) (by have:=iN.ranges;omega)).mono fun _ _ ⟨v',e,h1,_,h3⟩=>⟨v',e,h1,h3⟩) fun oL Ce w M=>an rfl<|Gb M ((Fj _ _ _ _ (hp.bH.keep M.below) (by have:=iN.bH;omega)).mono fun _ _ ⟨v',e,h1,_,h3⟩=>⟨v',e,h1,h3⟩) fun J4 y14 w M=>an rfl<|lb 0<|an ⟨rfl,rfl⟩ fun w M=>an rfl<|lb 0<|an ⟨rfl,rfl⟩ fun w M=>an rfl<|lb 0<|an ⟨rfl,rfl⟩ fun w M=>an rfl<|?_
 refine sp [0,1,3,4,6,8] (.step 2 (.step 5 (.step 7 (.step 9 (.done))))) [0] (by kernel_rfl)<|lb 0<|an rfl<|lb 0<|an rfl<|fun w hb M=>Gb M ((Fe _ _ _ _ (hp.files.keep M.below) (by have:=iN.files;omega)).mono fun _ _ ⟨v',e,h1,_,h3⟩=>⟨v',e,h1,h3⟩) fun J3 y15 w M=>an rfl<|Gb M ((E_ _ _ _ _ (hp.asserts.keep M.below) (by have:=iN.asserts;omega)).mono fun _ _ ⟨v',e,h1,_,h3⟩=>⟨v',e,h1,h3⟩) fun J2 y16 w M=>an rfl<|lb 0<|an ⟨rfl,rfl⟩ fun w M=>an rfl<|lb 0<|an ⟨rfl,rfl⟩ fun w M=>an rfl<|?_
 refine lb 0<|an rfl<|lb 1<|an ⟨rfl,rfl⟩ fun w M=>ei (x:=1)<|an rfl fun M=>?_
 subst hq0 hq1 hq8 agd
 exact⟨_,rfl,⟨_,_,_,_,_,_,_,_,_,_,_,_,_,_,_,_,_,_,_,_,_,_,_,_,_,_,_,_,_,_,_,_,_,_,_,rfl,M.fM,fun B u pZ=>⟨pJ (tL (R:=uQ _) (pZ.1 _ (asS (i:=16) rfl)) rfl hl0 he0 (fun i x y h1 h2=>uQ.mono (fun r hr=>show r∈[_,_,_,_,_,_,_,_,_,_,_,_,_,_,_,_,_]++QZ from asL.2 (.inr (Qe r (hs8 r (hs1 r hr))))) (hR0 i x y h1 h2)) fun _ _ h=>uQ.one h) fun _ _ h=>uQ.at_ pZ h,
  pJ (tL (R:=uN _) (pZ.1 _ (asS (i:=15) rfl)) rfl hl1 Dr (fun i x y h1 h2=>uN.mono (fun r hr=>show r∈[_,_,_,_,_,_,_,_,_,_,_,_,_,_,_,_,_]++QZ from asL.2 (.inr (Qe r (hs8 r hr)))) (hR1 i x y h1 h2)) fun _ _ h=>uN.one h) fun _ _ h=>uN.at_ pZ h,
  SliceAt.bR (pZ.1 _ (asS (i:=12) rfl)) (eW fun _=>rfl),
  SliceAt.bR (pZ.1 _ (asS (i:=11) rfl)) (eW fun _=>rfl),
  SliceAt.bR (pZ.1 _ (asS (i:=10) rfl)) (eW fun _=>rfl),
  SliceAt.bR (pZ.1 _ (asS (i:=9) rfl)) (eW fun _=>rfl),
  SliceAt.bR (pZ.1 _ (asS (i:=8) rfl)) (GS _),
  SliceAt.bR (pZ.1 _ (asS (i:=7) rfl)) (GS _),
  pJ (tL (R:=cI _) (pZ.1 _ (asS (i:=14) rfl)) rfl WV he8 (fun i x y h1 h2=>cI.mono (fun r hr=>show r∈[_,_,_,_,_,_,_,_,_,_,_,_,_,_,_,_,_]++QZ from asL.2 (.inr (Qe r hr))) (hR8 i x y h1 h2)) fun _ _ h=>cI.one h) fun _ _ h=>cI.at_ pZ h,
  SliceAt.bR (pZ.1 _ (asS (i:=6) rfl)) (eW fun _=>rfl),
  SliceAt.bR (pZ.1 _ (asS (i:=5) rfl)) (eW fun _=>rfl),
  SliceAt.bR (pZ.1 _ (asS (i:=4) rfl)) (eW fun _=>rfl),
  SliceAt.bR (pZ.1 _ (asS (i:=3) rfl)) (eW fun _=>rfl),
  pJ (tL (R:=uP _) (pZ.1 _ (asS (i:=13) rfl)) rfl Z8 ado (fun i x y h1 h2=>uP.mono (fun r hr=>show r∈[_,_,_,_,_,_,_,_,_,_,_,_,_,_,_,_,_]++QZ from asL.2 (.inr (hr))) (adC i x y h1 h2)) fun _ _ h=>uP.one h) fun _ _ h=>uP.at_ pZ h,
  SliceAt.bR (pZ.1 _ (asS (i:=2) rfl)) (eW fun _=>rfl),
  SliceAt.bR (pZ.1 _ (asS (i:=1) rfl)) (eW fun _=>rfl),
  SliceAt.bR (pZ.1 _ (asS (i:=0) rfl)) (eW fun _=>rfl)⟩⟩,M.below⟩
def oI{α:Type}(l:List α)(o:List Int)(n:Nat):List α:=(List.range n).filterMap fun(k:Nat)=>if o.contains (k:Int)=true then none else l[k]?
def yN(p:aA)(o:List Int):aA:={ p with rules:=oI p.rules o p.rules.length }
section
variable {α:Type} {l:List α} {o:List Int} {m:Nat} {z:α}
theorem Y5(hz:l[m]?=some z)(h:o.contains (m:Int)=false):oI l o (m+1)=oI l o m++[z]:=by
 unfold oI;rw[List.range_succ,asV,List.filterMap_cons,if_neg (by rw[h];decide),hz];rfl
theorem abW(h:o.contains (m:Int)=true):oI l o (m+1)=oI l o m:=by
 unfold oI;rw[List.range_succ,asV,List.filterMap_cons,if_pos h];simp
theorem Y6{l:List aj}{z:aj}{v:Value}{e:TypeId}{k:Nat}{rs:List Rw}(hz:l[m]?=some z)(h:o.contains (m:Int)=false):
 (⟨v,e,k,(oI l o m).length+1,(oI l o m).flatMap aj.cells++z.cells⟩::rs:List Rw)=⟨v,e,k,(oI l o (m+1)).length,(oI l o (m+1)).flatMap aj.cells⟩::rs:=by
 rw[Y5 hz h,asQ,asW,List.flatMap_cons,List.flatMap_nil,List.append_nil];rfl
theorem DS:∀ n,(oI l o n).length≤n:=fun n=>asC (List.length_filterMap_le _ _) (by simp)
end
def LD(l:List Int)(x:Int):Int:=match l.findIdx? (fun y=>decide (x=y)) with|some i=>(i:Int)|none=>-1
theorem ZU{l:List Int}{x:Int}{m:Nat}{y:Int}(hy:l[m]?=some y)(h:∀ j z,j<m→l[j]?=some z→x≠z)(e:x=y):(m:Int)=LD l x:=by
 unfold LD
 have:l.findIdx? (fun y=>decide (x=y))=some m:=by
  obtain⟨hm,hy'⟩:=asO.1 hy;rw[List.findIdx?_eq_some_iff_getElem];refine⟨hm,by rw[hy'];simpa using e,fun j hj=>?_⟩;have:=h j (l[j]) hj (asN (by omega));simpa using this
 rw[this]
theorem WJ{l:List Int}{x:Int}{m:Nat}(hm:m=l.length)(h:∀ j z,j<m→l[j]?=some z→x≠z):-1=LD l x:=by
 unfold LD
 have:l.findIdx? (fun y=>decide (x=y))=none:=by
  rw[List.findIdx?_eq_none_iff];intro y hy;obtain⟨j,hj⟩:=List.getElem?_of_mem hy;have:=h j y (by have:=(asO.1 hj).1;omega) hj;simpa using this
 rw[this]
theorem TM{l:List Int}{x:Int}{m:Nat}{y:Int}(hy:l[m]?=some y)(h:∀ j z,j<m→l[j]?=some z→x≠z)(e:x≠y):∀ j z,j<m+1→l[j]?=some z→x≠z:=fun j z hj hz=>by
 by_cases ej:j=m
 ·subst ej;obtain rfl:=asD (hy.symm.trans hz);exact e
 ·exact h j z (by omega) hz
theorem WI(l:List Int)(x:Int):decide (0≤LD l x)=l.contains x:=by
 unfold LD
 cases h:l.findIdx? (fun y=>decide (x=y)) with
 | none=>
  rw[List.findIdx?_eq_none_iff] at h
  have:l.contains x=false:=by
   cases hc:l.contains x with
   | false=>rfl
   | true=>
    have hm:x∈l:=by simpa using hc
    have:=h x hm;simp at this
  rw[this];rfl
 | some i=>
  obtain⟨hi,h2,-⟩:=List.findIdx?_eq_some_iff_getElem.1 h;have e:x=l[i]:=by simpa using h2
  have:l.contains x=true:=by
   have:x∈l:=e▸List.getElem_mem hi;simpa using this
  rw[this];show decide (0≤((i:Nat):Int))=true;exact decide_eq_true (by omega)
def anyI(n:Int):List Value:=[.int .i64 n]
theorem Lx(w0:World)(v:Value)(l:List Int)(h:SliceAt w0 v 1 l.length (l.flatMap anyI))(x:Int):Calls Tryz.prog 168 #[v,.int .i64 x] w0 (fun(r:Ending) (w':World)=>r=.returned (.int .i64 (LD l x))∧asK w0.heap.size w0 w'):=by
 obtain⟨_,_,rfl,-,hm5,-⟩:=SliceAt.form h (by decide);refine bX [] (fn:=Tryz.f168) Tryz.func168 rfl Tryz.ntmps168 rfl<|lr (ι:=Nat) (fun m=>[(8,.int .i64 (m:Int))]) (fun m _=>m≤l.length∧∀ j z,j<m→l[j]?=some z→x≠z) (fun m=>l.length-m) 0 (an ⟨⟨rfl,trivial⟩,fun M=>⟨M,asJ _,fun j z h=>absurd h (Nat.not_lt_zero j)⟩⟩ ?_);intro m w M ⟨hm,hne⟩;refine an (fun h1=>?_) fun h1 M=>⟨ri (WJ (by simp at h1;omega) hne).symm,M.below⟩
 have hlt:m<l.length:=by simp at h1;omega
 obtain⟨y,hy⟩:∃ y,l[m]?=some y:=⟨_,asN hlt⟩;obtain⟨b,o,e,hc⟩:=SliceAt.elt h (fun _=>rfl) (by decide) hy hlt;refine ia<|an ⟨e,rfl,hlt⟩<|lc (x:=.int .i64 y)<|an (cG M.below hc 0 _ rfl)<|an (fun h2 M=>⟨ri (ZU hy hne (by simpa using h2)).symm,M.below⟩) fun h2=>an (by omega)<|bk (m+1) ⟨rfl,trivial⟩ (fun M=>⟨M,by omega,TM hy hne (by simpa using h2)⟩) (by dsimp only;omega)
theorem Cx(w0:World)(v:Value)(l:List Int)(h:SliceAt w0 v 1 l.length (l.flatMap anyI))(x:Int):Calls Tryz.prog 82 #[v,.int .i64 x] w0 (fun(r:Ending) (w':World)=>r=.returned (.bool (l.contains x))∧asK w0.heap.size w0 w'):=by
 obtain⟨_,_,rfl,-⟩:=SliceAt.form h (by decide);exact bX [] (fn:=Tryz.f82) Tryz.func82 rfl Tryz.ntmps82 rfl<|cl<|an (Lx _ _ l h x) fun w1 M1=>fun M=>⟨rb (WI l x).symm,M.below⟩
theorem Gs(w0:World)(c0 c1 c2 c3 c4 c5 c6 c7 c8 c9 aS aN aM aR aQ aP aO:Value)(p:aA)(hp:aJ w0 c0 c1 c2 c3 c4 c5 c6 c7 c8 c9 aS aN aM aR aQ aP aO p)(_:p.Ok)(iN:mh p)(lv:Value)(o:List Int)(hlv:SliceAt w0 lv 1 o.length (o.flatMap anyI)):Calls Tryz.prog 30 #[.agg #[c0,c1,c2,c3,c4,c5,c6,c7,c8,c9,aS,aN,aM,aR,aQ,aP,aO],lv] w0 (fun(r:Ending) (w':World)=>∃ v,r=.returned v∧(CH w0 (yN p o) v w'∧asK w0.heap.size w0 w')):=by
 obtain⟨_,_,-,-,hmR,-⟩:=SliceAt.form hp.rules (by decide);obtain⟨_,_,_,_,_,_,_,_,_,_,_,_,_,_,_,_,_,_,_,_,_,_,_,_,_,_,_,_,_,_,_,_,_,_,rfl,rfl,rfl,rfl,rfl,rfl,rfl,rfl,rfl,rfl,rfl,rfl,rfl,rfl,rfl,rfl,rfl⟩:=hp.open;refine bX [] (fn:=Tryz.f30) Tryz.func30 rfl Tryz.ntmps30 rfl<|fun g1 w1 M1=>ei<|an q6 fun g2 w2 M2=>lb 1<|an rfl<|cg<|an (wF _ _ _ _ _ _ _ _ _ _ _ _ _ _ _ _ _ _ p (hp.keep M2.below) iN) fun v w6 ⟨⟨x0,n0,x1,n1,x2,n2,x3,n3,x4,n4,x5,n5,x6,n6,x7,n7,x8,n8,x9,n9,x10,n10,oM,n11,oL,n12,J5,n13,J4,n14,J3,n15,J2,n16,TC,hv,hRC,hPC⟩,N_⟩=>⟨_,_,M2.eB N_ hRC,?_⟩
 subst hv;refine ei<|an q6 fun gp w7 M7=>lb 0<|an ⟨rfl,rfl⟩ fun w8 M8=>lb 0<|an ⟨rfl,rfl⟩ fun w9 M9=>lb 2<|an rfl<|lp (ι:=Nat×Value) (fun(k,v)=>[(14,.int .i64 (k:Int))]) (fun(k,v)=>(gp,39,#[.slice x0 p.classes.length n0,.slice x1 p.types.length n1,.slice x2 p.attrs.length n2,.slice x3 p.roles.length n3,.slice x4 p.users.length n4,.slice x5 p.bools.length n5,.slice x6 p.aC.length n6,.slice x7 p.cats.length n7,.slice x8 p.conds.length n8,v,.slice x10 p.trans.length n10,.slice oM p.aK.length n11,.slice oL p.ranges.length n12,.slice J5 p.cons.length n13,.slice J4 p.bH.length n14,.slice J3 p.files.length n15,.slice J2 p.asserts.length n16])::_) (fun(k,v)=>⟨v,56,13,(oI p.rules o k).length,(oI p.rules o k).flatMap aj.cells⟩::_) (fun(k,v) _=>k≤p.rules.length) (fun(k,v)=>p.rules.length-k) (0,.slice none 0 0) (an ⟨⟨rfl,trivial⟩,fun M=>⟨M.cL 56 13,asJ _⟩⟩ ?_)
 rintro⟨k,v⟩ w M hk;refine an (fun h=>?_) fun h=>?_
 ·have hlt:k<p.rules.length:=by simp at h;omega
  obtain⟨y,hy⟩:∃ y,p.rules[k]?=some y:=⟨_,asN hlt⟩;obtain⟨b,of,e,hc⟩:=SliceAt.elt hp.rules (fun _=>rfl) (by decide) hy hlt;have hsl:=DS (l:=p.rules) (o:=o) k;have hrl:=iN.rules;refine ia<|an ⟨e,rfl,hlt⟩<|lc<|an (cG M.below hc)<|ei<|an oH fun g4 yq oK=>lb 0<|an ⟨rfl,rfl⟩ fun Gx M11=>cl<|an (Cx _ lv o (hlv.keep M11.below) k) fun JA Gf=>an (fun hq=>?_) fun hq=>?_
  ·refine lb 1<|an rfl<|lb 0<|an rfl<|fun g7 OY Ge=>Ru 0 id rfl (Ge.slice 0 rfl (k:=13) (n:=1) rfl rfl (by simp[maxLen])) ⟨by unfold maxLen;omega,by omega⟩ fun va vc XQ Ms=>?_
   exact lb 2<|an ⟨rfl,rfl⟩ fun XP XK=>an (by omega)<|bk (k+1,.slice va ((oI p.rules o k).length+1) vc) ⟨rfl,trivial⟩ (fun M=>⟨(M.only (.cons _ (.cons _ (.refl _))) (.refl _)).cast rfl (Y6 hy (by simpa using hq)),by dsimp only;omega⟩) (by dsimp only;omega)
  ·exact an (by omega)<|bk (k+1,v) ⟨rfl,trivial⟩ (fun M=>⟨(M.only (.cons _ (.refl _)) (.refl _)).cast rfl (by dsimp only;rw[abW (by simpa using hq)]),by dsimp only;omega⟩) (by dsimp only;omega)
 obtain rfl:k=p.rules.length:=by simp at h;omega
 obtain⟨xa9,xc9,rfl⟩:=M.form 0 rfl;exact lb 0<|an rfl<|lb 1<|an ⟨rfl,rfl⟩ fun w M=>ei (x:=1)<|an rfl fun M=>⟨_,rfl,⟨_,_,_,_,_,_,_,_,_,_,_,_,_,_,_,_,_,_,_,_,_,_,_,_,_,_,_,_,_,_,_,_,_,_,_,rfl,M.fM,fun B u pZ=>{ hPC B u ⟨fun r hr=>pZ.1 r (asT _ hr),(List.pairwise_cons.1 pZ.2).2⟩ with rules:=SliceAt.bR (pZ.1 _ (asS (i:=0) rfl)) (eW fun _=>rfl) }⟩,M.below⟩
def gY(p:aA):aA:={ p with rules:=Co aF p.rules }
def Bo(l:List aj)(t:Nat):Nat→Option aj:=fun k=>if k<t then l[k]? else none
theorem aaG{l:List aj}{t:Nat}{r:aj}(h:l[t]?=some r){L:List (Int×Value)}(hR:CG (Bo l t) L):CG (Bo l (t+1)) (((t:Int),rval r)::gB L (t:Int)):=fun k=>by
 rw[hR.put k];congr 1;unfold jQ Bo;by_cases e:k=t
 ·subst e;simp[h]
 ·rw[if_neg e];by_cases h2:k<t
  ·rw[if_pos h2,if_pos (by omega)]
  ·rw[if_neg h2,if_neg (by omega)]
theorem aaF(l:List aj):seg (Bo l l.length) 0 l.length=l:=by
 have key:∀ n,n≤l.length→seg (Bo l l.length) 0 n=l.take n:=by
  intro n
  induction n with
  | zero=>intro _;rfl
  | succ n ih=>
   intro hn;rw[iq _ (asJ n) (Nat.le_succ n),ih (by omega),iE _ (Nat.lt_succ_self n),yX _ (Nat.le_refl _),List.append_nil,List.take_add_one];congr 1;unfold Bo;rw[if_pos (by omega)]
 rw[key _ (Nat.le_refl _),asX]
theorem adQ{l:List aj}(h:∀ r∈l,r.Ok)(t:Nat):Rx (Bo l t):=fun k r e=>by
 unfold Bo at e;split at e
 ·exact h r (asS e)
 ·cases e
section
variable {f f':Nat→Option aj} {n i:Nat}
theorem Wt(hp:NP aF f n i n)(h:f i=none):NP aF f n (i+1) n:=fun j x k y h1 h2 h3 h4 h5 h6=>by
 by_cases e:j=i
 ·subst e;rw[h] at h2;cases h2
 ·exact hp j x k y (by omega) h2 h3 h4 h5 h6
theorem ZG(hp:NP aF f n i n)(h:∀ a,f i=some a→∀ k y,i<k→k<n→f k=some y→aF a y=none):NP aF f n (i+1) n:=fun j x k y h1 h2 h3 h4 h5 h6=>by
 by_cases e:j=i
 ·subst e;exact h x h2 k y h3 h4 h6
 ·exact hp j x k y (by omega) h2 h3 h4 h5 h6
theorem ZH(hp:NP aF f n i n)(h:n≤i):dN aF (seg f 0 n)=none:=by
 have h2:=SS aF (f:=f) (n:=n) (i:=n) (s:=0) (asJ _) (Nat.le_refl _) fun j x k y _ h1 h2 h3 h4 h5=>hp j x k y (by omega) h2 h3 h4 (by omega) h5
 rw[yX f (Nat.le_refl n)] at h2;exact Hf aF h2
theorem Lh(hp:NP aF f n i n)(h:F8 f f' i n true):∃ q,f' i=some q∧NP aF f' n i i∧Co aF (seg f' 0 n)=Co aF (seg f 0 n)∧(seg f' 0 n).length+1=(seg f 0 n).length:=by
 rcases h with⟨h,-⟩|⟨-,k,a,b,c,h1,h2,h3,h4,h5,h6,rfl⟩
 ·cases h
 ·have hj:=G0 aF h1 h2 h3 h4 h5 hp h6;exact⟨c,by rw[eV _ _ (by omega),qJ],NP.joined aF hp,(Hg aF hj).symm,mV aF hj⟩
theorem Hv(h:F8 f f' i n false):f'=f∧∀ a,f i=some a→∀ k y,i<k→k<n→f k=some y→aF a y=none:=by
 rcases h with⟨-,h1,h2⟩|⟨h,-⟩
 ·exact⟨h1,h2⟩
 ·cases h
end
theorem GZ{α:Type}(f:Nat→Option α)(n:Nat):seg f 0 (n+1)=seg f 0 n++(f n).toList:=by
 rw[iq _ (asJ n) (Nat.le_succ n),iE _ (Nat.lt_succ_self n),yX _ (Nat.le_refl _),List.append_nil]
theorem V9{α:Type}(f:Nat→Option α)(n:Nat):(seg f 0 n).length≤n:=by
 unfold seg;exact asC (List.length_filterMap_le _ _) (by simp)
theorem V8{f:Nat→Option aj}{k:Nat}{z:aj}{v:Value}{e:TypeId}{c:Nat}{rs:List Rw}(h:f k=some z):
 (⟨v,e,c,(seg f 0 k).length+1,(seg f 0 k).flatMap aj.cells++z.cells⟩::rs:List Rw)=⟨v,e,c,(seg f 0 (k+1)).length,(seg f 0 (k+1)).flatMap aj.cells⟩::rs:=by
 rw[GZ,h,Option.toList_some,asQ,asW,List.flatMap_cons,List.flatMap_nil,List.append_nil];rfl
theorem KO(w0:World)(c0 c1 c2 c3 c4 c5 c6 c7 c8 c9 aS aN aM aR aQ aP aO:Value)(p:aA)(hp:aJ w0 c0 c1 c2 c3 c4 c5 c6 c7 c8 c9 aS aN aM aR aQ aP aO p)(hok:p.Ok)(iN:mh p)(hsR:p.rules.length≤1000):Calls Tryz.prog 32 #[.agg #[c0,c1,c2,c3,c4,c5,c6,c7,c8,c9,aS,aN,aM,aR,aQ,aP,aO]] w0 (fun(r:Ending) (w':World)=>∃ v,r=.returned v∧(CH w0 (gY p) v w'∧asK w0.heap.size w0 w')):=by
 have hrk:∀ r∈p.rules,r.Ok:=fun r hr=>⟨(hok.rules r hr).src,(hok.rules r hr).tgt⟩
 obtain⟨_,_,_,_,_,_,_,_,_,_,_,_,_,_,_,_,_,_,_,_,_,_,_,_,_,_,_,_,_,_,_,_,_,_,rfl,rfl,rfl,rfl,rfl,rfl,rfl,rfl,rfl,rfl,rfl,rfl,rfl,rfl,rfl,rfl,rfl⟩:=hp.open;refine bX [] (fn:=Tryz.f32) Tryz.func32 rfl Tryz.ntmps32 rfl<|fun g1 w1 M1=>ei<|an q6 fun g2 w2 M2=>mmk M2 fun mb w3 M3=>lb 2<|an rfl<|lp (ι:=Nat×List (Int×Value)) (fun(t,L)=>[(18,.int .i64 (t:Int))]) (fun(t,L)=>(mb,9003,dU L)::_) (fun _=>[]) (fun(t,L) _=>t≤p.rules.length∧CG (Bo p.rules t) L) (fun(t,L)=>p.rules.length-t) (0,[]) (an ⟨⟨rfl,trivial⟩,fun M=>⟨M,asJ _,fun k=>by simp[jt,Bo]⟩⟩ ?_)
 rintro⟨t,L⟩ w M ⟨ht,hRv⟩;refine an (fun h=>?_) fun h=>?_
 ·have hlt:t<p.rules.length:=by simp at h;omega
  obtain⟨y,hy⟩:∃ y,p.rules[t]?=some y:=⟨_,asN hlt⟩;obtain⟨b,o,e,hc⟩:=SliceAt.elt hp.rules (fun _=>rfl) (by decide) hy hlt;exact ia<|an ⟨e,rfl,hlt⟩<|lc<|an (cG M.below hc)<|ei<|an oH fun g3 w4 M4=>lb 0<|an ⟨rfl,rfl⟩ fun w5 M5=>lb 0<|an rfl<|S7 M5 1 rfl vo (by constructor<;>omega) fun w6 M6=>an (by omega)<|bk (t+1,_) ⟨rfl,trivial⟩ (fun M=>⟨M.only (.cons _ (.refl _)) (.refl _),by omega,aaG hy hRv⟩) (by dsimp only;omega)
 obtain rfl:t=p.rules.length:=by simp at h;omega
 clear M M1 M2 M3 h ht;refine lb 2<|an rfl<|lp (ι:=Nat×(Nat→Option aj)×List (Int×Value)) (fun(i,ff,L)=>[(7,.int .i64 (i:Int))]) (fun(i,ff,L)=>(mb,9003,dU L)::_) (fun _=>[]) (fun(i,ff,L) _=>i≤p.rules.length∧CG ff L∧Rx ff∧NP aF ff p.rules.length i p.rules.length∧Co aF (seg ff 0 p.rules.length)=Co aF p.rules) (fun(i,ff,L)=>(seg ff 0 p.rules.length).length*(p.rules.length+1)+(p.rules.length-i)) (0,Bo p.rules p.rules.length,L) (an ⟨⟨rfl,trivial⟩,fun M=>⟨M,asJ _,hRv,adQ hrk _,(fun j _ _ _ h=>absurd h (Nat.not_lt_zero j)),by rw[aaF]⟩⟩ ?_);clear hRv L;rintro⟨i,ff,L⟩ w M ⟨hi,hRv,hfo,hNP,hnf⟩;refine an (fun h=>?_) fun h=>?_
 ·have hlt:i<p.rules.length:=by simp at h;omega
  refine mlk M 0 rfl vo (fun _=>rfl) (by constructor<;>omega) fun M=>?_
  cases xI:ff i with
  | none=>
   rw[oZ (hRv.no xI)];exact ei<|an oH fun g4 w5 M5=>lb 0<|an ⟨rfl,rfl⟩ fun w6 M6=>cl (v:=.bool false)<|an (fun h=>by cases h) fun w7 M7=>an (fun h=>by cases h) fun _=>an (by omega)<|bk (i+1,ff,L) ⟨rfl,trivial⟩ (fun M=>⟨M.only (.cons _ (.refl _)) (.refl _),by omega,hRv,hfo,Wt hNP xI,hnf⟩) (by dsimp only;omega)
  | some y=>
   rw[oW (hRv.yes xI)];refine ei<|an oH fun g4 w5 M5=>lb 0<|an ⟨rfl,rfl⟩ fun w6 M6=>cg<|an (fun _=>PY _ mb p.rules.length hsR L (M6.map 1 rfl) ff hRv hfo i hlt y xI)<|an (fun h=>by cases h) fun v w7 ⟨⟨t9,L9,f9,hv,Oa,adB,adn,hLP⟩,Rq⟩=>⟨_,_,M6.GF 1 rfl Rq Oa,?_⟩
   subst hv;have M7:=M6.GF 1 rfl Rq Oa;refine an (fun ht9=>?_) fun ht9=>?_
   ·obtain rfl:t9=true:=ht9;obtain⟨q9,WR,agW,agj,amf⟩:=Lh hNP hLP;refine cg<|an (IB _ mb p.rules.length hsR L9 (M7.map 1 rfl) f9 adB adn i hlt q9 WR agW) fun v w8 ⟨⟨t8,L8,f8,hv,hM8,agV,agC,hEP⟩,hS8⟩=>⟨_,_,M7.GF 1 rfl hS8 hM8,?_⟩
    subst hv;have hle:=hEP.le;have hE4:=Nat.mul_le_mul_right (p.rules.length+1) (show(seg f8 0 p.rules.length).length+1≤(seg ff 0 p.rules.length).length by have:=hEP.len;omega);rw[Nat.add_mul,Nat.one_mul] at hE4;exact an (by omega)<|an (by omega)<|bk (t8,f8,L8) ⟨congrArg (fun z:Int=>some (Value.int .i64 z)) (show((t8:Nat):Int)-1+1=(t8:Int) by omega),trivial⟩ (fun M=>⟨M.only (.cons _ (.refl _)) (.refl _),by omega,agV,agC,hEP.np,hEP.nf.trans (agj.trans hnf)⟩) (by dsimp only;omega)
   ·obtain rfl:t9=false:=ht9;obtain⟨rfl,hLf⟩:=Hv hLP;exact an (by omega)<|bk (i+1,f9,L9) ⟨rfl,trivial⟩ (fun M=>⟨M.only (.cons _ (.refl _)) (.refl _),by omega,adB,adn,ZG hNP hLf,hnf⟩) (by dsimp only;omega)
 have Ds:=ZH hNP (show p.rules.length≤i by simp at h;omega);have ac3:seg ff 0 p.rules.length=Co aF p.rules:=by rw[← hnf,SX aF Ds]
 refine lb 2<|an rfl<|cg<|an (wF _ _ _ _ _ _ _ _ _ _ _ _ _ _ _ _ _ _ p (hp.keep M.below) iN) fun v w6 ⟨⟨x0,n0,x1,n1,x2,n2,x3,n3,x4,n4,x5,n5,x6,n6,x7,n7,x8,n8,x9,n9,x10,n10,oM,n11,oL,n12,J5,n13,J4,n14,J3,n15,J2,n16,TC,hv,hRC,hPC⟩,N_⟩=>⟨_,_,M.eB N_ hRC,?_⟩
 subst hv;clear M;refine ei<|an q6 fun gp w7 M7=>lb 0<|an ⟨rfl,rfl⟩ fun w8 M8=>lb 0<|an ⟨rfl,rfl⟩ fun w9 M9=>lp (ι:=Nat×Value) (fun(k,v)=>[(56,.int .i64 (k:Int))]) (fun(k,v)=>(gp,39,#[.slice x0 p.classes.length n0,.slice x1 p.types.length n1,.slice x2 p.attrs.length n2,.slice x3 p.roles.length n3,.slice x4 p.users.length n4,.slice x5 p.bools.length n5,.slice x6 p.aC.length n6,.slice x7 p.cats.length n7,.slice x8 p.conds.length n8,v,.slice x10 p.trans.length n10,.slice oM p.aK.length n11,.slice oL p.ranges.length n12,.slice J5 p.cons.length n13,.slice J4 p.bH.length n14,.slice J3 p.files.length n15,.slice J2 p.asserts.length n16])::_) (fun(k,v)=>⟨v,56,13,(seg ff 0 k).length,(seg ff 0 k).flatMap aj.cells⟩::_) (fun(k,v) _=>k≤p.rules.length) (fun(k,v)=>p.rules.length-k) (0,.slice none 0 0) (an ⟨⟨rfl,trivial⟩,fun M=>⟨M.cL 56 13,asJ _⟩⟩ ?_)
 rintro⟨k,v⟩ w M hk;refine an (fun h=>?_) fun h=>?_
 ·have hlt:k<p.rules.length:=by simp at h;omega
  have hsl:=V9 ff k;refine mlk M 1 rfl vo (fun _=>rfl) (by constructor<;>omega) fun M=>?_
  cases xI:ff k with
  | none=>
   rw[oZ (hRv.no xI)];exact ei<|an oH fun g6 MS yK=>lb 0<|an ⟨rfl,rfl⟩ fun Vu JD=>an (fun h=>by cases h) fun _=>an (by omega)<|bk (k+1,v) ⟨rfl,trivial⟩ (fun M=>⟨(M.only (.cons _ (.refl _)) (.refl _)).cast rfl (by dsimp only;rw[GZ,xI,Option.toList_none,List.append_nil]),by dsimp only;omega⟩) (by dsimp only;omega)
  | some z=>
   rw[oW (hRv.yes xI)];refine ei<|an oH fun g6 MS yK=>lb 0<|an ⟨rfl,rfl⟩ fun Vu JD=>?_
   refine an (fun _=>?_) fun h=>by cases h
   refine lb 1<|an rfl<|lb 0<|an rfl<|fun g7 OY Ge=>Ru 0 id rfl (Ge.slice 0 rfl (k:=13) (n:=1) rfl rfl (by simp[maxLen])) ⟨by unfold maxLen;omega,by omega⟩ fun va vc XQ Ms=>?_
   exact lb 2<|an ⟨rfl,rfl⟩ fun XP XK=>an (by omega)<|bk (k+1,.slice va ((seg ff 0 k).length+1) vc) ⟨rfl,trivial⟩ (fun M=>⟨(M.only (.cons _ (.cons _ (.refl _))) (.refl _)).cast rfl (V8 xI),by dsimp only;omega⟩) (by dsimp only;omega)
 obtain rfl:k=p.rules.length:=by simp at h;omega
 obtain⟨xa9,xc9,rfl⟩:=M.form 0 rfl;refine lb 0<|an rfl<|lb 2<|an ⟨rfl,rfl⟩ fun w M=>ei (x:=2)<|an rfl fun M=>?_
 dsimp only at M;rw[ac3] at M;exact⟨_,rfl,⟨_,_,_,_,_,_,_,_,_,_,_,_,_,_,_,_,_,_,_,_,_,_,_,_,_,_,_,_,_,_,_,_,_,_,_,(by rw[ac3];rfl),M.fM,fun B u pZ=>{ hPC B u ⟨fun r hr=>pZ.1 r (asT _ hr),(List.pairwise_cons.1 pZ.2).2⟩ with rules:=SliceAt.bR (pZ.1 _ (asS (i:=0) rfl)) (eW fun _=>rfl) }⟩,M.below⟩
theorem Nl{P:Program}{w:World}{t:TypeId}{d:TypeDesc}(h:P.underlying t=some d):(underlying t).run P w=.ok d w:=by
 unfold underlying;simp[Sem.run_bind,h]
theorem Om{P:Program}{a:Act}{w:World}{o:Oper}{ss tt:TypeId}{x:Operand}{m:Nat}(ho:o.op=.convert ss tt x)(hx:a.eval x=.int .u8 (m:Int))(hs:P.underlying ss=some (.int .u8))(ht:P.underlying tt=some (.int .i32))(hm:m<256):(execOp a.eval o).run P w=.ok (.value (.int .i32 (m:Int))) w:=by
 have hw:IntKind.i32.wrap (m:Int)=m:=by
  simp[IntKind.wrap,IntKind.bits,IntKind.signed];omega
 unfold execOp;simp[ho,hx,convert,Sem.run_bind,Sem.run_pure,Nl hs,Nl ht,Conv.intToInt,hw]
theorem Lb{s:ByteArray}(h:xE s=true):1≤s.size∧s.size≤32∧mI (dL s 0)=false∧∀ i,i<s.size→jw (dL s i)=true∨mI (dL s i)=true:=by
 unfold xE at h;simp only[asY,Bool.not_eq_true',decide_eq_true_iff] at h;obtain⟨h1,h2,h3⟩:=h
 have hb:∀ i,i<s.size→sO s i=false:=fun i hi=>by
  cases e:sO s i with
  | false=>rfl
  | true=>rw[(rT _ _).2 ⟨i,asJ _,by omega,e⟩] at h1;cases h1
 have h0:=hb 0 (by omega);refine⟨by omega,by omega,?_,fun i hi=>?_⟩
 ·unfold sO at h0;have e:jw (dL s 0)=true:=by simpa using h0
  cases hd:mI (dL s 0) with
  | false=>rfl
  | true=>
   unfold mI at hd;unfold jw at e;simp only[asY,Bool.or_eq_true,decide_eq_true_iff] at hd e;omega
 ·have:=hb i hi;unfold sO at this
  cases hl:jw (dL s i) with
  | true=>exact .inl rfl
  | false=>
   rw[hl] at this;right;simp at this;exact this.2
theorem cA{s w:ByteArray}(h:jI s=false)(hw:jI w=true):(s.toList == w.toList)=false:=by
 cases e:s.toList == w.toList with
 | false=>rfl
 | true=>
  rw[nH] at e;rw[of_decide_eq_true e,hw] at h;cases h
theorem z6(w0:World)(x:Nat):Calls Tryz.prog 326 #[.int .i32 (x:Int)] w0 (fun(r:Ending) (w':World)=>r=.returned (.bool (mI x))∧asK w0.heap.size w0 w'):=by
 refine bX [] (fn:=Tryz.f326) Tryz.func326 rfl Tryz.ntmps326 rfl<|fun M=>⟨rb ?_,M.below⟩
 rfl
theorem GI(w0:World)(x:Nat):Calls Tryz.prog 327 #[.int .i32 (x:Int)] w0 (fun(r:Ending) (w':World)=>r=.returned (.bool (jw x))∧asK w0.heap.size w0 w'):=by
 refine bX [] (fn:=Tryz.f327) Tryz.func327 rfl Tryz.ntmps327 rfl<|fun M=>⟨rb ?_,M.below⟩
 unfold jw;congr 1;exact Bool.or_comm _ _
theorem PU(w0:World)(s:ByteArray)(hs:dG s)(h:xE s=true):Calls Tryz.prog 323 #[.string s] w0 (fun(r:Ending) (w':World)=>r=.returned (.bool (true))∧asK w0.heap.size w0 w'):=by
 obtain⟨h1,h32,Yn,hall⟩:=Lb h;have hs':s.size≤140737488355328:=hs
 have hne:fQ s=false:=by
  unfold fQ;rw[nH];refine decide_eq_false fun e=>?_
  rw[e] at h1;exact absurd h1 (by decide)
 have bS:=hr1 Tryz.prog Tryz.f323 (fun(r:Ending) (w':World)=>r=.returned (.bool (true))∧asK w0.heap.size w0 w') 36 2 rfl;refine en Tryz.func323 rfl Tryz.ntmps323 rfl (vs:=[.string s]) rfl fun _ F=>?_
 have M:=Mm.start w0;refine asE fun K1 jd=>ah<|xA (v:=.bool false) F rf rf rf fun _ F=>asF<|jd _ _ ?_
 refine asE fun K2 jy=>asE fun K3 qg=>ah<|xM F rf rf rf fun _ F=>ke (on rfl) (ad2 rfl (F.u rf) rfl) rfl F rfl (congrArg Value.bool hne) fun _ F=>xM F rf rf rf fun _ F=>kv (gn rfl rfl (F.g 7 rfl)) (ef rfl (F.u rf)) rfl F rfl fun _ F=>kv (gn rfl rfl (F.g 7 rfl)) (Bv rfl (F.u rf) u9) rfl F rfl fun _ F=>
  ke (gn rfl rfl (F.g 7 rfl)) (IG rfl (F.u rf) rfl) rfl F rfl (congrArg Value.bool (decide_eq_false (by omega))) fun _ F=>
  ke (u:=.bool false) (on rfl) (sI rfl (F.u rf) rfl (F.u rf)) rfl F rfl rfl fun _ F=>
  xM F rf rf rf fun _ F=>
  kv (gn rfl rfl (F.g 12 rfl)) (ef rfl (F.u rf)) rfl F rfl fun _ F=>
  ke (gn rfl rfl (F.g 12 rfl)) (sJ (i:=0) rfl (F.u rf) rfl (by omega) u9) rfl F rfl (congrArg (Value.int .u8) (congrArg Nat.cast (nu (by omega:0<s.size)))) fun _ F=>
  kv (gn rfl rfl (F.g 12 rfl)) (Om rfl (F.u rf) u5 u21 (nr _ _)) rfl F rfl fun _ F=>
  kc (gn rfl rfl (F.g 12 rfl)) (eZ rfl Tryz.func326 X5 rfl (args1 (F.u rf))) ((z6 _ (dL s 0)).mono fun _ _ ⟨e,h⟩=>⟨by rw[e,Yn],h⟩) rfl F rfl M fun _ _ F M=>
  ke (u:=.bool false) (on rfl) (sI rfl (F.u rf) rfl (F.u rf)) rfl F rfl rfl fun _ F=>
  asF<|
  qg _ _ ?_
 refine asI (F.e 17 rfl) ?_;refine wp_skip<|jy _ _ ?_;refine asE fun K4 qd=>asE fun K5 p7=>ah<|xM F rf rf rf fun _ F=>kz F rf (Bv rfl (F.u rf) u9) fun _ F=>xM (v:=.int .i64 0) F rf rf rf fun _ F=>asF<|p7 _ _ ?_
 refine asG<|?_;refine fH (ι:=Nat) (fun m a w=>Fs a 36 [(0,.string s),(19,.int .i64 ((s).size:Int)),(20,.int .i64 (m:Int))]∧Mm w0 w [] []∧m≤s.size) (fun m=>s.size-m) 0 ⟨F.sub ⟨rfl,rfl,rfl,trivial⟩,M,asJ _⟩ ?_
 (repeat clear F);(repeat clear M)
 rintro m _ _ ⟨F,M,hm⟩;refine asE fun K6 rM=>ah<|kz F rf (j5 rfl (F.u rf) (F.u rf)) fun _ F=>asF<|rM _ _ ?_
 refine asE fun K7 uj=>?_
 refine asH (F.e 21 rfl) (fun hc1=>?_) (fun hc1=>?_)
 ·have hd2:=of_decide_eq_true hc1;refine wp_skip<|uj _ _ ?_;refine asE fun K8 Bc=>asG<|asE fun K9 zx=>ah<|xM F rf rf rf fun _ F=>xA F rf rf rf fun _ F=>asF<|zx _ _ ?_
  refine asE fun VE mG=>?_
  have hlt:m<s.size:=by omega
  have hld:=hall m hlt
  refine ah<|xM F rf rf rf fun _ F=>xM F rf rf rf fun _ F=>
   ke (on rfl) (sJ (i:=m) rfl (F.u rf) (F.u rf) (by omega) u9) rfl F rfl (congrArg (Value.int .u8) (congrArg Nat.cast (nu (by omega:m<s.size)))) fun _ F=>
   kz F rf (Om rfl (F.u rf) u5 u21 (nr _ _)) fun _ F=>
   xA F rf rf rf fun _ F=>
   asF<|
   mG _ _ ?_
  refine asE fun K11 sE=>ah<|xM F rf rf rf fun _ F=>xC F M rf rf afs (args1 (F.u rf)) (GI _ (dL s m)) fun _ _ F M=>kz F rf (oD rfl (F.u rf)) fun _ F=>xM F rf rf rf fun _ F=>Eu (x:=.int .i32 (dL s m:Int)) rfl rfl (F.g 30 rfl) (bt _) (fun ge=>(ef rfl (F.u rf))) rfl F rfl rfl fun _ F=>afS rfl rfl (F.g 30 rfl) (bt _) (fun ge=>(eZ rfl Tryz.func326 X5 rfl (args1 ((F.g 31 rfl).on ge).ev))) (fun ge=>z6 _ (dL s m)) rfl F rfl M fun _ _ F M=>Eu (x:=.bool (!(mI (dL s m)))) rfl rfl (F.g 30 rfl) (bt _) (fun ge=>(oD rfl ((F.g 32 rfl).on ge).ev)) rfl F rfl rfl fun _ F=>kz F rf (rq (sI rfl (F.u rf) (F.u rf) rfl) (pkF _ _)) fun _ F=>asF<|sE _ _ ?_
  refine asH (F.e 34 rfl) (fun hc3=>?_) (fun hc3=>?_)
  ·refine asE fun K12 sC=>ah<|xA (v:=.bool false) F rf rf rf fun _ F=>asF<|sC _ _ ?_
   refine wp_ret<|bS _ _ _ _ F rfl ?_;rcases hld with h|h<;>simp[h] at hc3
  ·refine wp_skip<|Bc _ _ ?_
   refine ah<|
    ke (on rfl) (fS rfl (F.u rf) rfl) rfl F rfl (congrArg (Value.int .i64) (wrap_i64 (by omega))) fun _ F=>
    xM F rf rf rf fun _ F=>
    asF<|?_
   exact⟨m+1,⟨F.sub ⟨rfl,rfl,rfl,trivial⟩,M,by omega⟩,by show s.size-(m+1)<s.size-m;omega⟩
 ·have T6:=of_decide_eq_false hc1;refine wp_exit<|qd _ _ ?_;refine asE fun K13 ru=>ah<|xA (v:=.bool true) F rf rf rf fun _ F=>asF<|ru _ _ ?_
  refine wp_ret<|bS _ _ _ _ F rfl ?_;exact⟨rfl,M.below⟩
theorem D3(w0:World)(s:ByteArray)(nY:jI s=false):Calls Tryz.prog 324 #[.string s] w0 (fun(r:Ending) (w':World)=>r=.returned (.bool (false))∧asK w0.heap.size w0 w'):=by
 have bS:=hr1 Tryz.prog Tryz.f324 (fun(r:Ending) (w':World)=>r=.returned (.bool (false))∧asK w0.heap.size w0 w') 47 2 rfl;refine en Tryz.func324 rfl Tryz.ntmps324 rfl (vs:=[.string s]) rfl fun _ F=>?_
 have M:=Mm.start w0;refine asE fun K1 jd=>ah<|xA (v:=.bool false) F rf rf rf fun _ F=>asF<|jd _ _ ?_
 refine asE fun K2 jy=>asE fun K3 qg=>ah<|xM F rf rf rf fun _ F=>asF<|qg _ _ ?_
 refine asG<|asE fun K4 qd=>asE fun K5 p7=>ah<|
  ke (on rfl) (b_ rfl (F.u rf) rfl) rfl F rfl (congrArg Value.bool (cA nY (by kernel_rfl))) fun _ F=>
  xA F rf rf rf fun _ F=>
  asF<|
  p7 _ _ ?_
 refine asI (F.e 4 rfl) ?_
 refine asE fun K6 rM=>ah<|
  ke (on rfl) (b_ rfl (F.u rf) rfl) rfl F rfl (congrArg Value.bool (cA nY (by kernel_rfl))) fun _ F=>
  xA F rf rf rf fun _ F=>
  asF<|
  rM _ _ ?_
 refine asI (F.e 4 rfl) ?_
 refine asE fun K7 uj=>ah<|
  ke (on rfl) (b_ rfl (F.u rf) rfl) rfl F rfl (congrArg Value.bool (cA nY (by kernel_rfl))) fun _ F=>
  xA F rf rf rf fun _ F=>
  asF<|
  uj _ _ ?_
 refine asI (F.e 4 rfl) ?_
 refine asE fun K8 Bc=>ah<|
  ke (on rfl) (b_ rfl (F.u rf) rfl) rfl F rfl (congrArg Value.bool (cA nY (by kernel_rfl))) fun _ F=>
  xA F rf rf rf fun _ F=>
  asF<|
  Bc _ _ ?_
 refine asI (F.e 4 rfl) ?_
 refine asE fun K9 zx=>ah<|
  ke (on rfl) (b_ rfl (F.u rf) rfl) rfl F rfl (congrArg Value.bool (cA nY (by kernel_rfl))) fun _ F=>
  xA F rf rf rf fun _ F=>
  asF<|
  zx _ _ ?_
 refine asI (F.e 4 rfl) ?_
 refine asE fun VE mG=>ah<|
  ke (on rfl) (b_ rfl (F.u rf) rfl) rfl F rfl (congrArg Value.bool (cA nY (by kernel_rfl))) fun _ F=>
  xA F rf rf rf fun _ F=>
  asF<|
  mG _ _ ?_
 refine asI (F.e 4 rfl) ?_
 refine asE fun K11 sE=>ah<|
  ke (on rfl) (b_ rfl (F.u rf) rfl) rfl F rfl (congrArg Value.bool (cA nY (by kernel_rfl))) fun _ F=>
  xA F rf rf rf fun _ F=>
  asF<|
  sE _ _ ?_
 refine asI (F.e 4 rfl) ?_
 refine asE fun K12 sC=>ah<|
  ke (on rfl) (b_ rfl (F.u rf) rfl) rfl F rfl (congrArg Value.bool (cA nY (by kernel_rfl))) fun _ F=>
  xA F rf rf rf fun _ F=>
  asF<|
  sC _ _ ?_
 refine asI (F.e 4 rfl) ?_
 refine asE fun K13 ru=>ah<|
  ke (on rfl) (b_ rfl (F.u rf) rfl) rfl F rfl (congrArg Value.bool (cA nY (by kernel_rfl))) fun _ F=>
  xA F rf rf rf fun _ F=>
  asF<|
  ru _ _ ?_
 refine asI (F.e 4 rfl) ?_
 refine ah<|
  ke (on rfl) (b_ rfl (F.u rf) rfl) rfl F rfl (congrArg Value.bool (cA nY (by kernel_rfl))) fun _ F=>
  xA F rf rf rf fun _ F=>
  asF<|
  qd _ _ ?_
 refine asI (F.e 4 rfl) ?_
 refine asE fun K14 wk=>asE fun K15 um=>ah<|
  ke (on rfl) (b_ rfl (F.u rf) rfl) rfl F rfl (congrArg Value.bool (cA nY (by kernel_rfl))) fun _ F=>
  xA F rf rf rf fun _ F=>
  asF<|
  um _ _ ?_
 refine asI (F.e 15 rfl) ?_
 refine asE fun K16 EB=>ah<|
  ke (on rfl) (b_ rfl (F.u rf) rfl) rfl F rfl (congrArg Value.bool (cA nY (by kernel_rfl))) fun _ F=>
  xA F rf rf rf fun _ F=>
  asF<|
  EB _ _ ?_
 refine asI (F.e 15 rfl) ?_
 refine asE fun K17 Uq=>ah<|
  ke (on rfl) (b_ rfl (F.u rf) rfl) rfl F rfl (congrArg Value.bool (cA nY (by kernel_rfl))) fun _ F=>
  xA F rf rf rf fun _ F=>
  asF<|
  Uq _ _ ?_
 refine asI (F.e 15 rfl) ?_
 refine asE fun K18 aax=>ah<|
  ke (on rfl) (b_ rfl (F.u rf) rfl) rfl F rfl (congrArg Value.bool (cA nY (by kernel_rfl))) fun _ F=>
  xA F rf rf rf fun _ F=>
  asF<|
  aax _ _ ?_
 refine asI (F.e 15 rfl) ?_
 refine asE fun K19 aaw=>ah<|
  ke (on rfl) (b_ rfl (F.u rf) rfl) rfl F rfl (congrArg Value.bool (cA nY (by kernel_rfl))) fun _ F=>
  xA F rf rf rf fun _ F=>
  asF<|
  aaw _ _ ?_
 refine asI (F.e 15 rfl) ?_
 refine asE fun K20 aav=>ah<|
  ke (on rfl) (b_ rfl (F.u rf) rfl) rfl F rfl (congrArg Value.bool (cA nY (by kernel_rfl))) fun _ F=>
  xA F rf rf rf fun _ F=>
  asF<|
  aav _ _ ?_
 refine asI (F.e 15 rfl) ?_
 refine asE fun K21 aau=>ah<|
  ke (on rfl) (b_ rfl (F.u rf) rfl) rfl F rfl (congrArg Value.bool (cA nY (by kernel_rfl))) fun _ F=>
  xA F rf rf rf fun _ F=>
  asF<|
  aau _ _ ?_
 refine asI (F.e 15 rfl) ?_
 refine asE fun K22 aat=>ah<|
  ke (on rfl) (b_ rfl (F.u rf) rfl) rfl F rfl (congrArg Value.bool (cA nY (by kernel_rfl))) fun _ F=>
  xA F rf rf rf fun _ F=>
  asF<|
  aat _ _ ?_
 refine asI (F.e 15 rfl) ?_
 refine ah<|
  ke (on rfl) (b_ rfl (F.u rf) rfl) rfl F rfl (congrArg Value.bool (cA nY (by kernel_rfl))) fun _ F=>
  xA F rf rf rf fun _ F=>
  asF<|
  wk _ _ ?_
 refine asI (F.e 15 rfl) ?_
 refine asE fun K23 W_=>asE fun K24 aas=>ah<|
  ke (on rfl) (b_ rfl (F.u rf) rfl) rfl F rfl (congrArg Value.bool (cA nY (by kernel_rfl))) fun _ F=>
  xA F rf rf rf fun _ F=>
  asF<|
  aas _ _ ?_
 refine asI (F.e 25 rfl) ?_
 refine asE fun K25 W9=>ah<|
  ke (on rfl) (b_ rfl (F.u rf) rfl) rfl F rfl (congrArg Value.bool (cA nY (by kernel_rfl))) fun _ F=>
  xA F rf rf rf fun _ F=>
  asF<|
  W9 _ _ ?_
 refine asI (F.e 25 rfl) ?_
 refine asE fun K26 aar=>ah<|
  ke (on rfl) (b_ rfl (F.u rf) rfl) rfl F rfl (congrArg Value.bool (cA nY (by kernel_rfl))) fun _ F=>
  xA F rf rf rf fun _ F=>
  asF<|
  aar _ _ ?_
 refine asI (F.e 25 rfl) ?_
 refine asE fun K27 aaq=>ah<|
  ke (on rfl) (b_ rfl (F.u rf) rfl) rfl F rfl (congrArg Value.bool (cA nY (by kernel_rfl))) fun _ F=>
  xA F rf rf rf fun _ F=>
  asF<|
  aaq _ _ ?_
 refine asI (F.e 25 rfl) ?_
 refine asE fun K28 aap=>ah<|
  ke (on rfl) (b_ rfl (F.u rf) rfl) rfl F rfl (congrArg Value.bool (cA nY (by kernel_rfl))) fun _ F=>
  xA F rf rf rf fun _ F=>
  asF<|
  aap _ _ ?_
 refine asI (F.e 25 rfl) ?_
 refine asE fun K29 aao=>ah<|
  ke (on rfl) (b_ rfl (F.u rf) rfl) rfl F rfl (congrArg Value.bool (cA nY (by kernel_rfl))) fun _ F=>
  xA F rf rf rf fun _ F=>
  asF<|
  aao _ _ ?_
 refine asI (F.e 25 rfl) ?_
 refine asE fun K30 ahc=>ah<|
  ke (on rfl) (b_ rfl (F.u rf) rfl) rfl F rfl (congrArg Value.bool (cA nY (by kernel_rfl))) fun _ F=>
  xA F rf rf rf fun _ F=>
  asF<|
  ahc _ _ ?_
 refine asI (F.e 25 rfl) ?_
 refine ah<|
  ke (on rfl) (b_ rfl (F.u rf) rfl) rfl F rfl (congrArg Value.bool (cA nY (by kernel_rfl))) fun _ F=>
  xA F rf rf rf fun _ F=>
  asF<|
  W_ _ _ ?_
 refine asI (F.e 25 rfl) ?_
 refine asE fun K31 ahb=>asE fun K32 aha=>ah<|
  ke (on rfl) (b_ rfl (F.u rf) rfl) rfl F rfl (congrArg Value.bool (cA nY (by kernel_rfl))) fun _ F=>
  xA F rf rf rf fun _ F=>
  asF<|
  aha _ _ ?_
 refine asI (F.e 34 rfl) ?_
 refine asE fun K33 ag_=>ah<|
  ke (on rfl) (b_ rfl (F.u rf) rfl) rfl F rfl (congrArg Value.bool (cA nY (by kernel_rfl))) fun _ F=>
  xA F rf rf rf fun _ F=>
  asF<|
  ag_ _ _ ?_
 refine asI (F.e 34 rfl) ?_
 refine asE fun K34 ag9=>ah<|
  ke (on rfl) (b_ rfl (F.u rf) rfl) rfl F rfl (congrArg Value.bool (cA nY (by kernel_rfl))) fun _ F=>
  xA F rf rf rf fun _ F=>
  asF<|
  ag9 _ _ ?_
 refine asI (F.e 34 rfl) ?_
 refine asE fun K35 ag8=>ah<|
  ke (on rfl) (b_ rfl (F.u rf) rfl) rfl F rfl (congrArg Value.bool (cA nY (by kernel_rfl))) fun _ F=>
  xA F rf rf rf fun _ F=>
  asF<|
  ag8 _ _ ?_
 refine asI (F.e 34 rfl) ?_
 refine asE fun K36 ag7=>ah<|
  ke (on rfl) (b_ rfl (F.u rf) rfl) rfl F rfl (congrArg Value.bool (cA nY (by kernel_rfl))) fun _ F=>
  xA F rf rf rf fun _ F=>
  asF<|
  ag7 _ _ ?_
 refine asI (F.e 34 rfl) ?_
 refine asE fun K37 ag6=>ah<|
  ke (on rfl) (b_ rfl (F.u rf) rfl) rfl F rfl (congrArg Value.bool (cA nY (by kernel_rfl))) fun _ F=>
  xA F rf rf rf fun _ F=>
  asF<|
  ag6 _ _ ?_
 refine asI (F.e 34 rfl) ?_
 refine asE fun K38 ag5=>ah<|
  ke (on rfl) (b_ rfl (F.u rf) rfl) rfl F rfl (congrArg Value.bool (cA nY (by kernel_rfl))) fun _ F=>
  xA F rf rf rf fun _ F=>
  asF<|
  ag5 _ _ ?_
 refine asI (F.e 34 rfl) ?_
 refine asE fun K39 ag4=>ah<|
  ke (on rfl) (b_ rfl (F.u rf) rfl) rfl F rfl (congrArg Value.bool (cA nY (by kernel_rfl))) fun _ F=>
  xA F rf rf rf fun _ F=>
  asF<|
  ag4 _ _ ?_
 refine asI (F.e 34 rfl) ?_
 refine asE fun K40 ag3=>ah<|
  ke (on rfl) (b_ rfl (F.u rf) rfl) rfl F rfl (congrArg Value.bool (cA nY (by kernel_rfl))) fun _ F=>
  xA F rf rf rf fun _ F=>
  asF<|
  ag3 _ _ ?_
 refine asI (F.e 34 rfl) ?_
 refine asE fun K41 ag2=>ah<|
  ke (on rfl) (b_ rfl (F.u rf) rfl) rfl F rfl (congrArg Value.bool (cA nY (by kernel_rfl))) fun _ F=>
  xA F rf rf rf fun _ F=>
  asF<|
  ag2 _ _ ?_
 refine asI (F.e 34 rfl) ?_
 refine asE fun K42 ag1=>ah<|
  ke (on rfl) (b_ rfl (F.u rf) rfl) rfl F rfl (congrArg Value.bool (cA nY (by kernel_rfl))) fun _ F=>
  xA F rf rf rf fun _ F=>
  asF<|
  ag1 _ _ ?_
 refine asI (F.e 34 rfl) ?_
 refine ah<|
  ke (on rfl) (b_ rfl (F.u rf) rfl) rfl F rfl (congrArg Value.bool (cA nY (by kernel_rfl))) fun _ F=>
  xA F rf rf rf fun _ F=>
  asF<|
  ahb _ _ ?_
 refine asI (F.e 34 rfl) ?_;refine asE fun K43 ag0=>ah<|xA (v:=.bool false) F rf rf rf fun _ F=>asF<|ag0 _ _ ?_
 refine wp_ret<|bS _ _ _ _ F rfl ?_;exact⟨rfl,M.below⟩
theorem Kg(w0:World)(s:ByteArray)(hs:dG s)(h:jS s=true):Calls Tryz.prog 318 #[.string s] w0 (fun(r:Ending) (w':World)=>r=.returned (.bool (true))∧asK w0.heap.size w0 w'):=by
 have h1:xE s=true:=(Bool.and_eq_true_iff.1 h).1;have h2:jI s=false:=by have:=(Bool.and_eq_true_iff.1 h).2;simpa using this
 have bS:=hr1 Tryz.prog Tryz.f318 (fun(r:Ending) (w':World)=>r=.returned (.bool (true))∧asK w0.heap.size w0 w') 10 2 rfl;refine en Tryz.func318 rfl Tryz.ntmps318 rfl (vs:=[.string s]) rfl fun _ F=>?_
 have M:=Mm.start w0;refine asE fun K1 jd=>ah<|xA (v:=.bool false) F rf rf rf fun _ F=>asF<|jd _ _ ?_
 refine asE fun K2 jy=>ah<|xM F rf rf rf fun _ F=>xC F M rf rf aft (args1 (F.u rf)) (PU _ s hs h1) fun _ _ F M=>xM F rf rf rf fun _ F=>kv (gn rfl rfl (F.g 5 rfl)) (ef rfl (F.u rf)) rfl F rfl fun _ F=>kc (gn rfl rfl (F.g 5 rfl)) (eZ rfl Tryz.func324 acz rfl (args1 (F.u rf))) (D3 _ s h2) rfl F rfl M fun _ _ F M=>kv (gn rfl rfl (F.g 5 rfl)) (oD rfl (F.u rf)) rfl F rfl fun _ F=>ke (u:=.bool true) (on rfl) (sI rfl (F.u rf) (F.u rf) rfl) rfl F rfl rfl fun _ F=>xA F rf rf rf fun _ F=>asF<|jy _ _ ?_
 refine wp_ret<|bS _ _ _ _ F rfl ?_;exact⟨rfl,M.below⟩
def Cn(op:Int):Int:=if op=1 then 0 else if op=2 then 1 else if op=3 then 2 else if op=4 then 2 else if op=5 then 2 else if op=6 then 2 else if op=7 then 2 else -1
inductive g_:Nat→aq→Prop
 | name {d:Nat} {s:ByteArray}:jS s=true→dG s→g_ (d+1) (.node 1 0 0 0 [s] ay.zero [])
 | not {d:Nat} {k:aq}:g_ d k→g_ (d+1) (.node 2 0 0 0 [] ay.zero [k])
 | bin {d:Nat} {op:Int} {k l:aq}:3≤op→op≤7→g_ d k→g_ d l→g_ (d+1) (.node op 0 0 0 [] ay.zero [k,l])
theorem Wp{op:Int}(h1:3≤op)(h2:op≤7):Cn op=2:=by
 unfold Cn;rcases(show op=3∨op=4∨op=5∨op=6∨op=7 by omega) with rfl|rfl|rfl|rfl|rfl<;>rfl
structure B_ (d:Nat) (e:aq):Prop where
 a:e.a=0
 rel:e.rel=0
 b:e.b=0
 set:e.set=ay.zero
 kids:(e.kids.length:Int)=Cn e.op
 nm:Cn e.op=0→∃ s,e.names=[s]∧jS s=true∧dG s
 nn:Cn e.op≠0→e.names=[]
 kid:∀ k∈e.kids,∃ c,d=c+1∧g_ c k
 pos:1≤d
 op1:Cn e.op=0↔e.op=1
theorem g_.facts{d:Nat}{e:aq}(h:g_ d e):B_ d e:=by
 cases h with
 | name h1 h2=>exact⟨rfl,rfl,rfl,rfl,rfl,fun _=>⟨_,rfl,h1,h2⟩,fun h=>absurd rfl h,fun _ h=>(by cases h),(by omega),⟨fun _=>rfl,fun _=>rfl⟩⟩
 | not h1=>exact⟨rfl,rfl,rfl,rfl,rfl,fun h=>(by cases h),fun _=>rfl,fun k hk=>⟨_,rfl,(by rw[asB.1 hk];exact h1)⟩,(by omega),⟨fun h=>(by cases h),fun h=>(by cases h)⟩⟩
 | @bin d op k l h1 h2 h3 h4=>
  have ho:=Wp h1 h2;refine⟨rfl,rfl,rfl,rfl,by rw[show(aq.node op 0 0 0 [] ay.zero [k,l]).op=op from rfl,ho];rfl,fun h=>?_,fun _=>rfl,fun x hx=>⟨_,rfl,?_⟩,by omega,?_⟩
  ·rw[show(aq.node op 0 0 0 [] ay.zero [k,l]).op=op from rfl,ho] at h;cases h
  ·rcases asM.1 hx with hx|hx
   ·rw[hx];exact h3
   ·rw[asB.1 hx];exact h4
  ·rw[show(aq.node op 0 0 0 [] ay.zero [k,l]).op=op from rfl,ho];exact⟨fun h=>(by cases h),fun h=>by omega⟩
mutual
def bw:aq→List ByteArray
 | .node _ _ _ _ names _ kids=>names++bF kids
def bF:List aq→List ByteArray
 | []=>[]
 | k::l=>bw k++bF l
end
theorem fW(e:aq):bw e=e.names++bF e.kids:=by cases e;rw[bw];rfl
def dW(e:aq)(m:Nat):List ByteArray:=e.names++bF (e.kids.take m)
theorem pV:∀ a b:List aq,bF (a++b)=bF a++bF b
 | [],b=>by rw[bF];rfl
 | k::a,b=>by rw[List.cons_append,bF,bF,pV a b,List.append_assoc]
theorem Az{e:aq}{m:Nat}{y:aq}(hy:e.kids[m]?=some y):dW e (m+1)=dW e m++bw y:=by
 unfold dW;rw[List.take_add_one,hy,pV,Option.toList_some,bF,bF,List.append_nil,List.append_assoc]
theorem PS{e:aq}:dW e e.kids.length=bw e:=by unfold dW;rw[asX,fW]
theorem PO(e:aq):e.names.length≤(bw e).length:=by rw[fW,asQ];omega
theorem La{e:aq}{m:Nat}{y:aq}(hy:e.kids[m]?=some y):(dW e m).length+(bw y).length≤(bw e).length:=by
 have h1:=Az hy;have h2:=congrArg List.length h1;rw[asQ] at h2;have h3:bF e.kids=bF (e.kids.take (m+1))++bF (e.kids.drop (m+1)):=by rw[← pV,List.take_append_drop]
 have h4:=congrArg List.length (fW e);rw[h3] at h4;unfold dW at h2 ⊢;simp only[asQ] at h2 h4 ⊢;omega
theorem ZJ{e:aq}{m n k t:Nat}{y:aq}{v:Value}{xs:List Value}{rs:List Rw}(hy:e.kids[m]?=some y):(⟨v,t,k,n+(dW e m).length+(bw y).length,(xs++(dW e m).flatMap aT)++(bw y).flatMap aT⟩::rs:List Rw)=⟨v,t,k,n+(dW e (m+1)).length,xs++(dW e (m+1)).flatMap aT⟩::rs:=by
 rw[Az hy,asQ,asW,List.append_assoc,Nat.add_assoc]
theorem Wv{e:aq}{n k t:Nat}{v:Value}{xs:List Value}{rs:List Rw}:(⟨v,t,k,n+e.names.length,xs++e.names.flatMap aT⟩::rs:List Rw)=⟨v,t,k,n+(dW e 0).length,xs++(dW e 0).flatMap aT⟩::rs:=by
 have h:dW e 0=e.names:=by unfold dW;rw[List.take_zero,bF,List.append_nil]
 rw[h]
theorem U9(w0:World)(op:Int):Calls Tryz.prog 317 #[.int .i64 op] w0 (fun(r:Ending) (w':World)=>r=.returned (.int .i64 (Cn op))∧asK w0.heap.size w0 w'):=by
 exact bX [] (fn:=Tryz.f317) Tryz.func317 rfl Tryz.ntmps317 rfl<|an (fun a1=>fun M=>⟨ri (by simp_all [Cn]),M.below⟩) fun a1=>an (fun a2=>fun M=>⟨ri (by simp_all [Cn]),M.below⟩) fun a2=>an (fun a3=>an (fun b3=>fun M=>⟨ri (by simp_all [Cn]),M.below⟩) fun b3=>fun M=>⟨ri (by simp_all []),M.below⟩) fun a3=>an (fun a4=>an (fun b4=>fun M=>⟨ri (by simp_all [Cn]),M.below⟩) fun b4=>fun M=>⟨ri (by simp_all []),M.below⟩) fun a4=>an (fun a5=>an (fun b5=>fun M=>⟨ri (by simp_all [Cn]),M.below⟩) fun b5=>fun M=>⟨ri (by simp_all []),M.below⟩) fun a5=>an (fun a6=>an (fun b6=>fun M=>⟨ri (by simp_all [Cn]),M.below⟩) fun b6=>fun M=>⟨ri (by simp_all []),M.below⟩) fun a6=>an (fun a7=>fun M=>⟨ri (by simp_all [Cn]),M.below⟩) fun a7=>fun M=>⟨ri (by simp_all [Cn]),M.below⟩
theorem SN(w0:World)(cs:List Value)(e:aq)(d:Nat)(hE:bh w0 cs e)(hB:g_ d e)(lv:Nat)(hlv:lv≤12):Calls Tryz.prog 306 #[.agg cs.toArray,.int .i64 (lv:Int)] w0 (fun(r:Ending) (w':World)=>r=.returned (.int .i64 (0))∧asK w0.heap.size w0 w'):=by
 have hb:=hB.facts;have hko:=hb.kids;obtain⟨_,_,rfl,hnn,hkk⟩:=hE.open;obtain⟨_,_,rfl,-⟩:=aH.get hnn;obtain⟨_,_,rfl,-⟩:=ak.form hkk (by decide);refine bX [] (fn:=Tryz.f306) Tryz.func306 rfl Tryz.ntmps306 rfl<|fun g1 w1 M1=>lb 0<|an rfl<|cl<|an (U9 _ e.op) fun w2 M2=>?_
 refine an (fun hz=>?_) fun hz=>?_
 all_goals
  refine an (fun h=>?_) fun h=>?_
  ·exact absurd h (by simp;omega)
  refine lb 0<|an (fun _=>rfl)<|lb 0<|an (fun _=>rfl)<|lb 0<|an (fun _=>rfl)<|lb 0<|an (fun _=>rfl)<|ei (x:=.agg #[.int .u64 0,.int .u64 0,.int .u64 0,.int .u64 0])<|an (fun _=>bd (by kernel_rfl))<|ei (x:=decide (e.set=ay.zero))<|an (fun _=>⟨yF,fun w=>xP e.set ay.zero w⟩)<|lb 0<|an (fun _=>rfl)<|lb 0<|an (fun _=>rfl)<|?_
 ·obtain⟨sn,WQ,hsI,hsO⟩:=hb.nm (of_decide_eq_true hz);have hnl:e.names.length=1:=by rw[WQ];rfl
  refine an (fun h2=>?_) fun h2=>?_
  ·exfalso;simp[hb.a,hb.b,hb.rel,hb.set,hnl,← hko] at h2;try omega
  obtain⟨b,o,e1,hc⟩:=SliceAt.elt (i:=0) hnn (fun _=>rfl) (by decide) (show e.names[0]?=some sn by rw[WQ];rfl) (show 0<e.names.length by omega);refine lb 0<|an (fun _=>rfl)<|ia<|an (fun _=>⟨e1,rfl,show 0<e.names.length by omega⟩)<|lc (x:=.string sn)<|an (fun _=>cG M2.below hc 0 _ rfl)<|cl<|an (fun _=>Kg _ sn hsO hsI) fun w3 M3=>?_
  exact an (fun h=>by simp at h) fun h M=>⟨rfl,M.below⟩
 ·have hz:Cn e.op≠0:=of_decide_eq_false hz;have hnl:e.names.length=0:=by rw[hb.nn hz];rfl
  refine an (fun h2=>?_) fun h2=>?_
  ·exfalso;simp[hb.a,hb.b,hb.rel,hb.set,hnl,← hko] at h2;try omega
  refine lb 0<|an (fun _=>rfl)<|ia (b:=0) (off:=0) (i:=0)<|an (fun h=>absurd (of_decide_eq_true h) hz)<|lc (x:=.string ByteArray.empty)<|an (fun h=>absurd (of_decide_eq_true h) hz)<|cl (v:=.bool true)<|an (fun h=>absurd (of_decide_eq_true h) hz) fun w3 M3=>?_
  exact an (fun h=>by simp at h) fun h M=>⟨rfl,M.below⟩
theorem Mi:∀ (e:aq) (w0:World) (cs:List Value) (d lv:Nat),bh w0 cs e→g_ d e→lv+d≤13→Calls Tryz.prog 295 #[.agg cs.toArray,.int .i64 (lv:Int)] w0 (fun(r:Ending) (w':World)=>r=.returned (.int .i64 (0))∧asK w0.heap.size w0 w'):=by
 refine aq.ind fun e ih=>?_
 intro w0 cs d lv hE hB hlv;have hb:=hB.facts;have hE0:=hE;obtain⟨_,_,rfl,hnn,hkk⟩:=hE0.open;obtain⟨_,_,rfl,-⟩:=aH.get hnn;obtain⟨_,_,rfl,-,hkm,-⟩:=ak.form hkk (by decide);refine bX [] (fn:=Tryz.f295) Tryz.func295 rfl Tryz.ntmps295 rfl<|fun g1 w1 M1=>lb 0<|an rfl<|cl<|an (SN _ _ e d (hE.keep M1.below) hB lv (by have:=hb.pos;omega)) fun w2 M2=>?_
 refine an (fun h=>by simp at h) fun _=>?_
 refine lb 0<|an rfl<|lr (ι:=Nat) (fun m=>[(18,.int .i64 (m:Int))]) (fun m _=>m≤e.kids.length) (fun m=>e.kids.length-m) 0 (an ⟨⟨rfl,trivial⟩,fun M=>⟨M,asJ _⟩⟩ ?_);intro m w M hm;refine an (fun h=>?_) fun h M=>⟨rfl,M.below⟩
 have hlt:m<e.kids.length:=by simp at h;omega
 obtain⟨y,hy⟩:∃ y,e.kids[m]?=some y:=⟨_,asN hlt⟩;have sR:=asS hy;obtain⟨b,o,_,e1,rz,hc⟩:=ak.elt hkk (by decide) hy;obtain⟨_,_,rfl,hn2,hk2⟩:=rz.open;obtain⟨_,_,rfl,-⟩:=aH.get hn2;obtain⟨_,_,rfl,-⟩:=ak.form hk2 (by decide);obtain⟨c,rfl,hBk⟩:=hb.kid y sR;refine ia<|an ⟨e1,rfl,hlt⟩<|lc<|an (cG M.below hc)<|ei<|an zI fun g2 w3 M3=>lb 0<|an ⟨rfl,rfl⟩ fun w4 M4=>lb 0<|an rfl<|an (by omega)<|cl<|an (ih y sR _ _ c (lv+1) (rz.keep M4.below) hBk (by omega)) fun w5 M5=>?_
 exact an (fun h=>by simp at h) fun _=>an (by omega)<|bk (m+1) ⟨rfl,trivial⟩ (fun M=>⟨M.only (.cons _ (.refl _)) (.refl _),by omega⟩) (by dsimp only;omega)
theorem Mj(w0:World)(cs:List Value)(e:aq)(d:Nat)(hE:bh w0 cs e)(hB:g_ d e)(hd:d≤12):Calls Tryz.prog 267 #[.agg cs.toArray] w0 (fun(r:Ending) (w':World)=>r=.returned (.int .i64 (0))∧asK w0.heap.size w0 w'):=by
 have hE0:=hE;obtain⟨_,_,rfl,hnn,hkk⟩:=hE0.open;obtain⟨pa9,pc9,rfl,hnk,hnm,Z1⟩:=SliceAt.form hnn (by decide);obtain⟨qa,qc,rfl,hkc,hkm,hcell⟩:=ak.form hkk (by decide);have bS:=hr1 Tryz.prog Tryz.f267 (fun(r:Ending) (w':World)=>r=.returned (.int .i64 (0))∧asK w0.heap.size w0 w') 5 2 rfl;refine en Tryz.func267 rfl Tryz.ntmps267 rfl (vs:=[.agg #[.int .i64 e.op,.int .i64 e.a,.int .i64 e.rel,.int .i64 e.b,.slice pa9 e.names.length pc9,.int .u64 e.set.a,.int .u64 e.set.b,.int .u64 e.set.c,.int .u64 e.set.d,.slice qa e.kids.length qc]]) rfl fun _ F=>?_
 have M:=Mm.start w0;refine asE fun K1 jd=>ah<|NW (on rfl) rfl (F.u rf) rfl F rfl M fun g1 _ _ F M=>xA (v:=.int .i64 0) F rf rf rf fun _ F=>asF<|jd _ _ ?_
 refine asE fun K2 jy=>ah<|xW F (M.b 0 rfl) rf rf rf MZ rf q8 rf fun _ F=>
  xC F M rf rf afu (args2 (F.u rf) rfl) (Mi e _ _ d 1 (hE.keep M.below) hB (by omega)) fun _ _ F M=>
  xA F rf rf rf fun _ F=>
  asF<|
  jy _ _ ?_
 refine wp_ret<|bS _ _ _ _ F rfl ?_;exact⟨rfl,M.below⟩
theorem I8:∀ (e:aq) (wa w0:World) (bs:List Bx) (rs:List Rw) (d:Nat) (v:Value) (n:Nat) (xs:List Value) (cs:List Value),Mm wa w0 bs (⟨v,9,1,n,xs⟩::rs)→bh wa cs e→g_ d e→n+(bw e).length≤100000→Calls Tryz.prog 268 #[v,.agg cs.toArray] w0 (fun(r:Ending) (w':World)=>∃ v',r=.returned v'∧Mm wa w' bs (⟨v',9,1,n+(bw e).length,xs++(bw e).flatMap aT⟩::rs)):=by
 refine aq.ind fun e ih=>?_
 intro wa w0 bs rs d v n xs cs hM hE hB hlen;have hb:=hB.facts;have hko:=hb.kids;obtain⟨_,_,rfl,hnn,hkk⟩:=hE.open;obtain⟨pa9,pc9,rfl,hnk,hnm,-⟩:=SliceAt.form hnn (by decide);obtain⟨qa,qc,rfl,hkc,hkm,hcell⟩:=ak.form hkk (by decide);have hnE:=PO e;have bS:=hr1 Tryz.prog Tryz.f268 (fun(r:Ending) (w':World)=>∃ v',r=.returned v'∧Mm wa w' bs (⟨v',9,1,n+(bw e).length,xs++(bw e).flatMap aT⟩::rs)) 23 4 rfl;refine en Tryz.func268 rfl Tryz.ntmps268 rfl (vs:=[v,.agg #[.int .i64 e.op,.int .i64 e.a,.int .i64 e.rel,.int .i64 e.b,.slice pa9 e.names.length pc9,.int .u64 e.set.a,.int .u64 e.set.b,.int .u64 e.set.c,.int .u64 e.set.d,.slice qa e.kids.length qc]]) rfl fun _ F=>?_
 have M:=hM;refine asE fun K1 jd=>ah<|NW (on rfl) rfl (F.u rf) rfl F rfl M fun g1 _ _ F M=>xA (v:=.slice none 0 0) F rf rf rf fun _ F=>asF<|jd _ _ ?_
 refine asE fun K2 jy=>ah<|xM F rf rf rf fun _ F=>xF 4 F rf rf rf MZ rf afm rf fun _ F=>xL F (M.b 0 rfl) rf rf rf u28 rf rf fun _ F=>
  kp (on rfl) rfl u28 afX rfl M 0 rfl (F.u rf) (F.u rf) (SliceAt.keep hnn M.below) ⟨by unfold maxLen;omega,by omega⟩ rfl F rfl fun v2 _ _ F M=>
  xA F rf rf rf fun _ F=>
  asF<|
  jy _ _ ?_
 refine asE fun K3 qg=>asE fun K4 qd=>ah<|xF 9 F rf rf rf MZ rf Sc rf fun _ F=>xL F (M.b 0 rfl) rf rf rf R4 rf rf fun _ F=>kz F rf (gA rfl (F.u rf) R4) fun _ F=>xM (v:=.int .i64 0) F rf rf rf fun _ F=>asF<|qd _ _ ?_
 refine asG<|?_;refine fH (ι:=Nat×Value) (fun|(m,v2),a,w=>Fs a 23 [(0,v2),(12,.slice qa e.kids.length qc),(13,.int .i64 (e.kids.length:Int)),(14,.int .i64 (m:Int))]∧Mm wa w ([]++bs) ([⟨v2,9,1,n+(dW e m).length,xs++(dW e m).flatMap aT⟩]++rs)∧m≤e.kids.length) (fun|(m,v2)=>e.kids.length-m) (0,v2) ⟨F.sub ⟨rfl,rfl,rfl,rfl,trivial⟩,((M.only (List.sublist_cons_self _ _) (List.Sublist.refl _):Mm wa _ bs _).cast rfl (Wv)),asJ _⟩ ?_
 (repeat clear F);(repeat clear M)
 rintro⟨m,v2⟩ _ _ ⟨F,M,hm⟩;refine asE fun K5 p7=>ah<|kz F rf (j5 rfl (F.u rf) (F.u rf)) fun _ F=>asF<|p7 _ _ ?_
 refine asE fun K6 rM=>?_
 refine asH (F.e 15 rfl) (fun hc3=>?_) (fun hc3=>?_)
 ·have T6:=of_decide_eq_true hc3;refine wp_skip<|rM _ _ ?_;refine asE fun K7 uj=>asG<|asE fun K8 Bc=>?_
  have hlty:m<e.kids.length:=by omega
  obtain⟨y,hy⟩:∃ y,e.kids[m]?=some y:=⟨_,asN hlty⟩;have sR:=asS hy;obtain⟨b9,o9,cs9,rfl,rz,-,hr9⟩:=hcell m y hy;obtain⟨_,_,rfl,agi,hkky⟩:=rz.open;obtain⟨nay,nky,rfl,-⟩:=SliceAt.form agi (by decide);obtain⟨kay,kky,rfl,-⟩:=ak.form hkky (by decide);obtain⟨c,hdc,hBk⟩:=hb.kid y sR
  refine ah<|
   kz F rf (bT (i:=m) rfl (F.u rf) (F.u rf) (by omega) R4 q8) fun _ F=>
   kz F rf (gu [.int .i64 y.op,.int .i64 y.a,.int .i64 y.rel,.int .i64 y.b,.slice nay y.names.length nky,.int .u64 y.set.a,.int .u64 y.set.b,.int .u64 y.set.c,.int .u64 y.set.d,.slice kay y.kids.length kky] rfl (F.u rf) MZ rfl q8 (cG M.below hr9)) fun _ F=>
   Lq (on rfl) rfl zI rfl F rfl M fun g5 _ _ F M=>
   Lm (on rfl) rfl (F.u rf) (F.u rf) F M 0 rfl q8 rfl rfl rfl fun _ M=>
   asF<|
   Bc _ _ ?_
  have amg:=La hy;refine ah<|xM F rf rf rf fun _ F=>xW F (M.b 0 rfl) rf rf rf MZ rf q8 rf fun _ F=>kt (on rfl) (eZ rfl Tryz.func268 X6 rfl (args2 (F.u rf) (F.u rf))) (ih y sR wa _ _ _ c _ _ _ _ M rz hBk (by omega)) rfl F rfl fun v9 _ w9 hR F=>?_
  have M:=hR;refine xA F rf rf rf fun _ F=>asF<|uj _ _ ?_
  refine ah<|
   ke (on rfl) (fS rfl (F.u rf) rfl) rfl F rfl (congrArg (Value.int .i64) (wrap_i64 (by omega))) fun _ F=>
   xM F rf rf rf fun _ F=>
   asF<|?_
  exact⟨(m+1,v9),⟨F.sub ⟨rfl,rfl,rfl,rfl,trivial⟩,((M.only (List.Sublist.append (.cons _ .slnil) (List.Sublist.refl _)) (List.Sublist.refl _))).cast rfl (ZJ hy),by omega⟩,by show e.kids.length-(m+1)<e.kids.length-m;omega⟩
 ·have hd6:=of_decide_eq_false hc3;refine wp_exit<|qg _ _ ?_;refine asE fun K9 zx=>ah<|xM F rf rf rf fun _ F=>xA F rf rf rf fun _ F=>asF<|zx _ _ ?_
  refine wp_ret<|bS _ _ _ _ F rfl ?_;obtain rfl:m=e.kids.length:=by omega
  rw[PS] at M;exact⟨_,rfl,M.only (show List.Sublist bs _ from List.sublist_append_right _ _) (List.Sublist.refl _)⟩
end Go.Proofs.YtdcofoaihmongaaGreat
namespace Go.Proofs.YtdcofoaihmongaaGreat
open Go Go.Proofs Go.Shelf
def Hu:Go.Shelf.Ren:=⟨fun|190=>269|125=>208|258=>296|128=>262|129=>263|302=>307|303=>308|304=>309|305=>310|306=>311|307=>312|308=>313|309=>314|310=>315|333=>319|329=>290|330=>291|334=>320|335=>321|336=>322|344=>325|n=>n,fun|31=>28|9=>9|3=>3|46=>246|0=>0|51=>50|53=>52|4=>4|183=>325|182=>324|131=>161|5=>5|218=>352|222=>356|228=>362|229=>363|n=>n,fun|n=>n⟩
theorem NT:Go.Proofs.Lays.n190 Tryz.prog Hu:={
 mixed:=by kernel_rfl
 f125:=Tryz.func208.trans (congrArg some (by kernel_rfl))
 f128:=Tryz.func262.trans (congrArg some (by kernel_rfl))
 f129:=Tryz.func263.trans (congrArg some (by kernel_rfl))
 f190:=Tryz.func269.trans (congrArg some (by kernel_rfl))
 f258:=Tryz.func296.trans (congrArg some (by kernel_rfl))
 f302:=Tryz.func307.trans (congrArg some (by kernel_rfl))
 f303:=Tryz.func308.trans (congrArg some (by kernel_rfl))
 f304:=Tryz.func309.trans (congrArg some (by kernel_rfl))
 f305:=Tryz.func310.trans (congrArg some (by kernel_rfl))
 f306:=Tryz.func311.trans (congrArg some (by kernel_rfl))
 f307:=Tryz.func312.trans (congrArg some (by kernel_rfl))
 f308:=Tryz.func313.trans (congrArg some (by kernel_rfl))
 f309:=Tryz.func314.trans (congrArg some (by kernel_rfl))
 f310:=Tryz.func315.trans (congrArg some (by kernel_rfl))
 f329:=Tryz.func290.trans (congrArg some (by kernel_rfl))
 f330:=Tryz.func291.trans (congrArg some (by kernel_rfl))
 f333:=Tryz.func319.trans (congrArg some (by kernel_rfl))
 f334:=Tryz.func320.trans (congrArg some (by kernel_rfl))
 f335:=Tryz.func321.trans (congrArg some (by kernel_rfl))
 f336:=Tryz.func322.trans (congrArg some (by kernel_rfl))
 f344:=Tryz.func325.trans (congrArg some (by kernel_rfl))
 t0:=Tryz.underlying0
 a0:=Tryz.isAgg0
 z0:=Tryz.sizeOf0
 v0:=Tryz.zeroValue0
 t3:=Tryz.underlying3
 a3:=Tryz.isAgg3
 z3:=Tryz.sizeOf3
 v3:=Tryz.zeroValue3
 t4:=Tryz.underlying4
 a4:=Tryz.isAgg4
 z4:=Tryz.sizeOf4
 v4:=Tryz.zeroValue4
 t5:=Tryz.underlying5
 a5:=Tryz.isAgg5
 z5:=Tryz.sizeOf5
 v5:=Tryz.zeroValue5
 t9:=Tryz.underlying9
 a9:=Tryz.isAgg9
 z9:=Tryz.sizeOf9
 v9:=Tryz.zeroValue9
 t31:=Tryz.underlying28
 a31:=Tryz.isAgg28
 z31:=Tryz.sizeOf28
 v31:=Tryz.zeroValue28
 t46:=Tryz.underlying246
 a46:=Tryz.isAgg246
 z46:=Tryz.sizeOf246
 v46:=Tryz.zeroValue246
 t51:=Tryz.underlying50
 a51:=Tryz.isAgg50
 z51:=Tryz.sizeOf50
 v51:=Tryz.zeroValue50
 t53:=Tryz.underlying52
 a53:=Tryz.isAgg52
 z53:=Tryz.sizeOf52
 v53:=Tryz.zeroValue52
 t131:=Tryz.underlying161
 a131:=Tryz.isAgg161
 z131:=Tryz.sizeOf161
 v131:=Tryz.zeroValue161
 t182:=Tryz.underlying324
 a182:=Tryz.isAgg324
 z182:=Tryz.sizeOf324
 v182:=Tryz.zeroValue324
 t183:=Tryz.underlying325
 a183:=Tryz.isAgg325
 z183:=Tryz.sizeOf325
 v183:=Tryz.zeroValue325
 t218:=Tryz.underlying352
 a218:=Tryz.isAgg352
 z218:=Tryz.sizeOf352
 v218:=Tryz.zeroValue352
 t222:=Tryz.underlying356
 a222:=Tryz.isAgg356
 z222:=Tryz.sizeOf356
 v222:=Tryz.zeroValue356
 t228:=Tryz.underlying362
 a228:=Tryz.isAgg362
 z228:=Tryz.sizeOf362
 v228:=Tryz.zeroValue362
 t229:=Tryz.underlying363
 a229:=Tryz.isAgg363
 z229:=Tryz.sizeOf363
 v229:=Tryz.zeroValue363 }
def Ht:Go.Shelf.Ren:=⟨fun|194=>270|n=>n,fun|31=>28|9=>9|3=>3|4=>4|0=>0|n=>n,fun|n=>n⟩
theorem NS:Go.Proofs.Lays.n194 Tryz.prog Ht:={
 mixed:=by kernel_rfl
 f194:=Tryz.func270.trans (congrArg some (by kernel_rfl))
 t0:=Tryz.underlying0
 a0:=Tryz.isAgg0
 z0:=Tryz.sizeOf0
 v0:=Tryz.zeroValue0
 t3:=Tryz.underlying3
 a3:=Tryz.isAgg3
 z3:=Tryz.sizeOf3
 v3:=Tryz.zeroValue3
 t4:=Tryz.underlying4
 a4:=Tryz.isAgg4
 z4:=Tryz.sizeOf4
 v4:=Tryz.zeroValue4
 t9:=Tryz.underlying9
 a9:=Tryz.isAgg9
 z9:=Tryz.sizeOf9
 v9:=Tryz.zeroValue9
 t31:=Tryz.underlying28
 a31:=Tryz.isAgg28
 z31:=Tryz.sizeOf28
 v31:=Tryz.zeroValue28 }
open Go.Sort Go.RowKit in
theorem slices_Sort_string(blk off cap:Nat)(ss:List (List UInt8))(w:World)(hH:Holds encStr w blk off ss.toArray)(hblk:blk<w.heap.size)(hsz:ss.length<4611686018427387904):
 Calls Tryz.prog 269 #[.slice (some ⟨blk,off,none⟩) ss.length cap] w fun e w'=>e=.returned (.tuple #[])∧∃ n os,w'=grow (putRow encStr (Sort.ahead w n) blk off (ss.mergeSort fun x y=>decide (x≤y)).toArray) os:=Any.slices_Sort_string NT blk off cap ss w hH hblk hsz
theorem slices_Sort_string_none(p:Option Addr)(cap:Nat)(w:World):
 Calls Tryz.prog 269 #[.slice p 0 cap] w fun e w'=>e=.returned (.tuple #[])∧w'=w:=Any.slices_Sort_string_none NT p cap w
open Go.Sort Go.RowKit in
theorem slices_Compact_string(blk off cap:Nat)(zs:List (List UInt8))(w:World)(hH:Holds encStr w blk off zs.toArray)(hsz:zs.length≤9223372036854775807)(hcap:zs.length≤cap):
 Calls Tryz.prog 270 #[.slice (some ⟨blk,off,none⟩) zs.length cap] w fun e w'=>e=.returned (.slice (some ⟨blk,off,none⟩) (Lib.compact zs).length cap)∧∃ q,w'=putRow encStr (Sort.ahead w q) blk off (Lib.compact zs++List.replicate (zs.length-(Lib.compact zs).length) []).toArray:=Any.slices_Compact_string NS blk off cap zs w hH hsz hcap
theorem slices_Compact_string_empty(a:Option Addr)(cap:Nat)(w:World):
 Calls Tryz.prog 270 #[.slice a 0 cap] w fun e w'=>e=.returned (.slice a 0 cap)∧w'=w:=Any.slices_Compact_string_empty NS a cap w
open Go.Sort Go.RowKit
def dw(s:ByteArray):List UInt8:=s.data.toList
def VR(b:List UInt8):ByteArray:=⟨b.toArray⟩
theorem mQ(s:ByteArray):VR (dw s)=s:=by cases s;simp[VR,dw]
def tE(l:List ByteArray):List ByteArray:=((l.map dw).mergeSort fun x y=>decide (x≤y)).map VR
def lD(l:List ByteArray):List ByteArray:=(Lib.compact (l.map dw)).map VR
theorem DB(l:List ByteArray):l.flatMap aT=(l.map dw).map encStr:=by
 induction l with
 | nil=>rfl
 | cons s l ih=>rw[List.flatMap_cons,List.map_cons,List.map_cons,← ih];show Value.string s::_=Value.string (VR (dw s))::_;rw[mQ];rfl
theorem Dz(l:List (List UInt8)):(l.map VR).flatMap aT=l.map encStr:=by
 induction l with
 | nil=>rfl
 | cons s l ih=>rw[List.map_cons,List.flatMap_cons,List.map_cons,← ih];rfl
theorem QK(w:World)(base:Nat)(v:Value)(n:Nat)(l:List ByteArray)(hn:n=l.length)(h:w.ownsRow base 9 1 v n (l.flatMap aT))(hz:n≤100000001):
 Calls Tryz.prog 269 #[v] w fun e w'=>∃ z,e=.returned z∧w'.ownsRow base 9 1 v n ((tE l).flatMap aT)∧w.grownBy w' v.ownBlock:=by
 subst hn;unfold tE;rw[DB] at h;rw[Dz];rcases h.2 with⟨rfl,h0⟩|⟨g,cap,cur,rfl,hg,hh,h1,h2,h3,h4⟩
 ·have:l=[]:=List.eq_nil_of_length_eq_zero h0;subst this;refine(slices_Sort_string_none none 0 w).mono ?_;rintro e w' ⟨rfl,rfl⟩;exact⟨_,rfl,by simpa using h,World.grownBy.refl _ _⟩
 ·have hl:(l.map dw).length=l.length:=asZ ..;rw[← hl] at h1 ⊢;refine(slices_Sort_string g 0 cap (l.map dw) w (holds_of_block hh (by rw[Nat.mul_one,← hl] at h4;exact h4)) (Array.getElem?_eq_some_iff.1 hh).1 (by rw[hl];omega)).mono ?_;rintro e w' ⟨rfl,n,os,rfl⟩;exact⟨_,rfl,ownsRow_sorted (List.length_mergeSort _) hg hh h1 h2 h3,grownBy_sorted _⟩
theorem yC:∀ l:List (List UInt8),(Lib.compact l).length≤l.length:=fun l=>by
 unfold Lib.compact Lib.compactUpTo;rw[asZ];exact asC (List.length_filter_le _ _) (by rw[List.length_range];omega)
theorem jU(d:Array (List UInt8))(x:List UInt8):∀ m,(x∈Lib.compactUpTo d m↔∃ j,j<m∧d[j]! = x)
 | 0=>by simp[Lib.compactUpTo]
 | m+1=>by
  rw[Lib.compactUpTo_succ,asL,jU d x m];constructor
  ·rintro(⟨j,hj,h⟩|h)
   ·exact⟨j,by omega,h⟩
   ·split at h
    ·exact⟨m,by omega,(asB.1 h).symm⟩
    ·cases h
  ·rintro⟨j,hj,h⟩;by_cases hk:Lib.keeps d m=true
   ·by_cases hjm:j=m
    ·subst hjm;right;rw[if_pos hk];exact asB.2 h.symm
    ·exact .inl ⟨j,by omega,h⟩
   ·left;by_cases hjm:j=m
    ·subst hjm;have h3:¬ (j=0∨d[j]!≠d[j-1]!):=fun h4=>hk (decide_eq_true h4)
     have h4:j≠0:=fun e=>h3 (.inl e)
     have h5:d[j]! = d[j-1]!:=Classical.byContradiction fun e=>h3 (.inr e)
     exact⟨j-1,by omega,by rw[← h5,h]⟩
    ·exact⟨j,by omega,h⟩
theorem xU(l:List (List UInt8))(x:List UInt8):x∈Lib.compact l↔x∈l:=by
 unfold Lib.compact;rw[jU];constructor
 ·rintro⟨j,hj,rfl⟩;rw[getElem!_pos l.toArray j (by simpa using hj)];simp
 ·intro h;obtain⟨j,hj,rfl⟩:=List.getElem_of_mem h;exact⟨j,hj,by rw[getElem!_pos l.toArray j (by simpa using hj)];simp⟩
theorem Ur(w:World):grow w #[]=w:=by simp[grow]
theorem FU(w:World)(base:Nat)(v:Value)(n:Nat)(l:List ByteArray)(hn:n=l.length)(h:w.ownsRow base 9 1 v n (l.flatMap aT))(hz:n≤100000001):
 Calls Tryz.prog 270 #[v] w fun e w'=>∃ v',e=.returned v'∧w'.ownsRow base 9 1 v' (lD l).length ((lD l).flatMap aT)∧w.grownBy w' v.ownBlock∧v'.ownBlock=v.ownBlock:=by
 subst hn;unfold lD;rw[DB] at h;rw[Dz];rcases h.2 with⟨rfl,h0⟩|⟨g,cap,cur,rfl,hg,hh,h1,h2,h3,h4⟩
 ·have:l=[]:=List.eq_nil_of_length_eq_zero h0;subst this;refine(slices_Compact_string_empty none 0 w).mono ?_;rintro e w' ⟨rfl,rfl⟩;refine⟨_,rfl,?_,World.grownBy.refl _ _,rfl⟩;rw[show([]:List ByteArray).map dw=[] from rfl,show Lib.compact ([]:List (List UInt8))=[] from rfl];simpa using h
 ·have hl:(l.map dw).length=l.length:=asZ ..;have hc:=yC (l.map dw);rw[← hl] at h1 ⊢;refine(slices_Compact_string g 0 cap (l.map dw) w (holds_of_block hh (by rw[Nat.mul_one,← hl] at h4;exact h4)) (by rw[hl];omega) h1).mono ?_;rintro e w' ⟨rfl,q,rfl⟩;have hb:=heap_sorted (n:=q) (os:=#[]) (Lib.compact (l.map dw)++List.replicate ((l.map dw).length-(Lib.compact (l.map dw)).length) []).toArray hh;have hgr:=grownBy_sorted (w:=w) (g:=g) (n:=q) (os:=#[]) (Lib.compact (l.map dw)++List.replicate ((l.map dw).length-(Lib.compact (l.map dw)).length) []).toArray;rw[Ur] at hb hgr;refine⟨_,rfl,⟨by simp,.inr ⟨g,cap,_,by rw[asZ],hg,hb,by rw[asZ];omega,h2,by simp[putCells,h3],?_⟩⟩,hgr,rfl⟩;have ht:=take_putCells cur (Lib.compact (l.map dw)++List.replicate ((l.map dw).length-(Lib.compact (l.map dw)).length) []) (by rw[asQ,List.length_replicate];omega);have ht2:=congrArg (List.take (Lib.compact (l.map dw)).length) ht;rw[List.take_take,List.map_append,List.take_left' (asZ ..),Nat.min_eq_left (by rw[asQ];omega)] at ht2;rw[asZ,Nat.mul_one];exact ht2
theorem Pf(l:List ByteArray)(s:ByteArray):s∈tE l↔s∈l:=by
 unfold tE;constructor
 ·intro h;obtain⟨b,hb,rfl⟩:=as0.1 h;rw[List.mem_mergeSort] at hb;obtain⟨t,ht,rfl⟩:=as0.1 hb;rw[mQ];exact ht
 ·intro h;exact as0.2 ⟨dw s,List.mem_mergeSort.2 (List.mem_map_of_mem h),mQ s⟩
theorem Pg(l:List ByteArray):(tE l).length=l.length:=by unfold tE;rw[asZ,List.length_mergeSort,asZ]
theorem E4(l:List ByteArray)(s:ByteArray):s∈lD l↔s∈l:=by
 unfold lD;constructor
 ·intro h;obtain⟨b,hb,rfl⟩:=as0.1 h;obtain⟨t,ht,rfl⟩:=as0.1 ((xU _ _).1 hb);rw[mQ];exact ht
 ·intro h;exact as0.2 ⟨dw s,(xU _ _).2 (List.mem_map_of_mem h),mQ s⟩
def ct(e:aq):List ByteArray:=lD (tE (bw e))
theorem nP(e:aq)(s:ByteArray):s∈ct e↔s∈bw e:=by unfold ct;rw[E4,Pf]
end Go.Proofs.YtdcofoaihmongaaGreat
namespace Go.Proofs.YtdcofoaihmongaaGreat
open Go Go.RowKit
theorem Wu{e:aq}{t k:Nat}{v:Value}{rs:List Rw}:(⟨v,t,k,0+(bw e).length,[]++(bw e).flatMap aT⟩::rs:List Rw)=⟨v,t,k,(bw e).length,(bw e).flatMap aT⟩::rs:=by rw[Nat.zero_add,List.nil_append]
theorem g_.len2{d:Nat}{e:aq}(h:g_ d e):(bw e).length≤2^d:=by
 induction h with
 | @name d s h1 h2=>rw[bw,bF];exact Nat.one_le_two_pow
 | @not d k h1 ih=>rw[bw,bF,bF,Nat.pow_succ];simp only[List.nil_append,List.append_nil];omega
 | @bin d op k l h1 h2 h3 h4 ih1 ih2=>rw[bw,bF,bF,bF,Nat.pow_succ];simp only[List.nil_append,List.append_nil,asQ];omega
theorem g_.len{d:Nat}{e:aq}(h:g_ d e)(hd:d≤12):(bw e).length≤4096:=asC h.len2 (Nat.pow_le_pow_right (by decide:0<2) hd)
theorem Mg(w0:World)(cs:List Value)(e:aq)(d:Nat)(hE:bh w0 cs e)(hB:g_ d e)(hd:d≤12):Calls Tryz.prog 229 #[.agg cs.toArray] w0 (fun(r:Ending) (w':World)=>∃ v',r=.returned v'∧(w'.ownsRow w0.heap.size 9 1 v' (ct e).length ((ct e).flatMap aT)∧asK w0.heap.size w0 w')):=by
 have hln:=hB.len hd;have hE0:=hE;obtain⟨_,_,rfl,hnn,hkk⟩:=hE0.open;obtain⟨pa9,pc9,rfl,hnk,hnm,Z1⟩:=SliceAt.form hnn (by decide);obtain⟨qa,qc,rfl,hkc,hkm,hcell⟩:=ak.form hkk (by decide);have bS:=hr1 Tryz.prog Tryz.f229 (fun(r:Ending) (w':World)=>∃ v',r=.returned v'∧(w'.ownsRow w0.heap.size 9 1 v' (ct e).length ((ct e).flatMap aT)∧asK w0.heap.size w0 w')) 13 2 rfl;refine en Tryz.func229 rfl Tryz.ntmps229 rfl (vs:=[.agg #[.int .i64 e.op,.int .i64 e.a,.int .i64 e.rel,.int .i64 e.b,.slice pa9 e.names.length pc9,.int .u64 e.set.a,.int .u64 e.set.b,.int .u64 e.set.c,.int .u64 e.set.d,.slice qa e.kids.length qc]]) rfl fun _ F=>?_
 have M:=Mm.start w0;refine asE fun K1 jd=>ah<|NW (on rfl) rfl (F.u rf) rfl F rfl M fun g1 _ _ F M=>xA (v:=.slice none 0 0) F rf rf rf fun _ F=>asF<|jd _ _ ?_
 refine asE fun K2 jy=>asE fun K3 qg=>ah<|xW F (M.b 0 rfl) rf rf rf MZ rf q8 rf fun _ F=>xC F M rf rf afv (args1 (F.u rf)) (Mj _ _ e d (hE.keep M.below) hB hd) fun _ _ F M=>ke (on rfl) (U0 rfl (F.u rf) rfl) rfl F rfl (show Value.bool (!decide ((0:Int)=0))=_ from rfl) fun _ F=>asF<|qg _ _ ?_
 refine asI (F.e 6 rfl) ?_;refine wp_skip<|jy _ _ ?_;refine asE fun K4 qd=>ah<|xW F (M.b 0 rfl) rf rf rf MZ rf q8 rf fun _ F=>kt (on rfl) (eZ rfl Tryz.func268 X6 rfl (args2 rfl (F.u rf))) (I8 e w0 _ _ _ d _ _ _ _ (M.cL 9 1) hE hB (by omega)) rfl F rfl fun v9 _ w9 hR F=>?_
 have M:=hR.cast rfl (Wu (e:=e));refine xA F rf rf rf fun _ F=>asF<|qd _ _ ?_
 refine asE fun K5 p7=>ah<|xM F rf rf rf fun _ F=>kt (on rfl) (eZ rfl Tryz.func269 acB rfl (args1 (F.u rf))) (QK _ w0.heap.size _ _ (bw e) rfl (M.r 0 rfl) (by omega)) rfl F rfl fun z9 _ w9 hR F=>?_
 have M:=M.grow 0 rfl hR.1 hR.2 (.inl rfl);refine asF<|p7 _ _ ?_;refine asE fun K6 rM=>ah<|xM F rf rf rf fun _ F=>kt (on rfl) (eZ rfl Tryz.func270 acA rfl (args1 (F.u rf))) (FU _ w0.heap.size _ _ (tE (bw e)) (Pg _).symm (M.r 0 rfl) (by omega)) rfl F rfl fun v8 _ w9 hR F=>?_
 have M:=M.grow 0 rfl hR.1 hR.2.1 (.inl hR.2.2);refine xA F rf rf rf fun _ F=>asF<|rM _ _ ?_
 refine wp_ret<|bS _ _ _ _ F rfl ?_;exact⟨_,rfl,M.r 0 rfl,M.below⟩
theorem Ka{n:Nat}(h:n≤5):0≤aI n+1-1∧aI n+1-1≤18446744073709551615:=by
 rcases(show n=0∨n=1∨n=2∨n=3∨n=4∨n=5 by omega) with rfl|rfl|rfl|rfl|rfl|rfl<;>exact⟨by decide,by decide⟩
def yE(l:List ByteArray)(s:ByteArray):Nat:=l.findIdx (fun y=>decide (s=y))
theorem WK{l:List ByteArray}{x:ByteArray}{m:Nat}{y:ByteArray}(hy:l[m]?=some y)(h:∀ j z,j<m→l[j]?=some z→x≠z)(e:x=y):(m:Int)=(yE l x:Int):=by
 unfold yE;obtain⟨hm,hy'⟩:=asO.1 hy;rw[(List.findIdx_eq hm).2 ⟨by rw[hy'];simpa using e,fun j hj=>by simpa using h j (l[j]) hj (asN (by omega))⟩]
theorem TN{l:List ByteArray}{x:ByteArray}{m:Nat}(hm:m=l.length)(h:∀ j z,j<m→l[j]?=some z→x≠z)(hx:x∈l):False:=by
 obtain⟨j,hj,e⟩:=List.getElem_of_mem hx;exact h j x (by omega) (by rw[asN hj,e]) rfl
theorem zq{l:List ByteArray}{x:ByteArray}(hx:x∈l):yE l x<l.length:=List.findIdx_lt_length.2 ⟨x,hx,by simp⟩
theorem Qc{l:List ByteArray}{x y:ByteArray}{m:Nat}(hy:l[m]?=some y)(h:∀ j z,j<m→l[j]?=some z→x≠z)(hne:x≠y):∀ j z,j<m+1→l[j]?=some z→x≠z:=fun j z hj hz=>by
 by_cases e:j=m
 ·subst e;rw[hy] at hz;cases hz;exact hne
 ·exact h j z (by omega) hz
def PB(op:Int):Nat:=if op=3 then 297 else if op=4 then 298 else if op=6 then 299 else 300
def JB(op x y:Int):Int:=if op=3 then bits .and .u64 x y else if op=4 then bits .or .u64 x y else if op=6 then bits .xor .u64 18446744073709551615 (bits .xor .u64 x y) else bits .xor .u64 x y
def R_(ns:List ByteArray)(op:Int)(names:List ByteArray)(l:List Int):Int:=
 if op=1 then eu (yE ns (names.getD 0 ⟨#[]⟩):Int) 64 else if op=2 then bits .xor .u64 18446744073709551615 (l.getD 0 0) else JB op (l.getD 0 0) (l.getD 1 0)
mutual
def fE(ns:List ByteArray):aq→Int
 | .node op _ _ _ names _ kids=>R_ ns op names (O8 ns kids)
def O8(ns:List ByteArray):List aq→List Int
 | []=>[]
 | k::l=>fE ns k::O8 ns l
end
theorem D4(ns:List ByteArray)(e:aq):fE ns e=R_ ns e.op e.names (O8 ns e.kids):=by cases e;rw[fE];rfl
theorem tD(ns:List ByteArray):∀ (l:List aq) (i:Nat) {y:aq},l[i]?=some y→(O8 ns l).getD i 0=fE ns y
 | [],_,_,h=>by simp at h
 | k::l,0,y,h=>by
  rw[O8];obtain rfl:k=y:=by simpa using h
  rfl
 | k::l,i+1,y,h=>by
  rw[O8];simpa using tD ns l i (by simpa using h)
theorem Og{x y:ByteArray}(h:(x.toList == y.toList)=true):x=y:=of_decide_eq_true ((nH x y).symm.trans h)
theorem UG{x y:ByteArray}(h:(x.toList == y.toList)=false):x≠y:=of_decide_eq_false ((nH x y).symm.trans h)
theorem QJ(w0:World)(nB:Nat)(hn:nB≤5):Calls Tryz.prog 230 #[.int .i64 (nB:Int)] w0 (fun(r:Ending) (w':World)=>r=.returned (.int .u64 (aI nB))∧asK w0.heap.size w0 w'):=by
 have Yg:=nt6 hn;refine bX [] (fn:=Tryz.f230) Tryz.func230 rfl Tryz.ntmps230 rfl<|ei (x:=.int .i64 ((2^nB:Nat):Int))<|an (fun a w o ho hv=>(k_ ho (dJ hv) (dX hv) (by omega) (show _≤((64:Nat):Int) by omega)).trans (by rw[nt1 hn]))<|an (fun h=>absurd h (by simp only[decide_eq_true_eq];omega)) fun _=>ei (x:=.int .u64 ((2^nB:Nat):Int))<|an (fun a w o ho hv=>(k_ ho (dJ hv) (dX hv) (by omega) (show _≤((64:Nat):Int) by omega)).trans (by rw[nt3 hn]))<|ei (x:=.int .u64 (aI nB+1))<|an (fun a w o ho hv=>(k_ ho (dJ hv) (dX hv) (Int.natCast_nonneg _) (Int.ofNat_le.2 (asC Yg (by decide)))).trans (by rw[nt4 hn]))<|an (Ka hn) fun M=>⟨congrArg (fun q:Int=>Ending.returned (.int .u64 q)) (show aI nB+1-1=aI nB by omega),M.below⟩
theorem Sz(w0:World)(x y:Int):Calls Tryz.prog 297 #[.agg #[.int .u64 x,.int .u64 y]] w0 (fun(r:Ending) (w':World)=>r=.returned (.int .u64 (bits .and .u64 x y))∧asK w0.heap.size w0 w'):=
 bX [] (fn:=Tryz.f297) Tryz.func297 rfl Tryz.ntmps297 rfl<|fun _ _ _=>lb 0<|an rfl<|lb 0<|an rfl<|ei (x:=bits .and .u64 x y)<|an rfl fun M=>⟨rfl,M.below⟩
theorem Wl(w0:World)(x y:Int):Calls Tryz.prog 298 #[.agg #[.int .u64 x,.int .u64 y]] w0 (fun(r:Ending) (w':World)=>r=.returned (.int .u64 (bits .or .u64 x y))∧asK w0.heap.size w0 w'):=
 bX [] (fn:=Tryz.f298) Tryz.func298 rfl Tryz.ntmps298 rfl<|fun _ _ _=>lb 0<|an rfl<|lb 0<|an rfl<|ei (x:=bits .or .u64 x y)<|an rfl fun M=>⟨rfl,M.below⟩
theorem Px(w0:World)(x y:Int):Calls Tryz.prog 299 #[.agg #[.int .u64 x,.int .u64 y]] w0 (fun(r:Ending) (w':World)=>r=.returned (.int .u64 (bits .xor .u64 18446744073709551615 (bits .xor .u64 x y)))∧asK w0.heap.size w0 w'):=
 bX [] (fn:=Tryz.f299) Tryz.func299 rfl Tryz.ntmps299 rfl<|fun _ _ _=>lb 0<|an rfl<|lb 0<|an rfl<|ei (x:=bits .xor .u64 x y)<|an rfl<|ei (x:=.int .u64 (bits .xor .u64 18446744073709551615 (bits .xor .u64 x y)))<|an (fun _ _ _ ho hv=>Oo ho (dJ hv)) fun M=>⟨rfl,M.below⟩
theorem G5(w0:World)(x y:Int):Calls Tryz.prog 300 #[.agg #[.int .u64 x,.int .u64 y]] w0 (fun(r:Ending) (w':World)=>r=.returned (.int .u64 (bits .xor .u64 x y))∧asK w0.heap.size w0 w'):=
 bX [] (fn:=Tryz.f300) Tryz.func300 rfl Tryz.ntmps300 rfl<|fun _ _ _=>lb 0<|an rfl<|lb 0<|an rfl<|ei (x:=bits .xor .u64 x y)<|an rfl fun M=>⟨rfl,M.below⟩
theorem Ei(w0:World)(op:Int):Calls Tryz.prog 273 #[.int .i64 op] w0 (fun(r:Ending) (w':World)=>r=.returned (.func (.func (PB op)) #[] #[])∧asK w0.heap.size w0 w'):=by
 exact bX [] (fn:=Tryz.f273) Tryz.func273 rfl Tryz.ntmps273 rfl<|an (fun a=>fun M=>⟨congrArg (fun n:Nat=>Ending.returned (.func (.func n) #[] #[])) (by unfold PB;simp_all),M.below⟩) fun a=>an (fun b=>fun M=>⟨congrArg (fun n:Nat=>Ending.returned (.func (.func n) #[] #[])) (by unfold PB;simp_all),M.below⟩) fun b=>an (fun c=>fun M=>⟨congrArg (fun n:Nat=>Ending.returned (.func (.func n) #[] #[])) (by unfold PB;simp_all),M.below⟩) fun c=>fun M=>⟨congrArg (fun n:Nat=>Ending.returned (.func (.func n) #[] #[])) (by unfold PB;simp_all),M.below⟩
theorem Lw(w0:World)(v:Value)(l:List ByteArray)(h:SliceAt w0 v 1 l.length (l.flatMap aT))(x:ByteArray)(hx:x∈l):Calls Tryz.prog 272 #[v,.string x] w0 (fun(r:Ending) (w':World)=>r=.returned (.int .i64 ((yE l x:Int)))∧asK w0.heap.size w0 w'):=by
 obtain⟨_,_,rfl,-,hm5,-⟩:=SliceAt.form h (by decide);refine bX [] (fn:=Tryz.f272) Tryz.func272 rfl Tryz.ntmps272 rfl<|lr (ι:=Nat) (fun m=>[(8,.int .i64 (m:Int))]) (fun m _=>m≤l.length∧∀ j z,j<m→l[j]?=some z→x≠z) (fun m=>l.length-m) 0 (an ⟨⟨rfl,trivial⟩,fun M=>⟨M,asJ _,fun j z h=>absurd h (Nat.not_lt_zero j)⟩⟩ ?_);intro m w M ⟨hm,hno⟩;refine an (fun h1=>?_) fun h1 M=>?_
 ·have hlt:m<l.length:=by simp at h1;omega
  obtain⟨y,hy⟩:∃ y,l[m]?=some y:=⟨_,asN hlt⟩;obtain⟨b,o,e,hc⟩:=SliceAt.elt h (fun _=>rfl) (by decide) hy hlt;refine ia<|an ⟨e,rfl,hlt⟩<|lc (x:=.string y)<|an (cG M.below hc 0 _ rfl)<|?_;refine an (fun h2 M=>⟨ri (WK hy hno (Og h2)).symm,M.below⟩) fun h2=>?_
  exact an (by omega)<|bk (m+1) ⟨rfl,trivial⟩ (fun M=>⟨M,by omega,Qc hy hno (UG h2)⟩) (by dsimp only;omega)
 ·exact(TN (by simp at h1;omega) hno hx).elim
theorem Me(w0:World)(bi:Int)(hb0:0≤bi)(hb1:bi≤60)(nB:Nat)(hn:nB≤5):Calls Tryz.prog 271 #[.int .i64 bi,.int .i64 (nB:Int)] w0 (fun(r:Ending) (w':World)=>∃ v,r=.returned v∧((bL w' w0.heap.size v (eu bi 64))∧asK w0.heap.size w0 w')):=by
 have Yg:=nt6 hn;refine bX [] (fn:=Tryz.f271) Tryz.func271 rfl Tryz.ntmps271 rfl<|ei (x:=.int .i64 ((2^nB:Nat):Int))<|an (fun a w o ho hv=>(k_ ho (dJ hv) (dX hv) (by omega) (show _≤((64:Nat):Int) by omega)).trans (by rw[nt1 hn]))<|ei (x:=.int .i64 0)<|an (fun a w o ho hv=>(IC ho (dJ hv) (dX hv) (by decide)).trans (by rw[nt2 hn]))<|fbp (Mm.start w0) (v:=.int .i64 1) (fun a o ho hv=>Bu ho (dJ hv) (dX hv))<|mz1 (Mm.start w0) afi H6 Rz rfl (by decide) fun g w1 M1=>lp (ι:=Nat×Int) (fun(t,x)=>[(15,.int .i64 (t:Int))]) (fun(t,x)=>[(g,52,#[.int .u64 x])]) (fun _=>[]) (fun(t,x) _=>t≤1∧(t=0→x=0)∧(t=1→x=eu bi 64)) (fun(t,x)=>1-t) (0,0) (an ⟨⟨rfl,trivial⟩,fun M=>⟨M,asJ _,(fun _=>rfl),fun h=>by cases h⟩⟩ ?_)
 rintro⟨t,x⟩ w M ⟨ht,hx0,hx1⟩;refine an (fun h=>?_) fun h M=>⟨_,rfl,⟨_,rfl,(by have hW:=M.b 0 rfl;rw[hx1 (by simp at h;omega)] at hW;exact hW),M.lo _ (asS (i:=0) rfl)⟩,M.below⟩
 obtain rfl:t=0:=by simp at h;omega
 obtain rfl:=hx0 rfl;refine lp (ι:=Nat×Int) (fun(k,x)=>[(18,.int .i64 (k:Int))]) (fun(k,x)=>[(g,52,#[.int .u64 x])]) (fun _=>[]) (fun(k,x) _=>k≤64∧x=eu bi k) (fun(k,x)=>64-k) (0,0) (an ⟨⟨rfl,trivial⟩,fun M=>⟨M,asJ _,rfl⟩⟩ ?_);rintro⟨k,x⟩ w M ⟨hk,rfl⟩;refine an (fun h=>?_) fun h=>?_
 ·have hlt:k<64:=by simp at h;omega
  refine an (by omega)<|an (by omega)<|ei<|an (fun a w o ho hv=>YK ho (dJ hv) (dX hv) hb0 (show _≤((64:Nat):Int) by omega))<|ei<|an rfl<|an (fun h2=>?_) fun h2=>?_
  ·have hbit:jA bi k=true:=h2;exact dr (by kernel_rfl)<|ia (i:=0)<|an ⟨rfl,rfl,by decide⟩<|lb 0<|an rfl<|ei<|an (fun a w o ho hv=>k_ ho (dJ hv) (dX hv) (by omega) (show _≤((64:Nat):Int) by omega))<|ei<|an (BK hbit).symm<|ia (i:=0)<|an ⟨rfl,rfl,by decide⟩<|fun w3 zu M3=>lb 0<|an ⟨⟨rfl,rfl⟩,Nat.le_refl _⟩ fun w4 M4=>an (by omega)<|bk (k+1,eu bi (k+1)) ⟨rfl,trivial⟩ (fun M=>⟨M,by omega,rfl⟩) (by dsimp only;omega)
  ·have hbit:jA bi k=false:=h2;exact an (by omega)<|bk (k+1,eu bi k) ⟨rfl,trivial⟩ (fun M=>⟨M,by omega,(DE hbit).symm⟩) (by dsimp only;omega)
 ·obtain rfl:k=64:=by simp at h;omega
  exact an (by omega)<|bk (1,eu bi 64) ⟨rfl,trivial⟩ (fun M=>⟨M,by omega,(fun h=>by cases h),fun _=>rfl⟩) (by dsimp only;omega)
inductive OpW (op:Int):Prop
 | and (h:PB op=297) (hb:∀ x y,JB op x y=bits .and .u64 x y)
 | or (h:PB op=298) (hb:∀ x y,JB op x y=bits .or .u64 x y)
 | same (h:PB op=299) (hb:∀ x y,JB op x y=bits .xor .u64 18446744073709551615 (bits .xor .u64 x y))
 | diff (h:PB op=300) (hb:∀ x y,JB op x y=bits .xor .u64 x y)
theorem opW(op:Int):OpW op:=by
 by_cases h3:op=3
 ·exact .and (by unfold PB;rw[if_pos h3]) (fun x y=>by unfold JB;rw[if_pos h3])
 by_cases h4:op=4
 ·exact .or (by unfold PB;rw[if_neg h3,if_pos h4]) (fun x y=>by unfold JB;rw[if_neg h3,if_pos h4])
 by_cases h6:op=6
 ·exact .same (by unfold PB;rw[if_neg h3,if_neg h4,if_pos h6]) (fun x y=>by unfold JB;rw[if_neg h3,if_neg h4,if_pos h6])
 ·exact .diff (by unfold PB;rw[if_neg h3,if_neg h4,if_neg h6]) (fun x y=>by unfold JB;rw[if_neg h3,if_neg h4,if_neg h6])
theorem B_.acS{d:Nat}{e:aq}(h:B_ d e)(h1:e.op≠1):0<e.kids.length:=by
 have h2:=h.kids;have h3:Cn e.op≠0:=fun h4=>h1 (h.op1.1 h4)
 omega
theorem B_.acR{d:Nat}{e:aq}(h:g_ d e)(h1:e.op≠1)(h2:e.op≠2):1<e.kids.length:=by
 cases h with
 | name _ _=>exact absurd rfl h1
 | not _=>exact absurd rfl h2
 | bin _ _ _ _=>exact Nat.lt_succ_self 1
theorem mX{e k:aq}(hk:k∈e.kids){s:ByteArray}(hs:s∈bw k):s∈bw e:=by
 rw[fW];refine List.mem_append_right _ ?_
 have:∀ l:List aq,k∈l→s∈bF l:=fun l=>by
  induction l with
  | nil=>intro h;cases h
  | cons a l ih=>
   intro h;rw[bF];rcases asM.1 h with rfl|h
   ·exact List.mem_append_left _ hs
   ·exact List.mem_append_right _ (ih h)
 exact this _ hk
theorem GQ{ns:List ByteArray}{e:aq}{sn:ByteArray}(h1:e.op=1)(hs:e.names=[sn]):fE ns e=eu (yE ns sn:Int) 64:=by
 rw[D4,R_,if_pos h1,hs];rfl
theorem Nc{ns:List ByteArray}{e y:aq}(h1:e.op≠1)(h2:e.op=2)(hy:e.kids[0]?=some y):fE ns e=bits .xor .u64 18446744073709551615 (fE ns y):=by
 rw[D4,R_,if_neg h1,if_pos h2,tD _ _ _ hy]
theorem Nd{ns:List ByteArray}{e y z:aq}(h1:e.op≠1)(h2:e.op≠2)(hy:e.kids[0]?=some y)(hz:e.kids[1]?=some z):fE ns e=JB e.op (fE ns y) (fE ns z):=by
 rw[D4,R_,if_neg h1,if_neg h2,tD _ _ _ hy,tD _ _ _ hz]
theorem O7(ns:List ByteArray)(hn:ns.length≤5):∀ (e:aq) (w0:World) (cs:List Value) (d:Nat),bh w0 cs e→g_ d e→∀ lv:Value,SliceAt w0 lv 1 ns.length (ns.flatMap aT)→(∀ s∈bw e,s∈ns)→Calls Tryz.prog 231 #[.agg cs.toArray,lv] w0 (fun(r:Ending) (w':World)=>∃ v,r=.returned v∧((bL w' w0.heap.size v (fE ns e))∧asK w0.heap.size w0 w')):=by
 refine aq.ind fun e ih=>?_
 intro w0 cs d hE hB lv hL hns;have hb:=hB.facts;obtain⟨nv,kv,rfl,NY,hk⟩:=hE.open;obtain⟨_,_,rfl,-,hng⟩:=aH.get NY;obtain⟨_,_,rfl,-,H9,-⟩:=ak.form hk (by decide);obtain⟨_,_,rfl,-⟩:=SliceAt.form hL (by decide);refine bX [] (fn:=Tryz.f231) Tryz.func231 rfl Tryz.ntmps231 rfl<|fun g1 w1 M1=>lb 0<|an rfl<|an (fun h=>?_) fun h=>?_
 ·have h1:e.op=1:=by simpa using h
  obtain⟨sn,WQ,hsI,hsO⟩:=hb.nm (hb.op1.2 h1);have iN:sn∈ns:=hns sn (by rw[fW,WQ];exact List.mem_append_left _ (asB.2 rfl));have hix:=zq iN;obtain⟨b,o,e1,hc⟩:=hng 0 sn (by rw[WQ];rfl);exact lb 0<|an rfl<|ia (i:=0)<|an ⟨e1,rfl,by rw[WQ];exact Nat.zero_lt_one⟩<|lc (x:=.string sn)<|an (cell_later M1.below hc)<|cl<|an (Lw _ _ ns (hL.keep M1.below) sn iN) fun w2 M2=>cst M2 (Me _ (yE ns sn:Int) (by omega) (by omega) ns.length hn) fun g w M M=>⟨_,rfl,⟨_,rfl,by have hW:=M.b 0 rfl;rw[GQ h1 WQ];exact hW,M.lo _ (asS (i:=0) rfl)⟩,M.below⟩
 have h1:e.op≠1:=by simpa using h
 have Yh:=hb.acS h1;obtain⟨y,hy⟩:∃ y,e.kids[0]?=some y:=⟨_,asN Yh⟩;have sR:=asS hy;obtain⟨b,o,_,e1,rz,hc⟩:=ak.elt hk (by decide) hy;obtain⟨nv',kv',rfl,-⟩:=rz.open;obtain⟨dy,-,hBy⟩:=hb.kid y sR;refine lb 0<|an rfl<|ia (i:=0)<|an ⟨e1,rfl,Yh⟩<|lc<|an (cG M1.below hc)<|cst M1 (ih y sR _ _ dy (rz.keep M1.below) hBy _ (hL.keep M1.below) (fun t ht=>hns t (mX sR ht))) fun gy w3 M3=>lb 1<|an rfl<|an (fun h2=>?_) fun h2=>?_
 ·refine lp (ι:=Nat×Int) (fun(t,x)=>[(33,.int .i64 (t:Int))]) (fun(t,x)=>(gy,52,#[.int .u64 x])::_) (fun _=>[]) (fun(t,x) _=>t≤1∧(t=0→x=fE ns y)∧(t=1→x=bits .xor .u64 18446744073709551615 (fE ns y))) (fun(t,x)=>1-t) (0,fE ns y) (an ⟨⟨rfl,trivial⟩,fun M=>⟨M,by decide,fun _=>rfl,fun h=>by cases h⟩⟩ ?_);rintro⟨t,x⟩ w M ⟨ht,hx0,hx1⟩;refine an (fun h=>?_) fun h M=>⟨_,rfl,⟨_,rfl,by have hW:=M.b 0 rfl;rw[Nc h1 (by simpa using h2) hy,← hx1 (by simp at h;omega)];exact hW,M.lo _ (asS (i:=0) rfl)⟩,M.below⟩
  obtain rfl:t=0:=by simp at h;omega
  obtain rfl:=hx0 rfl;exact ia (i:=0)<|an ⟨rfl,rfl,by decide⟩<|lb 0<|an rfl<|ei (x:=.int .u64 (bits .xor .u64 18446744073709551615 (fE ns y)))<|an (fun a w o ho hv=>Oo ho (dJ hv))<|ia (i:=0)<|an ⟨rfl,rfl,by decide⟩<|lb 0<|an ⟨⟨rfl,rfl⟩,Nat.le_refl _⟩ fun w M=>an (by omega)<|bk (1,bits .xor .u64 18446744073709551615 (fE ns y)) ⟨rfl,trivial⟩ (fun M=>⟨M,by omega,(fun h=>by cases h),fun _=>rfl⟩) (by dsimp only;omega)
 have h2:e.op≠2:=by simpa using h2
 have hlz:=B_.acR hB h1 h2;obtain⟨z,hz⟩:∃ z,e.kids[1]?=some z:=⟨_,asN hlz⟩;have Vw:=asS hz;obtain⟨bz,oz,_,e2,Rs,hcz⟩:=ak.elt hk (by decide) hz;obtain⟨nvz,kvz,rfl,-⟩:=Rs.open;obtain⟨dz,-,hBz⟩:=hb.kid z Vw;rcases opW e.op with⟨hf,hop⟩|⟨hf,hop⟩|⟨hf,hop⟩|⟨hf,hop⟩
 all_goals
  refine lb 1<|an rfl<|cl<|an (hf▸Ei _ e.op :) fun w4 M4=>lb 1<|an rfl<|ia (i:=1)<|an ⟨e2,rfl,hlz⟩<|lc<|an (cG M4.below hcz)<|cst M4 (ih z Vw _ _ dz (Rs.keep M4.below) hBz _ (hL.keep M4.below) (fun t ht=>hns t (mX Vw ht))) fun gz w5 M5=>lp (ι:=Nat×Int) (fun(t,x)=>[(56,.int .i64 (t:Int))]) (fun(t,x)=>_::(gy,52,#[.int .u64 x])::_) (fun _=>[]) (fun(t,x) _=>t≤1∧(t=0→x=fE ns y)∧(t=1→x=JB e.op (fE ns y) (fE ns z))) (fun(t,x)=>1-t) (0,fE ns y) (an ⟨⟨rfl,trivial⟩,fun M=>⟨M,by decide,fun _=>rfl,fun h=>by cases h⟩⟩ ?_)
  rintro⟨t,x⟩ w M ⟨ht,hx0,hx1⟩;refine an (fun h=>?_) fun h M=>⟨_,rfl,⟨_,rfl,by have hW:=M.b 1 rfl;rw[Nd h1 h2 hy hz,← hx1 (by simp at h;omega)];exact hW,M.lo _ (asS (i:=1) rfl)⟩,M.below⟩
  obtain rfl:t=0:=by simp at h;omega
  obtain rfl:=hx0 rfl;exact ia (i:=0)<|an ⟨rfl,rfl,by decide⟩<|lb 0<|an rfl<|ia (i:=0)<|an ⟨rfl,rfl,by decide⟩<|lb 1<|an rfl<|ei (x:=.agg #[.int .u64 (fE ns y),.int .u64 (fE ns z)])<|an (bd (by kernel_rfl))<|cl (v:=.int .u64 (JB e.op (fE ns y) (fE ns z)))<|an (by rw[hop];first|exact Sz _ _ _|exact Wl _ _ _|exact Px _ _ _|exact G5 _ _ _) fun w6 M6=>ia (i:=0)<|an ⟨rfl,rfl,by decide⟩<|lb 1<|an ⟨⟨rfl,rfl⟩,Nat.le_refl _⟩ fun w M=>an (by omega)<|bk (1,JB e.op (fE ns y) (fE ns z)) ⟨rfl,trivial⟩ (fun M=>⟨M,by omega,(fun h=>by cases h),fun _=>rfl⟩) (by dsimp only;omega)
theorem g_.some{d:Nat}{e:aq}(h:g_ d e):0<(bw e).length:=by
 induction h with
 | name _ _=>rw[bw];simp
 | not _ ih=>rw[bw,bF,bF];simpa using ih
 | bin _ _ _ _ ih _=>rw[bw,bF];simp only[List.nil_append,asQ];omega
theorem g_.acd{d:Nat}{e:aq}(h:g_ d e):0<(ct e).length:=by
 obtain⟨s,hs⟩:∃ s,s∈bw e:=by
  have:=h.some
  cases hl:bw e with
  | nil=>rw[hl] at this;cases this
  | cons a l=>exact⟨a,asU ..⟩
 exact List.length_pos_of_mem ((nP e s).2 hs)
def jT(e:aq):Bool:=decide (bits .and .u64 (fE (ct e) e) (aI (ct e).length)=aI (ct e).length)
def yH(e:aq):Bool:=decide (bits .and .u64 (fE (ct e) e) (aI (ct e).length)=0)
theorem E2(w0:World)(cs:List Value)(e:aq)(d:Nat)(hE:bh w0 cs e)(hBE:g_ d e)(hd:d≤12)(hn:(ct e).length≤5):Calls Tryz.prog 171 #[.agg cs.toArray] w0 (fun(r:Ending) (w':World)=>r=.returned (.tuple #[.bool (jT e),.bool (jT e||yH e)])∧asK w0.heap.size w0 w'):=by
 have hn0:=hBE.acd;have hE0:=hE;obtain⟨_,_,rfl,hnn,hkk⟩:=hE0.open;obtain⟨_,_,rfl,-⟩:=aH.get hnn;obtain⟨_,_,rfl,-⟩:=ak.form hkk (by decide);refine bX [] (fn:=Tryz.f171) Tryz.func171 rfl Tryz.ntmps171 rfl<|fun g1 w1 M1=>lb 0<|an rfl<|Gb M1 (Mg _ _ e d (hE.keep M1.below) hBE hd) fun ta tc w2 M2=>?_
 refine an (fun h=>?_) fun _=>?_
 ·exfalso;simp only[Bool.or_eq_true,decide_eq_true_eq] at h;omega
 refine cl<|an (QJ _ (ct e).length hn) fun w3 M3=>lb 0<|an rfl<|cst M3 (O7 (ct e) hn e _ _ d (hE.keep M3.below) hBE _ (SliceAt.bR (M3.r 0 rfl) (D7 _)) (fun t ht=>(nP e t).2 ht)) fun gt w4 M4=>?_
 refine lr (ι:=Nat×Bool×Bool) (fun(t,x,z)=>[(6,.bool x),(7,.bool z),(27,.int .i64 (t:Int))]) (fun(t,x,z) _=>t≤1∧(t=0→x=true∧z=true)∧(t=1→x=jT e∧z=yH e)) (fun(t,x,z)=>1-t) (0,true,true) (an ⟨⟨rfl,rfl,rfl,trivial⟩,fun M=>⟨M,asJ _,fun _=>⟨rfl,rfl⟩,fun h=>by cases h⟩⟩ ?_);rintro⟨t,x,z⟩ w M ⟨ht,h0,h1⟩;refine an (fun h=>?_) fun h M=>?_
 ·obtain rfl:t=0:=by simp at h;omega
  obtain⟨rfl,rfl⟩:=h0 rfl;refine ia (i:=0)<|an ⟨rfl,rfl,by decide⟩<|lb 0<|an rfl<|ei (x:=bits .and .u64 (fE (ct e) e) (aI (ct e).length))<|an (fun _=>rfl)<|ei (x:=bits .and .u64 (fE (ct e) e) (aI (ct e).length))<|an (fun _=>rfl)<|?_;exact an (by omega)<|bk (1,jT e,yH e) ⟨rfl,rfl,rfl,trivial⟩ (fun M=>⟨M,by omega,(fun h=>by cases h),fun _=>⟨rfl,rfl⟩⟩) (by dsimp only;omega)
 ·obtain⟨rfl,rfl⟩:=h1 (by simp at h;omega);exact⟨by cases jT e<;>rfl,M.below⟩
def isNum(nB:Nat)(op a:Int):Bool:=decide (op=1)&&decide (0≤a)&&decide (a<(nB:Int))
mutual
def bg(bl:List gH):aq→aq
 | .node op a _ _ _ _ kids=>if isNum bl.length op a=true then .node op 0 0 0 [((bl[a.toNat]?).map (·.name)).getD ⟨#[]⟩] ay.zero [] else .node op 0 0 0 [] ay.zero (SM bl kids)
def SM(bl:List gH):List aq→List aq
 | []=>[]
 | k::l=>bg bl k::SM bl l
end
theorem mW(bl:List gH):∀ l,SM bl l=l.map (bg bl)
 | []=>by rw[SM];rfl
 | k::l=>by rw[SM,List.map_cons,mW bl l]
theorem Ws{bl:List gH}{e:aq}{k:Nat}{y:gH}(h1:e.op=1)(ha:e.a=(k:Int))(hk:k<bl.length)(hy:bl[k]?=some y):bg bl e=.node e.op 0 0 0 [y.name] ay.zero []:=by
 cases e with
 | node op a rel b names set kids=>
  have h1:op=1:=h1;have ha:a=(k:Int):=ha;rw[bg,if_pos (by unfold isNum;simp[h1,ha,hk]),ha,Int.toNat_natCast,hy];rfl
theorem ZC{bl:List gH}{e:aq}(h:¬ (e.op=1∧0≤e.a∧e.a<(bl.length:Int))):bg bl e=.node e.op 0 0 0 [] ay.zero (e.kids.map (bg bl)):=by
 cases e with
 | node op a rel b names set kids=>
  have h:¬ (op=1∧0≤a∧a<(bl.length:Int)):=h;rw[bg,if_neg (by unfold isNum;simp only[asY,decide_eq_true_eq];exact fun h2=>h ⟨h2.1.1,h2.1.2,h2.2⟩),mW];rfl
theorem ZE{bl:List gH}{l:List aq}{m:Nat}{y:aq}(hy:l[m]?=some y):(l.map (bg bl))[m]?=some (bg bl y):=by rw[as1,hy];rfl
theorem Em(p:aA)(_:p.Ok):∀ (e:aq) (w0:World) (cs:List Value),bh w0 cs e→lH e→∀ (c0 c1 c2 c3 c4 c5 c6 c7 c8 c9 aS aN aM aR aQ aP aO:Value),aJ w0 c0 c1 c2 c3 c4 c5 c6 c7 c8 c9 aS aN aM aR aQ aP aO p→Calls Tryz.prog 172 #[.agg cs.toArray,.agg #[c0,c1,c2,c3,c4,c5,c6,c7,c8,c9,aS,aN,aM,aR,aQ,aP,aO]] w0 (fun(r:Ending) (w':World)=>∃ v,r=.returned v∧(DJ w0 (bg p.bools e) v w'∧asK w0.heap.size w0 w')):=by
 refine aq.ind fun e ih=>?_
 intro w0 cs hE iN c0 c1 c2 c3 c4 c5 c6 c7 c8 c9 aS aN aM aR aQ aP aO hp;obtain⟨nv,kv,rfl,NY,hkv⟩:=hE.open;obtain⟨_,_,rfl,-⟩:=aH.get NY;obtain⟨_,_,rfl,-,hkm,-⟩:=ak.form hkv (by decide);obtain⟨_,_,_,_,_,_,_,_,_,_,_,_,_,_,_,_,_,_,_,_,_,_,_,_,_,_,_,_,_,_,_,_,_,_,rfl,rfl,rfl,rfl,rfl,rfl,rfl,rfl,rfl,rfl,rfl,rfl,rfl,rfl,rfl,rfl,rfl⟩:=hp.open;refine bX [] (fn:=Tryz.f172) Tryz.func172 rfl Tryz.ntmps172 rfl<|fun g1 w1 M1=>fun g2 w2 M2=>ei<|an zI fun g3 w3 M3=>lb 2<|an rfl<|lb 2<|an (fun _=>rfl)<|lb 2<|an (fun _=>rfl)<|lb 1<|an (fun _=>rfl)<|an (fun h=>?_) fun h=>?_
 ·obtain⟨⟨h1,h2⟩,h3⟩:(e.op=1∧0≤e.a)∧e.a<p.bools.length:=by simpa using h
  obtain⟨y,hy⟩:∃ y,p.bools[e.a.toNat]?=some y:=⟨_,asN (by omega)⟩;obtain⟨b,o,e1,hc⟩:=SliceAt.elt hp.bools (fun _=>rfl) (by decide) hy (by omega);rw[Ws h1 (k:=e.a.toNat) (by omega) (by omega) hy];exact sp [0,1,2,3,4,5,6,7,8] (.step 9 (.step 10 (.last 11))) [0,1] (by kernel_rfl)<|lb 0<|an rfl<|lb 1<|an rfl<|lb 0<|an rfl<|ia<|an ⟨e1,(Int.toNat_of_nonneg h2).symm,by omega⟩<|lc (x:=.string y.name)<|an (fun u hu=>cG hu hc 0 _ rfl)<|fun w hb M=>fun g w M=>an rfl<|ei (x:=.agg #[.int .i64 e.op,.int .i64 0,.int .i64 0,.int .i64 0,.slice (some ⟨g,0,none⟩) 1 1,.int .u64 0,.int .u64 0,.int .u64 0,.int .u64 0,.slice none 0 0])<|an (bd (by kernel_rfl))<|an rfl<|lb 1<|an ⟨rfl,rfl⟩ fun w M=>ei (x:=1)<|an rfl fun M=>⟨_,rfl,⟨_,_,_,_,[⟨.slice none 0 0,89,10,0,[]⟩,⟨.slice (some ⟨g,0,none⟩) 1 1,9,1,1,[.string y.name]⟩],rfl,cI.node (es:=[]) rfl rfl (asT _ (asB.2 rfl)) (asU ..) rfl (by simp) (by simp),((M.FT 1 1 (by simp[maxLen]) rfl).cL 89 10).fM⟩,M.below⟩
 rw[ZC (fun h'=>by simp[h'.1,h'.2.1,h'.2.2] at h)];refine lb 2<|an rfl<|ei (x:=.agg #[.int .i64 e.op,.int .i64 0,.int .i64 0,.int .i64 0,.slice none 0 0,.int .u64 0,.int .u64 0,.int .u64 0,.int .u64 0,.slice none 0 0])<|an (bd (by kernel_rfl))<|ei<|an zI fun g5 w5 M5=>lb 0<|an ⟨rfl,rfl⟩ fun w6 M6=>lb 3<|an rfl<|?_
 refine lp (ι:=Nat×Value×List (List Value)×List Rw) (fun(m,u,es,T)=>[(41,.int .i64 (m:Int))]) (fun(m,u,es,T)=>(g5,89,#[.int .i64 e.op,.int .i64 0,.int .i64 0,.int .i64 0,.slice none 0 0,.int .u64 0,.int .u64 0,.int .u64 0,.int .u64 0,u])::_) (fun(m,u,es,T)=>⟨u,89,10,m,es.flatten⟩::⟨.slice none 0 0,9,1,0,[]⟩::T) (fun(m,u,es,T) _=>m≤e.kids.length∧es.length=m∧(∀ x∈es,x.length=10)∧∀ (i:Nat) x y,es[i]?=some x→(e.kids.map (bg p.bools))[i]?=some y→cI T x y) (fun(m,u,es,T)=>e.kids.length-m) (0,.slice none 0 0,[],[]) (an ⟨⟨rfl,trivial⟩,fun M=>⟨(M.cL 9 1).cL 89 10,asJ _,rfl,(fun _ h=>by cases h),fun i x y h=>by simp at h⟩⟩ ?_);rintro⟨m,u,es,T⟩ w M ⟨hm,hl,he,hR⟩;refine an (fun h=>?_) fun h=>?_
 ·have hlt:m<e.kids.length:=by simp at h;omega
  obtain⟨y,hy⟩:∃ y,e.kids[m]?=some y:=⟨_,asN hlt⟩;have sR:=asS hy;obtain⟨b,o,_,e1,rz,hc⟩:=ak.elt hkv (by decide) hy;obtain⟨_,_,rfl,hn',hk'⟩:=rz.open;obtain⟨_,_,rfl,-⟩:=aH.get hn';obtain⟨_,_,rfl,-⟩:=ak.form hk' (by decide);have hkl:=iN.parts.2.1;refine ia<|an ⟨e1,rfl,hlt⟩<|lc<|an (cG M.below hc)<|ei<|an zI fun g6 w7 M7=>lb 0<|an ⟨rfl,rfl⟩ fun w8 M8=>sp [0,1,2,3,7] (.step 4 (.step 5 (.step 6 (.last 8)))) [1,3,4] (by kernel_rfl)<|lb 1<|an rfl<|lb 2<|an rfl<|lb 0<|an rfl<|fun w9 hb9 M9=>cg<|an (ih y sR _ _ (rz.keep M9.below) (iN.parts.2.2 y sR) _ _ _ _ _ _ _ _ _ _ _ _ _ _ _ _ _ (hp.keep M9.below)) fun v yq ⟨⟨na,nc,ka,kc,T9,hv,Rp,Uf⟩,Ij⟩=>⟨_,_,M9.eB Ij Uf,?_⟩
  subst hv;exact an rfl<|fun g7 Gx M11=>an rfl<|Ru 0 id rfl (M11.slice 0 rfl (k:=10) (n:=1) rfl rfl (by simp[maxLen])) ⟨by unfold maxLen;omega,by omega⟩ fun va vc JA Gf=>an rfl<|lb 2<|an ⟨rfl,rfl⟩ fun MS yK=>an (by omega)<|bk (m+1,.slice va (m+1) vc,es++[[.int .i64 (bg p.bools y).op,.int .i64 (bg p.bools y).a,.int .i64 (bg p.bools y).rel,.int .i64 (bg p.bools y).b,.slice na (bg p.bools y).names.length nc,.int .u64 (bg p.bools y).set.a,.int .u64 (bg p.bools y).set.b,.int .u64 (bg p.bools y).set.c,.int .u64 (bg p.bools y).set.d,.slice ka (bg p.bools y).kids.length kc]],T++T9) ⟨rfl,trivial⟩ (fun M=>⟨(M.only (.cons _ (.cons _ (.refl _))) (.refl _)).cast rfl (by dsimp only;rw[← gZ];rfl),by omega,by rw[asQ,hl];rfl,kW he rfl,tM (R:=cI) (fun _ _ _ _ hs h=>cI.mono hs h) hl hR (ZE hy) (fun r hr=>asL.2 (.inl hr)) (Rp.mono fun r hr=>asL.2 (.inr hr))⟩) (by dsimp only;omega)
 obtain rfl:m=e.kids.length:=by simp at h;omega
 obtain⟨x1,y1,rfl⟩:=M.form 0 rfl;refine lb 0<|an rfl<|lb 1<|an ⟨rfl,rfl⟩ fun w M=>ei (x:=1)<|an rfl fun M=>⟨_,rfl,⟨none,0,x1,y1,_,(by rw[show(aq.node e.op 0 0 0 [] ay.zero (e.kids.map (bg p.bools))).kids.length=e.kids.length from asZ ..];rfl),?_,M.fM⟩,M.below⟩
 rw[show(aq.node e.op 0 0 0 [] ay.zero (e.kids.map (bg p.bools))).kids.length=e.kids.length from asZ ..];exact cI.node (names:=[]) (set:=ay.zero) (es:=es) rfl rfl (asT _ (asU ..)) (by rw[asZ];exact asU ..) (by rw[asZ];exact hl) he fun i x y h1 h2=>(hR i x y h1 h2).mono fun r hr=>asT _ (asT _ hr)
def iI(x n:Int):Nat→List Int→Int
 | _,[]=>0
 | i,y::l=>if y=x then (i:Int)+1 else if y=n then -(i:Int)-1 else iI x n (i+1) l
theorem Uu{x n y:Int}{m:Nat}{l:List Int}(hy:l[m]?=some y)(h1:y≠x)(h2:y≠n):iI x n m (l.drop m)=iI x n (m+1) (l.drop (m+1)):=by
 obtain⟨hm,rfl⟩:=asO.1 hy;rw[List.drop_eq_getElem_cons hm,iI,if_neg h1,if_neg h2]
theorem adO{x n y:Int}{m:Nat}{l:List Int}(hy:l[m]?=some y)(h1:y=x):iI x n m (l.drop m)=(m:Int)+1:=by
 obtain⟨hm,rfl⟩:=asO.1 hy;rw[List.drop_eq_getElem_cons hm,iI,if_pos h1]
theorem adP{x n y:Int}{m:Nat}{l:List Int}(hy:l[m]?=some y)(h1:y≠x)(h2:y=n):iI x n m (l.drop m)=-(m:Int)-1:=by
 obtain⟨hm,rfl⟩:=asO.1 hy;rw[List.drop_eq_getElem_cons hm,iI,if_neg h1,if_pos h2]
theorem Xd{x n:Int}{m:Nat}{l:List Int}(hm:m=l.length):iI x n m (l.drop m)=0:=by rw[hm,List.drop_length,iI]
def jm(N:List ((Unit×Int)×Nat)):List Int:=N.map fun z=>z.1.2
theorem RR{N:List ((Unit×Int)×Nat)}{m:Nat}{z:(Unit×Int)×Nat}(h:N[m]?=some z):(jm N)[m]?=some z.1.2:=by unfold jm;rw[as1,h];rfl
theorem u_(N:List ((Unit×Int)×Nat)):(jm N).length=N.length:=asZ ..
theorem qO{w:World}{g:Nat}{x:Int}(h:Whole w g 52 #[.int .u64 x]):SliceAt w (.slice (some ⟨g,0,none⟩) 1 1) 1 [x].length ([x].flatMap MX):=w_ (cs:=[.int .u64 x]) h rfl (fun u hu=>by rw[asB.1 hu];rfl)
theorem Qp(w0:World)(v:Value)(N:List ((Unit×Int)×Nat))(hs:SliceAt w0 v 1 N.length (N.flatMap rF))(hN:bV w0 0 N)(hl:N.length≤100000)(gx gn:Nat)(x n:Int)(hX:Whole w0 gx 52 #[.int .u64 x])(hNx:Whole w0 gn 52 #[.int .u64 n]):Calls Tryz.prog 174 #[v,.slice (some ⟨gx,0,none⟩) 1 1,.slice (some ⟨gn,0,none⟩) 1 1] w0 (fun(r:Ending) (w':World)=>r=.returned (.int .i64 (iI x n 0 (jm N)))∧asK w0.heap.size w0 w'):=by
 obtain⟨_,_,rfl,-⟩:=hs.form (by decide);refine bX [] (fn:=Tryz.f174) Tryz.func174 rfl Tryz.ntmps174 rfl<|lr (ι:=Nat) (fun m=>[(11,.int .i64 (m:Int))]) (fun m _=>m≤N.length∧iI x n 0 (jm N)=iI x n m ((jm N).drop m)) (fun m=>N.length-m) 0 (an ⟨⟨rfl,trivial⟩,fun M=>⟨M,asJ _,rfl⟩⟩ ?_);intro m w M ⟨hm,hI⟩;refine an (fun h=>?_) fun h M=>⟨ri (hI.trans (Xd (by rw[u_];simp at h;omega))),M.below⟩
 have hlt:m<N.length:=by simp at h;omega
 obtain⟨z,hz⟩:∃ z,N[m]?=some z:=⟨_,asN hlt⟩;obtain⟨b,o,e,hc⟩:=SliceAt.elt hs (fun _=>rfl) (by decide) hz hlt;have hzw:=(hN z (asS hz)).1;have hy:=RR hz;refine ia<|an ⟨e,rfl,hlt⟩<|lc (x:=.slice (some ⟨z.2,0,none⟩) 1 1)<|an (cG M.below hc 0 _ rfl)<|cl<|an (qm _ _ _ [z.1.2] [x] (qO (Whole.under M.below hzw hzw.lt)) (qO (Whole.under M.below hX hX.lt))) fun w1 M1=>?_
 refine an (fun h1=>an (by omega) fun M=>⟨ri (hI.trans (adO hy (by simpa using h1))),M.below⟩) fun h1=>?_
 have h1:z.1.2≠x:=by simpa using h1
 refine cl<|an (qm _ _ _ [z.1.2] [n] (qO (Whole.under M1.below hzw hzw.lt)) (qO (Whole.under M1.below hNx hNx.lt))) fun w2 M2=>?_
 refine an (fun h2=>an (by omega)<|an (by omega) fun M=>⟨ri (by rw[hI,adP hy h1 (by simpa using h2)];omega),M.below⟩) fun h2=>?_
 exact an (by omega)<|bk (m+1) ⟨rfl,trivial⟩ (fun M=>⟨M,by omega,hI.trans (Uu hy h1 (by simpa using h2))⟩) (by dsimp only;omega)
theorem aV.Us{B:Nat}{w0 w w':World}{bs bs':List Bx}{rs rs':List Rw}(M:aV B w0 w bs rs)(N:aV w.heap.size w w' bs' rs'):aV B w0 w' (bs'++bs) (rs++rs'):=by
 have hb:=N.below;have M':=M.keep hb;have R:=M.eB hb N.fM;refine⟨M'.below,M'.le,M'.old,fun b h=>?_,fun b h=>?_,?_,R.row,fun r hr b h=>?_,R.vH⟩
 ·rcases asL.1 h with h|h
  ·exact N.box b h
  ·exact M'.box b h
 ·rcases asL.1 h with h|h
  ·exact asC M.big (N.lo b h)
  ·exact M'.lo b h
 ·rw[List.map_append];refine List.nodup_append.2 ⟨N.nd,M.nd,?_⟩;intro x hx y hy e;obtain⟨b,hb1,rfl⟩:=as0.1 hx;obtain⟨c,hc1,rfl⟩:=as0.1 hy;have h1:=N.lo b hb1;have h2:=(M.box c hc1).lt;omega
 ·rcases asL.1 h with h|h
  ·rcases asL.1 hr with hr|hr
   ·intro e;have h1:=((M.row r hr).lt _ e).2;have h2:=N.lo b h;omega
   ·exact N.far r hr b h
  ·exact R.far r hr b h
def ez{α:Type}(f:Int→Option α)(k:Int)(v:α):Int→Option α:=fun j=>if j=k then some v else f j
def zG{α:Type}(c:α→Value)(L:List (Int×Value))(f:Int→Option α):Prop:=∀ k,jt L k=(f k).map c
theorem zG.nil{α:Type}(c:α→Value):zG c [] (fun _=>none):=fun _=>rfl
theorem zG.put{α:Type}{c:α→Value}{L:List (Int×Value)}{f:Int→Option α}(h:zG c L f)(k:Int)(v:α):zG c ((k,c v)::gB L k) (ez f k v):=fun j=>by
 rw[zj];unfold ez;by_cases e:j=k
 ·rw[if_pos e,if_pos e];rfl
 ·rw[if_neg e,if_neg e,h j]
theorem zG.get{α:Type}{c:α→Value}{L:List (Int×Value)}{f:Int→Option α}(h:zG c L f)(k:Int)(z:α):(jt L k).getD (c z)=c ((f k).getD z):=by
 rw[h k];cases f k<;>rfl
def jk(c:Int):Int:=if c<0-c then 0-c else c
def rG(l:List aj)(f:Int→Option Bool):Int→Option Bool:=l.foldl (fun g y=>ez g (jk y.cond) true) f
def tu(l:List bD)(f:Int→Option Bool):Int→Option Bool:=l.foldl (fun g y=>ez g (jk y.cond) true) f
def lN(p:aA):Int→Option Bool:=tu p.trans (rG p.rules fun _=>none)
theorem Ke{l:List aj}{f:Int→Option Bool}{m:Nat}{y:aj}(hy:l[m]?=some y):rG (l.take (m+1)) f=ez (rG (l.take m) f) (jk y.cond) true:=by
 unfold rG;rw[bf hy,List.foldl_append];rfl
theorem Kc{l:List bD}{f:Int→Option Bool}{m:Nat}{y:bD}(hy:l[m]?=some y):tu (l.take (m+1)) f=ez (tu (l.take m) f) (jk y.cond) true:=by
 unfold tu;rw[bf hy,List.foldl_append];rfl
structure qG where
 sN:Int→Option Int
 ev:Int→Option Bool
 nv:Int→Option Bool
 seen:List Int
 kids:List aq
def eP(i:Nat)(k:Int)(s:qG):qG:={ s with sN:=ez (ez s.sN ((i:Int)+1) k) (0-((i:Int)+1)) (0-k) }
def iw(p:aA)(i:Nat)(e:aq)(s:qG):qG:=
 if (jT (bg p.bools e)||yH (bg p.bools e))=true then { s with ev:=ez (ez s.ev ((i:Int)+1) (jT (bg p.bools e))) (0-((i:Int)+1)) (!jT (bg p.bools e)),nv:=ez (ez s.nv ((i:Int)+1) (!jT (bg p.bools e))) (0-((i:Int)+1)) (jT (bg p.bools e)) }
 else if (lN p ((i:Int)+1)).getD false=false then s
 else
  let x:=bJ (aI p.bools.length) p.bools.length e
  let k:=iI x (notM (aI p.bools.length) x) 0 s.seen
  if k=0 then eP i ((s.seen.length:Int)+1) { s with seen:=s.seen++[x],kids:=s.kids++[e] } else eP i k s
def ji(p:aA)(i:Nat):List aq→qG→qG
 | [],s=>s
 | e::l,s=>ji p (i+1) l (iw p i e s)
def cs0:qG:=⟨fun _=>none,fun _=>none,fun _=>none,[],[]⟩
def bN(p:aA)(m:Nat):qG:=ji p 0 (p.conds.take m) cs0
theorem BA(p:aA):∀ (l:List aq) (i:Nat) (s:qG) (e:aq),ji p i (l++[e]) s=iw p (i+l.length) e (ji p i l s)
 | [],i,s,e=>rfl
 | y::l,i,s,e=>by
  rw[List.cons_append,ji,ji,BA p l (i+1) _ e,List.length_cons];congr 1;omega
theorem uF{p:aA}{m:Nat}{e:aq}(hy:p.conds[m]?=some e):bN p (m+1)=iw p m e (bN p m):=by
 obtain⟨hm,-⟩:=asO.1 hy;unfold bN;rw[bf hy,BA,List.length_take,Nat.min_eq_left (by omega),Nat.zero_add]
theorem OI{c:Int}(h1:-1000000≤c)(h2:c≤1000000):iU (jk c):=by unfold jk;split<;>constructor<;>omega
theorem qu{p:aA}{m:Nat}{e:aq}(hy:p.conds[m]?=some e)(h:(jT (bg p.bools e)||yH (bg p.bools e))=true):bN p (m+1)={ bN p m with ev:=ez (ez (bN p m).ev ((m:Int)+1) (jT (bg p.bools e))) (0-((m:Int)+1)) (!jT (bg p.bools e)),nv:=ez (ez (bN p m).nv ((m:Int)+1) (!jT (bg p.bools e))) (0-((m:Int)+1)) (jT (bg p.bools e)) }:=by rw[uF hy,iw,if_pos h]
theorem uE{p:aA}{m:Nat}{e:aq}(hy:p.conds[m]?=some e)(h:(jT (bg p.bools e)||yH (bg p.bools e))=false)(hu:(lN p ((m:Int)+1)).getD false=false):bN p (m+1)=bN p m:=by rw[uF hy,iw,if_neg (by rw[h];decide),if_pos hu]
theorem Bz{p:aA}{m:Nat}{e:aq}(hy:p.conds[m]?=some e)(h:(jT (bg p.bools e)||yH (bg p.bools e))=false)(hu:(lN p ((m:Int)+1)).getD false=true)(hk:iI (bJ (aI p.bools.length) p.bools.length e) (notM (aI p.bools.length) (bJ (aI p.bools.length) p.bools.length e)) 0 (bN p m).seen=0):bN p (m+1)=eP m (((bN p m).seen.length:Int)+1) { bN p m with seen:=(bN p m).seen++[bJ (aI p.bools.length) p.bools.length e],kids:=(bN p m).kids++[e] }:=by
 rw[uF hy,iw,if_neg (by rw[h];decide),if_neg (by rw[hu];decide)];dsimp only;rw[if_pos hk]
theorem Bw{p:aA}{m:Nat}{e:aq}(hy:p.conds[m]?=some e)(h:(jT (bg p.bools e)||yH (bg p.bools e))=false)(hu:(lN p ((m:Int)+1)).getD false=true)(hk:iI (bJ (aI p.bools.length) p.bools.length e) (notM (aI p.bools.length) (bJ (aI p.bools.length) p.bools.length e)) 0 (bN p m).seen≠0):bN p (m+1)=eP m (iI (bJ (aI p.bools.length) p.bools.length e) (notM (aI p.bools.length) (bJ (aI p.bools.length) p.bools.length e)) 0 (bN p m).seen) (bN p m):=by
 rw[uF hy,iw,if_neg (by rw[h];decide),if_neg (by rw[hu];decide)];dsimp only;rw[if_neg hk]
theorem Ou(p:aA):∀ (l:List aq) (i:Nat) (s:qG),(ji p i l s).seen.length≤s.seen.length+l.length∧(s.kids.length=s.seen.length→(ji p i l s).kids.length=(ji p i l s).seen.length)
 | [],i,s=>⟨Nat.le_refl _,fun h=>h⟩
 | e::l,i,s=>by
  have h1:(iw p i e s).seen.length≤s.seen.length+1∧(s.kids.length=s.seen.length→(iw p i e s).kids.length=(iw p i e s).seen.length):=by
   unfold iw;split
   ·exact⟨Nat.le_succ _,fun h=>h⟩
   ·split
    ·exact⟨Nat.le_succ _,fun h=>h⟩
    ·dsimp only;split
     ·exact⟨by simp[eP],fun h=>by simp[eP,h]⟩
     ·exact⟨Nat.le_succ _,fun h=>h⟩
  have h2:=Ou p l (i+1) (iw p i e s);rw[ji,List.length_cons];exact⟨by omega,fun h=>h2.2 (h1.2 h)⟩
theorem L_(p:aA)(m:Nat):(bN p m).seen.length≤m∧(bN p m).kids.length=(bN p m).seen.length:=by
 have h:=Ou p (p.conds.take m) 0 cs0;have h2:(p.conds.take m).length≤m:=List.length_take_le _ _;have h3:=h.1;exact⟨asC h3 (by show 0+_≤m;omega),h.2 rfl⟩
theorem wv(x n:Int):∀ (l:List Int) (i:Nat),-((i:Int)+l.length)≤iI x n i l∧iI x n i l≤(i:Int)+l.length
 | [],i=>by rw[iI];constructor<;>simp<;>omega
 | y::l,i=>by
  have h:=wv x n l (i+1);rw[iI,List.length_cons];split
  ·constructor<;>omega
  ·split
   ·constructor<;>omega
   ·constructor<;>omega
theorem Lp{T T9:List Rw}{es:List (List Value)}{ks:List aq}{x:List Value}{y:aq}(hl:es.length=ks.length)(h:∀ (i:Nat) x y,es[i]?=some x→ks[i]?=some y→cI T x y)(hx:cI T9 x y):
 ∀ (i:Nat) x' y',(es++[x])[i]?=some x'→(ks++[y])[i]?=some y'→cI (T++T9) x' y':=fun i x' y' h1 h2=>by
 by_cases hi:i<es.length
 ·rw[asP hi] at h1;rw[asP (by omega)] at h2;exact(h i x' y' h1 h2).mono fun r hr=>asL.2 (.inl hr)
 ·have hlt:=(asO.1 h1).1;rw[asQ,List.length_singleton] at hlt;obtain rfl:i=es.length:=by omega
  rw[asR (Nat.le_refl _),Nat.sub_self] at h1;rw[hl,asR (Nat.le_refl _),Nat.sub_self] at h2;obtain rfl:x=x':=by simpa using h1
  obtain rfl:y=y':=by simpa using h2
  exact hx.mono fun r hr=>asL.2 (.inr hr)
theorem J8{α:Type}(N:List ((α×Int)×Nat)):∀ u∈N.flatMap rF,u.oneCell'=true:=fun u hu=>by
 obtain⟨z,-,hz⟩:=List.mem_flatMap.1 hu;simp only[rF,asB] at hz;rw[hz];rfl
def abo(p:aA)(w0:World)(v:Value)(w':World):Prop:=∃ (mA mB mC:Nat) (LA LB LC:List (Int×Value)) (a:Option Addr) (c:Nat) (es:List (List Value)) (T:List Rw),v=.agg #[.map (some mA),.map (some mB),.map (some mC),.slice a (bN p p.conds.length).kids.length c]∧Mm w0 w' [(mC,9003,dU LC),(mB,9003,dU LB),(mA,9003,dU LA)] (⟨.slice a (bN p p.conds.length).kids.length c,89,10,(bN p p.conds.length).kids.length,es.flatten⟩::T)∧zG (Value.int .i64) LA (bN p p.conds.length).sN∧zG Value.bool LB (bN p p.conds.length).ev∧zG Value.bool LC (bN p p.conds.length).nv∧es.length=(bN p p.conds.length).kids.length∧(∀ x∈es,x.length=10)∧(∀ (i:Nat) x y,es[i]?=some x→(bN p p.conds.length).kids[i]?=some y→cI T x y)
theorem Pu{w:World}{B g:Nat}{x:Value}(h:w.ownsRow B 52 1 (.slice (some ⟨g,0,none⟩) 1 1) 1 [x]):Whole w g 52 #[x]:=by
 obtain⟨-,⟨h,-⟩|⟨g',cap,cur,hv,-,hg,-,-,hs,ht⟩⟩:=h
 ·cases h
 ·cases hv;rw[List.take_of_length_le (by simp[hs])] at ht;obtain rfl:cur=#[x]:=by rw[← ht]
  exact hg
def Y4(z:(Unit×Int)×Nat):Rw:=⟨.slice (some ⟨z.2,0,none⟩) 1 1,52,1,1,[.int .u64 z.1.2]⟩
theorem Wx{B:Nat}{w0 w:World}{bs:List Bx}{rs T:List Rw}{N:List ((Unit×Int)×Nat)}(M:aV B w0 w bs rs)(h:∀ z∈N,Y4 z∈T)(hs:∀ r∈T,r∈rs):bV w 0 N:=fun z hz=>⟨Pu (M.row _ (hs _ (h z hz))),asJ _⟩
theorem Km(w0:World)(c0 c1 c2 c3 c4 c5 c6 c7 c8 c9 aS aN aM aR aQ aP aO:Value)(p:aA)(hp:aJ w0 c0 c1 c2 c3 c4 c5 c6 c7 c8 c9 aS aN aM aR aQ aP aO p)(hok:p.Ok)(iN:mh p)(hn:p.bools.length≤5)(hcl:p.conds.length≤900)(W4:∀ y∈p.rules,-1000000≤y.cond∧y.cond≤1000000)(WZ:∀ y∈p.trans,-1000000≤y.cond∧y.cond≤1000000)(aay:∀ e∈p.conds,∃ d,d≤12∧g_ d (bg p.bools e)∧(ct (bg p.bools e)).length≤5):Calls Tryz.prog 87 #[.agg #[c0,c1,c2,c3,c4,c5,c6,c7,c8,c9,aS,aN,aM,aR,aQ,aP,aO]] w0 (fun(r:Ending) (w':World)=>∃ v,r=.returned v∧abo p w0 v w'):=by
 obtain⟨_,_,_,_,_,_,_,_,_,_,_,_,_,_,_,_,_,_,_,_,_,_,_,_,_,_,_,_,_,_,_,_,_,_,rfl,rfl,rfl,rfl,rfl,rfl,rfl,rfl,rfl,rfl,rfl,rfl,rfl,rfl,rfl,rfl,rfl⟩:=hp.open;obtain⟨_,_,-,-,hmR,-⟩:=SliceAt.form hp.rules (by decide);obtain⟨_,_,-,-,hmT,-⟩:=SliceAt.form hp.trans (by decide);refine bX [] (fn:=Tryz.f87) Tryz.func87 rfl Tryz.ntmps87 rfl<|fun g1 w1 M1=>ei<|an RB fun g2 w2 M2=>mmk M2 fun mu w3 M3=>lb 2<|an rfl<|lp (ι:=Nat×List (Int×Value)) (fun(m,L)=>[(22,.int .i64 (m:Int))]) (fun(m,L)=>(mu,9003,dU L)::_) (fun _=>[]) (fun(m,L) _=>m≤p.rules.length∧zG Value.bool L (rG (p.rules.take m) fun _=>none)) (fun(m,L)=>p.rules.length-m) (0,[]) (an ⟨⟨rfl,trivial⟩,fun M=>⟨M,asJ _,zG.nil _⟩⟩ ?_)
 rintro⟨m,L⟩ w M ⟨hm,hU⟩;refine an (fun h=>?_) fun h=>?_
 ·have hlt:m<p.rules.length:=by simp at h;omega
  obtain⟨y,hy⟩:∃ y,p.rules[m]?=some y:=⟨_,asN hlt⟩;obtain⟨b,o,e,hc⟩:=SliceAt.elt hp.rules (fun _=>rfl) (by decide) hy hlt;have hcb:=W4 y (asS hy);exact ia<|an ⟨e,rfl,hlt⟩<|lc<|an (cG M.below hc)<|ei<|an oH fun g3 w4 M4=>lb 0<|an ⟨rfl,rfl⟩ fun w5 M5=>lb 0<|an rfl<|lb 0<|an rfl<|an (by omega)<|fbp M5 (v:=.int .i64 (jk y.cond)) (fun a o ho hv=>Bu ho (dJ hv) (dX hv))<|S7 M5 1 rfl zW (OI hcb.1 hcb.2) fun w6 M6=>an (by omega)<|bk (m+1,(jk y.cond,.bool true)::gB L (jk y.cond)) ⟨rfl,trivial⟩ (fun M=>⟨M.only (.cons _ (.refl _)) (.refl _),by omega,by rw[Ke hy];exact hU.put _ true⟩) (by dsimp only;omega)
 obtain rfl:m=p.rules.length:=by simp at h;omega
 rw[asX] at hU;clear M M1 M2 M3 hm h;refine lb 2<|an rfl<|lp (ι:=Nat×List (Int×Value)) (fun(m,L)=>[(37,.int .i64 (m:Int))]) (fun(m,L)=>(mu,9003,dU L)::_) (fun _=>[]) (fun(m,L) _=>m≤p.trans.length∧zG Value.bool L (tu (p.trans.take m) (rG p.rules fun _=>none))) (fun(m,L)=>p.trans.length-m) (0,L) (an ⟨⟨rfl,trivial⟩,fun M=>⟨M,asJ _,hU⟩⟩ ?_);clear hU L;rintro⟨m,L⟩ w M ⟨hm,hU⟩;refine an (fun h=>?_) fun h=>?_
 ·have hlt:m<p.trans.length:=by simp at h;omega
  obtain⟨y,hy⟩:∃ y,p.trans[m]?=some y:=⟨_,asN hlt⟩;obtain⟨b,o,e,hc⟩:=SliceAt.elt hp.trans (fun _=>rfl) (by decide) hy hlt;have hcb:=WZ y (asS hy);exact ia<|an ⟨e,rfl,hlt⟩<|lc<|an (cG M.below hc)<|ei<|an Ry fun g3 w4 M4=>lb 0<|an ⟨rfl,rfl⟩ fun w5 M5=>lb 0<|an rfl<|lb 0<|an rfl<|an (by omega)<|fbp M5 (v:=.int .i64 (jk y.cond)) (fun a o ho hv=>Bu ho (dJ hv) (dX hv))<|S7 M5 1 rfl zW (OI hcb.1 hcb.2) fun w6 M6=>an (by omega)<|bk (m+1,(jk y.cond,.bool true)::gB L (jk y.cond)) ⟨rfl,trivial⟩ (fun M=>⟨M.only (.cons _ (.refl _)) (.refl _),by omega,by rw[Kc hy];exact hU.put _ true⟩) (by dsimp only;omega)
 obtain rfl:m=p.trans.length:=by simp at h;omega
 rw[asX] at hU;replace hU:zG Value.bool L (lN p):=hU;refine mmk M fun mA wA MA=>mmk MA fun mB wB MB=>mmk MB fun mC wC MC=>ei (x:=.agg #[.map (some mA),.map (some mB),.map (some mC),.slice none 0 0])<|an (bd (by kernel_rfl))<|ei<|an RB fun g5 w7 M7=>lb 0<|an ⟨rfl,rfl⟩ fun w8 M8=>lb 6<|an rfl<|cg<|an (mF _ _ _ _ _ _ _ _ _ _ _ _ _ _ _ _ _ _ p.bools.length _ hn) fun v w9 ⟨⟨tp,mb,hv,hT,_,h1,_⟩,hb9⟩=>⟨_,_,M8.newAt hb9 hT h1,?_⟩
 subst hv;clear M MA MB MC M7 M8 hT hm h hb9
 refine lb 7<|an rfl<|lp (ι:=Nat×List (Int×Value)×List (Int×Value)×List (Int×Value)×List ((Unit×Int)×Nat)×Value×Value×List (List Value)×List Rw) (fun(m,LA,LB,LC,N,vs,vk,es,T)=>[(10,vs),(58,.int .i64 (m:Int))]) (fun(m,LA,LB,LC,N,vs,vk,es,T)=>_::(g5,159,#[.map (some mA),.map (some mB),.map (some mC),vk])::(mC,9003,dU LC)::(mB,9003,dU LB)::(mA,9003,dU LA)::_) (fun(m,LA,LB,LC,N,vs,vk,es,T)=>⟨vs,139,1,N.length,N.flatMap rF⟩::⟨vk,89,10,N.length,es.flatten⟩::T)
  (fun(m,LA,LB,LC,N,vs,vk,es,T) _=>m≤p.conds.length∧zG (Value.int .i64) LA (bN p m).sN∧zG Value.bool LB (bN p m).ev∧zG Value.bool LC (bN p m).nv∧jm N=(bN p m).seen∧(∀ z∈N,Y4 z∈T)∧es.length=N.length∧(∀ x∈es,x.length=10)∧∀ (i:Nat) x y,es[i]?=some x→(bN p m).kids[i]?=some y→cI T x y) (fun(m,_)=>p.conds.length-m) (0,[],[],[],[],.slice none 0 0,.slice none 0 0,[],[])
  (an ⟨⟨rfl,rfl,trivial⟩,fun M=>⟨(M.cL 89 10).cL 139 1,asJ _,zG.nil _,zG.nil _,zG.nil _,rfl,(fun _ h=>by cases h),rfl,(fun _ h=>by cases h),fun i x y h=>by simp at h⟩⟩ ?_)
 rintro⟨m,LA,LB,LC,N,vs,vk,es,T⟩ w M ⟨hm,hA,hB,hC,Yu,hNr,hes,LI,hR⟩;have hcs:=L_ p m;have hsl:N.length=(bN p m).seen.length:=by rw[← Yu,u_]
 refine an (fun h=>?_) fun h=>?_
 ·have hlt:m<p.conds.length:=by simp at h;omega
  obtain⟨e,hy⟩:∃ e,p.conds[m]?=some e:=⟨_,asN hlt⟩;have hye:=asS hy;obtain⟨b,o,_,e1,hE,hc⟩:=ak.elt hp.conds (by decide) hy;obtain⟨_,_,rfl,hn',hk'⟩:=hE.open;obtain⟨_,_,rfl,-⟩:=aH.get hn';obtain⟨_,_,rfl,-⟩:=ak.form hk' (by decide);have hsE:=iN.iT e hye;obtain⟨d,hd,hBE,hnN⟩:=aay e hye;refine ia<|an ⟨e1,rfl,hlt⟩<|lc<|an (cG M.below hc)<|ei<|an zI fun g6 yq oK=>lb 0<|an ⟨rfl,rfl⟩ fun Gx M11=>an (by omega)<|lb 0<|an rfl<|lb 8<|an rfl<|cg<|an (Em p hok e _ _ (hE.keep M11.below) hsE _ _ _ _ _ _ _ _ _ _ _ _ _ _ _ _ _ (hp.keep M11.below)) fun v JA ⟨⟨na,nc,ka,kc,T9,hv,Rp,Uf⟩,Ii⟩=>⟨_,_,M11.keep Ii,?_⟩
  subst hv;have Gf:=M11.keep Ii;refine cl<|an (E2 _ _ (bg p.bools e) d (Rp.at_ Uf) hBE hd hnN) fun MS yK=>an (fun hc0=>?_) fun hc0=>?_
  ·refine sp [0,1,2,3,4,5,6,7,8] (.step 9 (.last 10)) [6] (by kernel_rfl)<|lb 0<|an rfl<|lb 0<|an rfl<|fun Vu amD JD=>S7 JD 4 rfl zW (by constructor<;>omega) fun OY Ge=>an rfl<|S7 Ge 3 rfl zW (by constructor<;>omega) fun XQ Ms=>sp [0,1,2,3,4,5,6,7,8,9,10] (.step 11 (.last 12)) [6] (by kernel_rfl)<|lb 0<|an rfl<|an (by omega)<|lb 0<|an rfl<|an (by omega)<|fun XP amB XK=>S7 XK 4 rfl zW (by constructor<;>omega) fun w18 XJ=>an rfl<|S7 XJ 3 rfl zW (by constructor<;>omega) fun w19 YS=>an (by omega)<|bk (m+1,LA,_,_,N,vs,vk,es,T) ⟨rfl,rfl,trivial⟩ (fun M=>⟨M.only (.cons _ (.refl _)) (.refl _),by omega,by rw[qu hy hc0];exact hA,by rw[qu hy hc0];exact(hB.put _ _).put _ _,by rw[qu hy hc0];exact(hC.put _ _).put _ _,by rw[qu hy hc0];exact Yu,hNr,hes,LI,by rw[qu hy hc0];exact hR⟩) (by dsimp only;omega)
  refine ml1 yK 6 rfl zW (fun _=>rfl) (by constructor<;>omega) fun JD=>?_
  rw[hU.get];refine an (fun hu=>?_) fun hu=>?_
  ·have hu0:(lN p ((m:Int)+1)).getD false=false:=by simpa using hu
   exact an (by omega)<|bk (m+1,LA,LB,LC,N,vs,vk,es,T) ⟨rfl,rfl,trivial⟩ (fun M=>⟨M.only (.cons _ (.refl _)) (.refl _),by omega,by rw[uE hy hc0 hu0];exact hA,by rw[uE hy hc0 hu0];exact hB,by rw[uE hy hc0 hu0];exact hC,by rw[uE hy hc0 hu0];exact Yu,hNr,hes,LI,by rw[uE hy hc0 hu0];exact hR⟩) (by dsimp only;omega)
  have hu0:(lN p ((m:Int)+1)).getD false=true:=by simpa using hu
  refine lb 0<|an rfl<|cst JD (vg e _ _ tp mb _ _ _ _ _ _ _ _ _ _ _ _ _ _ _ _ _ p.bools.length _ _ hn (JD.b 1 rfl) (hE.keep JD.below)) fun gw OY Ge=>cst Ge (zf _ tp mb _ _ _ _ _ _ _ _ _ _ _ _ _ _ _ _ _ p.bools.length _ _ (Ge.b 2 rfl) gw _ (Ge.b 0 rfl)) fun gq XQ Ms=>?_
  have hnr:=Wx Ms hNr fun r hr=>asT _ (asT _ hr)
  refine cl<|an (Qp _ _ N (SliceAt.bR (Ms.r 0 rfl) (J8 N)) hnr (by omega) gw gq _ _ (Ms.b 1 rfl) (Ms.b 0 rfl)) fun XP XK=>?_
  have hfb:=wv (bJ (aI p.bools.length) p.bools.length e) (notM (aI p.bools.length) (bJ (aI p.bools.length) p.bools.length e)) (jm N) 0;rw[u_] at hfb;refine an (fun hk=>?_) fun hk=>?_
  ·have hk0:iI (bJ (aI p.bools.length) p.bools.length e) (notM (aI p.bools.length) (bJ (aI p.bools.length) p.bools.length e)) 0 (bN p m).seen=0:=by rw[← Yu];exact of_decide_eq_true hk
   refine sp [1,4,5,6] (.alt (.step 0 (.step 2 (.step 3 (.step 7 (.step 8 (.step 9 (.step 10 (.step 11 (.last 12))))))))) (.step 2 (.step 0 (.step 3 (.step 7 (.step 8 (.step 9 (.step 10 (.step 11 (.last 12)))))))))) [6,8] (by kernel_rfl)<|lb 0<|an rfl<|lb 1<|an rfl<|fun w18 agR XJ=>an (an rfl<|fun g7 w19 YS=>an rfl<|?_) (fun g7 w19 YS=>an rfl<|an rfl<|?_)
   all_goals
    refine Ru 0 id rfl (YS.slice 0 rfl (k:=1) (n:=1) rfl rfl (by simp[maxLen])) ⟨by unfold maxLen;omega,by omega⟩ fun va vc w20 M20=>an rfl<|cg<|an (KS e _ _ (hE.keep M20.below) hsE) fun v w21 ⟨⟨xn,xc,xk,xd,T7,hv,hT7,hR7⟩,agQ⟩=>⟨_,_,M20.eB agQ hR7,?_⟩
    subst hv;refine an rfl<|fun g9 w22 M22=>an rfl<|Ru 1 id rfl (M22.slice 0 rfl (k:=10) (n:=1) rfl rfl (by simp[maxLen])) ⟨by unfold maxLen;omega,by omega⟩ fun vb vd w23 M23=>an rfl<|an rfl<|an rfl<|lb 6<|an ⟨rfl,rfl⟩ fun w24 M24=>?_
    refine sp [0,1,2,3,4,5,6,7,8,9] (.step 10 (.last 11)) [6] (by kernel_rfl)<|lb 0<|an rfl<|lb 0<|an rfl<|an (by omega)<|an (by omega)<|fun w25 amA M25=>S7 M25 9 rfl O2 (by constructor<;>omega) fun w26 M26=>an rfl<|S7 M26 9 rfl O2 (by constructor<;>omega) fun w27 M27=>an (by omega)<|bk (m+1,_,LB,LC,N++[(((),bJ (aI p.bools.length) p.bools.length e),gw)],.slice va (N.length+1) vc,.slice vb (N.length+1) vd,es++[[.int .i64 e.op,.int .i64 e.a,.int .i64 e.rel,.int .i64 e.b,.slice xn e.names.length xc,.int .u64 e.set.a,.int .u64 e.set.b,.int .u64 e.set.c,.int .u64 e.set.d,.slice xk e.kids.length xd]],Y4 (((),bJ (aI p.bools.length) p.bools.length e),gw)::(T++T7)) ⟨rfl,rfl,trivial⟩ (fun M=>⟨(((M.only (.cons _ (.cons _ (.cons _ (.cons_cons _ (.cons _ (.refl _)))))) (.refl _)).FT 1 1 (by simp[maxLen]) rfl).perm (List.perm_middle (l₁:=[_,_])).symm).cast rfl (by dsimp only;rw[asW,asQ,← gZ];rfl),by omega,?_,by rw[Bz hy hc0 hu0 hk0];exact hB,by rw[Bz hy hc0 hu0 hk0];exact hC,?_,?_,by rw[asQ,asQ,hes];rfl,kW LI rfl,?_⟩) (by dsimp only;omega)
    ·rw[Bz hy hc0 hu0 hk0];show zG _ _ (ez (ez (bN p m).sN _ (((bN p m).seen.length:Int)+1)) _ (0-(((bN p m).seen.length:Int)+1)));rw[← hsl];exact(hA.put _ _).put _ _
    ·rw[Bz hy hc0 hu0 hk0];show jm (N++[_])=(bN p m).seen++[_];rw[← Yu];unfold jm;rw[List.map_append];rfl
    ·intro z hz;rcases asL.1 hz with hz|hz
     ·exact asT _ (asL.2 (.inl (hNr z hz)))
     ·rw[asB.1 hz];exact asU ..
    ·rw[Bz hy hc0 hu0 hk0];exact fun i x y h1 h2=>(Lp (hes.trans (hsl.trans hcs.2.symm)) hR hT7 i x y h1 h2).mono fun r hr=>asT _ hr
  ·have hk0:iI (bJ (aI p.bools.length) p.bools.length e) (notM (aI p.bools.length) (bJ (aI p.bools.length) p.bools.length e)) 0 (bN p m).seen≠0:=by rw[← Yu];exact of_decide_eq_false hk
   exact sp [0,1,2,3,4,5,6,7,8,9] (.step 10 (.last 11)) [6] (by kernel_rfl)<|lb 0<|an rfl<|lb 0<|an rfl<|an (by omega)<|an (by omega)<|fun w18 agR XJ=>S7 XJ 7 rfl O2 (by constructor<;>omega) fun w19 YS=>an rfl<|S7 YS 7 rfl O2 (by constructor<;>omega) fun w20 M20=>an (by omega)<|bk (m+1,_,LB,LC,N,vs,vk,es,T) ⟨rfl,rfl,trivial⟩ (fun M=>⟨M.only (.cons _ (.cons _ (.cons _ (.refl _)))) (.refl _),by omega,by rw[Bw hy hc0 hu0 hk0,← Yu];exact(hA.put _ _).put _ _,by rw[Bw hy hc0 hu0 hk0];exact hB,by rw[Bw hy hc0 hu0 hk0];exact hC,by rw[Bw hy hc0 hu0 hk0];exact Yu,hNr,hes,LI,by rw[Bw hy hc0 hu0 hk0];exact hR⟩) (by dsimp only;omega)
 obtain rfl:m=p.conds.length:=by simp at h;omega
 have hkl:=hsl.trans hcs.2.symm;obtain⟨va,vc,rfl⟩:=M.form 1 rfl;exact lb 1<|an rfl<|lb 6<|an ⟨rfl,rfl⟩ fun w21 M21=>ei (x:=6)<|an rfl fun M=>⟨_,rfl,mA,mB,mC,LA,LB,LC,va,vc,es,T,by rw[← hkl],by rw[← hkl];exact M.only (.cons _ (.cons _ (.cons_cons _ (.cons_cons _ (.cons_cons _ (.cons _ (.cons _ (.cons _ .slnil)))))))) (.cons _ (.refl _)),hA,hB,hC,hes.trans hkl,LI,hR⟩
def cO(sc:qG)(k:Int):Int×Bool:=if (sc.ev k).getD false=true then (0,true) else ((sc.sN k).getD 0,!((sc.nv k).getD false))
theorem xX(w0:World)(mA mB mC:Nat)(LA LB LC:List (Int×Value))(kv:Value)(sc:qG)(hMA:aL w0 Tryz.prog 3 mA (LA.map ival))(hMB:aL w0 Tryz.prog 3 mB (LB.map ival))(hMC:aL w0 Tryz.prog 3 mC (LC.map ival))(hA:zG (Value.int .i64) LA sc.sN)(hB:zG Value.bool LB sc.ev)(hC:zG Value.bool LC sc.nv)(k:Int)(hk:iU k):Calls Tryz.prog 88 #[.agg #[.map (some mA),.map (some mB),.map (some mC),kv],.int .i64 k] w0 (fun(r:Ending) (w':World)=>r=.returned (.tuple #[.int .i64 (cO sc k).1,.bool (cO sc k).2])∧asK w0.heap.size w0 w'):=by
 have bS:=Qf Tryz.prog Tryz.f88 (fun(r:Ending) (w':World)=>r=.returned (.tuple #[.int .i64 (cO sc k).1,.bool (cO sc k).2])∧asK w0.heap.size w0 w') 19 4 5 rfl;refine en Tryz.func88 rfl Tryz.ntmps88 rfl (vs:=[.agg #[(.map (some mA)),(.map (some mB)),(.map (some mC)),kv],.int .i64 k]) rfl fun _ F=>?_
 have M:=Mm.start w0;refine asE fun K1 jd=>ah<|NW (on rfl) rfl (F.u rf) rfl F rfl M fun g1 _ _ F M=>xA (v:=.int .i64 0) F rf rf rf fun _ F=>xA (v:=.bool false) F rf rf rf fun _ F=>asF<|jd _ _ ?_
 refine asE fun K2 jy=>asE fun K3 qg=>ah<|xF 1 F rf rf rf Zd rf XV rf fun _ F=>xL F (M.b 0 rfl) rf rf rf zW rf rf fun _ F=>xM F rf rf rf fun _ F=>
  ke (on rfl) (qp (z:=.bool false) zW (by kernel_rfl) (hMB.kept (M.below.block _ hMB.lt)) rfl (F.u rf) (F.u rf) (by exact hk)) rfl F rfl (show _=(.bool ((sc.ev k).getD false):Value) from hB.get k false) fun _ F=>
  asF<|
  qg _ _ ?_
 refine asH (F.e 9 rfl) (fun hc2=>?_) (fun hc2=>?_)
 ·have he:((sc.ev k).getD false)=true:=hc2;refine asE fun K4 qd=>ah<|xA (v:=.int .i64 0) F rf rf rf fun _ F=>xA (v:=.bool true) F rf rf rf fun _ F=>asF<|qd _ _ ?_
  refine wp_ret<|bS _ _ _ _ _ F rfl rfl ?_;exact⟨by unfold cO;rw[if_pos he],M.below⟩
 ·have he:((sc.ev k).getD false)=false:=hc2;refine wp_skip<|jy _ _ ?_;refine asE fun K5 p7=>?_
  refine rd 11 [10,11,12,13,14,15,16,17,18,4,5] [kr (.pointer (some ⟨g1,0,none⟩)),kr ((.map (some mA))),kr (.int .i64 k),kr (.int .i64 ((sc.sN k).getD 0)),kr (.pointer (some ⟨g1,2,none⟩)),kr ((.map (some mC))),kr (.int .i64 k),kr (.bool ((sc.nv k).getD false)),kr (.bool (!((sc.nv k).getD false))),kr (.int .i64 ((sc.sN k).getD 0)),kr (.bool (!((sc.nv k).getD false)))] (by kernel_rfl) (by kernel_rfl) (by kernel_rfl) rfl (by decide) rfl rfl F ⟨aZ _,aZ _,aZ _,aZ _,aZ _,aZ _,aZ _,aZ _,aZ _,aZ _,aZ _,trivial⟩ ⟨?_,?_,?_,?_,?_,?_,?_,?_,?_,?_,?_,trivial⟩ ?_
  ·exact fun a w Q' hf hi H G hK=>dv (on rfl) (ku rfl (G 2 _ rfl (F.g 2 rfl)).ev Zd rfl ab8) rfl hf rfl hK rfl
  ·exact fun a w Q' hf hi H G hK=>dv (on rfl) (cM rfl (iA (H 0 ⟨.data,by simp,rfl⟩ _ _ rfl rfl)).ev O2 rfl (((M.keep hi).b 0 rfl).c1 0)) rfl hf rfl hK rfl
  ·exact fun a w Q' hf hi H G hK=>dv (on rfl) (ef rfl (G 1 _ rfl (F.g 1 rfl)).ev) rfl hf rfl hK rfl
  ·exact fun a w Q' hf hi H G hK=>dv (on rfl) (qp (z:=.int .i64 0) O2 (by kernel_rfl) (hMA.kept ((M.keep hi).below.block _ hMA.lt)) rfl (iA (H 1 ⟨.data,by simp,rfl⟩ _ _ rfl rfl)).ev (iA (H 2 ⟨.data,by simp,rfl⟩ _ _ rfl rfl)).ev (by exact hk)) rfl hf rfl hK (Eq.symm (show _=(.int .i64 ((sc.sN k).getD 0):Value) from hA.get k 0))
  ·exact fun a w Q' hf hi H G hK=>dv (on rfl) (ku rfl (G 2 _ rfl (F.g 2 rfl)).ev Zd rfl XV) rfl hf rfl hK rfl
  ·exact fun a w Q' hf hi H G hK=>dv (on rfl) (cM rfl (iA (H 4 ⟨.data,by simp,rfl⟩ _ _ rfl rfl)).ev zW rfl (((M.keep hi).b 0 rfl).c1 2)) rfl hf rfl hK rfl
  ·exact fun a w Q' hf hi H G hK=>dv (on rfl) (ef rfl (G 1 _ rfl (F.g 1 rfl)).ev) rfl hf rfl hK rfl
  ·exact fun a w Q' hf hi H G hK=>dv (on rfl) (qp (z:=.bool false) zW (by kernel_rfl) (hMC.kept ((M.keep hi).below.block _ hMC.lt)) rfl (iA (H 5 ⟨.data,by simp,rfl⟩ _ _ rfl rfl)).ev (iA (H 6 ⟨.data,by simp,rfl⟩ _ _ rfl rfl)).ev (by exact hk)) rfl hf rfl hK (Eq.symm (show _=(.bool ((sc.nv k).getD false):Value) from hC.get k false))
  ·exact fun a w Q' hf hi H G hK=>dv (on rfl) (oD rfl (iA (H 7 ⟨.data,by simp,rfl⟩ _ _ rfl rfl)).ev) rfl hf rfl hK rfl
  ·exact fun a w Q' hf hi H G hK=>dv (on rfl) (ni rfl (iA (H 3 ⟨.data,by simp,rfl⟩ _ _ rfl rfl)).ev) rfl hf rfl hK rfl
  ·exact fun a w Q' hf hi H G hK=>dv (on rfl) (ni rfl (iA (H 8 ⟨.data,by simp,rfl⟩ _ _ rfl rfl)).ev) rfl hf rfl hK rfl
  (repeat clear F);intro _ _ JC F D
  obtain⟨_,h,rfl⟩:=D 9 _ _ rfl rfl;have F:=F.add h;obtain⟨_,h,rfl⟩:=D 10 _ _ rfl rfl;have F:=F.add h;have M:=M.keep JC;clear D JC;refine p7 _ _ ?_;refine wp_ret<|bS _ _ _ _ _ F rfl rfl ?_;exact⟨by unfold cO;rw[if_neg (by rw[he];decide)],M.below⟩
def cR(sc:qG)(y:aj):Option aj:=if (cO sc y.cond).2=true then some { y with cond:=(cO sc y.cond).1 } else none
def cT(sc:qG)(y:bD):Option bD:=if (cO sc y.cond).2=true then some { y with cond:=(cO sc y.cond).1 } else none
def U7(p:aA)(sc:qG):aA:={ p with conds:=sc.kids,rules:=p.rules.filterMap (cR sc),trans:=p.trans.filterMap (cT sc) }
def aY(p:aA):aA:=U7 p (bN p p.conds.length)
theorem Yy{α β:Type}{f:α→Option β}{l:List α}{m:Nat}{y:α}(hy:l[m]?=some y)(h:f y=none):(l.take (m+1)).filterMap f=(l.take m).filterMap f:=by
 rw[bf hy,asV,List.filterMap_cons,h];simp
theorem Uv{α β:Type}{f:α→Option β}{l:List α}{m:Nat}{y:α}{z:β}(hy:l[m]?=some y)(h:f y=some z):(l.take (m+1)).filterMap f=(l.take m).filterMap f++[z]:=by
 rw[bf hy,asV,List.filterMap_cons,h];simp
theorem Uw{α β:Type}{f:α→Option β}(l:List α)(m:Nat):((l.take m).filterMap f).length≤m:=asC (List.length_filterMap_le _ _) (List.length_take_le _ _)
theorem RowsIn.sub{B:Nat}{w:World}{T T':List Rw}(h:RowsIn B w T)(hs:T'.Sublist T):RowsIn B w T':=⟨fun r hr=>h.1 r (hs.subset hr),h.2.sublist hs⟩
theorem qx(w0:World)(c0 c1 c2 c3 c4 c5 c6 c7 c8 c9 aS aN aM aR aQ aP aO:Value)(p:aA)(hp:aJ w0 c0 c1 c2 c3 c4 c5 c6 c7 c8 c9 aS aN aM aR aQ aP aO p)(hok:p.Ok)(iN:mh p)(hn:p.bools.length≤5)(hcl:p.conds.length≤900)(W4:∀ y∈p.rules,-1000000≤y.cond∧y.cond≤1000000)(WZ:∀ y∈p.trans,-1000000≤y.cond∧y.cond≤1000000)(aay:∀ e∈p.conds,∃ d,d≤12∧g_ d (bg p.bools e)∧(ct (bg p.bools e)).length≤5)(hrl:p.rules.length≤100000)(Ye:p.trans.length≤100000):Calls Tryz.prog 34 #[.agg #[c0,c1,c2,c3,c4,c5,c6,c7,c8,c9,aS,aN,aM,aR,aQ,aP,aO]] w0 (fun(r:Ending) (w':World)=>∃ v,r=.returned v∧(CH w0 (aY p) v w'∧asK w0.heap.size w0 w')):=by
 obtain⟨_,_,_,_,_,_,_,_,_,_,_,_,_,_,_,_,_,_,_,_,_,_,_,_,_,_,_,_,_,_,_,_,_,_,rfl,rfl,rfl,rfl,rfl,rfl,rfl,rfl,rfl,rfl,rfl,rfl,rfl,rfl,rfl,rfl,rfl⟩:=hp.open;refine bX [] (fn:=Tryz.f34) Tryz.func34 rfl Tryz.ntmps34 rfl<|fun g1 w1 M1=>ei<|an q6 fun g2 w2 M2=>lb 1<|an rfl<|cg<|an (Km _ _ _ _ _ _ _ _ _ _ _ _ _ _ _ _ _ _ p (hp.keep M2.below) hok iN hn hcl W4 WZ aay) fun v w3 hC=>?_
 obtain⟨mA,mB,mC,LA,LB,LC,ca,cc,es,T,hv,hM,hmA,hmB,hmC,agD,LI,hT⟩:=hC;refine⟨_,_,M2.Us hM,?_⟩;subst hv;have M3:=M2.Us hM;unfold aY;generalize bN p p.conds.length=sc at *;refine ei<|an RB fun g3 w4 M4=>lb 0<|an ⟨rfl,rfl⟩ fun w5 M5=>lb 5<|an rfl<|cg<|an (wF _ _ _ _ _ _ _ _ _ _ _ _ _ _ _ _ _ _ p (hp.keep M5.below) iN) fun v w6 ⟨⟨x0,n0,x1,n1,x2,n2,x3,n3,x4,n4,x5,n5,x6,n6,x7,n7,x8,n8,x9,n9,x10,n10,oM,n11,oL,n12,J5,n13,J4,n14,J3,n15,J2,n16,TC,hv,hRC,hPC⟩,N_⟩=>⟨_,_,M5.eB N_ hRC,?_⟩
 subst hv;refine ei<|an q6 fun g4 w7 M7=>lb 0<|an ⟨rfl,rfl⟩ fun w8 M8=>lb 1<|an rfl<|lb 0<|an ⟨rfl,rfl⟩ fun w9 M9=>lb 0<|an ⟨rfl,rfl⟩ fun yq oK=>lb 0<|an ⟨rfl,rfl⟩ fun Gx M11=>?_
 clear M1 M2 M3 M4 M5 M7 M8 M9 oK M11 hM hRC;refine lb 6<|an rfl<|lp (ι:=Nat×Value×List aj) (fun(m,v,L)=>[(25,.int .i64 (m:Int))]) (fun(m,v,L)=>(g4,39,#[.slice x0 p.classes.length n0,.slice x1 p.types.length n1,.slice x2 p.attrs.length n2,.slice x3 p.roles.length n3,.slice x4 p.users.length n4,.slice x5 p.bools.length n5,.slice x6 p.aC.length n6,.slice x7 p.cats.length n7,.slice ca sc.kids.length cc,v,.slice none 0 0,.slice oM p.aK.length n11,.slice oL p.ranges.length n12,.slice J5 p.cons.length n13,.slice J4 p.bH.length n14,.slice J3 p.files.length n15,.slice J2 p.asserts.length n16])::_) (fun(m,v,L)=>⟨v,56,13,L.length,L.flatMap aj.cells⟩::_) (fun(m,v,L) _=>m≤p.rules.length∧L=(p.rules.take m).filterMap (cR sc)) (fun(m,v,L)=>p.rules.length-m) (0,.slice none 0 0,[]) (an ⟨⟨rfl,trivial⟩,fun M=>⟨M.cL 56 13,asJ _,rfl⟩⟩ ?_);rintro⟨m,v,L⟩ w M ⟨hm,hL⟩;refine an (fun h=>?_) fun h=>?_
 ·have hlt:m<p.rules.length:=by simp at h;omega
  obtain⟨y,hy⟩:∃ y,p.rules[m]?=some y:=⟨_,asN hlt⟩;obtain⟨b,o,e,hc⟩:=SliceAt.elt hp.rules (fun _=>rfl) (by decide) hy hlt;have hcb:=W4 y (asS hy);have hfl:=Uw (f:=cR sc) p.rules m;rw[← hL] at hfl;exact ia<|an ⟨e,rfl,hlt⟩<|lc<|an (cG M.below hc)<|ei<|an oH fun g5 JA Gf=>lb 0<|an ⟨rfl,rfl⟩ fun MS yK=>lb 2<|an rfl<|lb 0<|an rfl<|cl<|an (xX _ mA mB mC LA LB LC _ sc (yK.map 5 rfl) (yK.map 4 rfl) (yK.map 3 rfl) hmA hmB hmC y.cond ⟨by omega,by omega⟩) fun Vu JD=>an (fun hb2=>lb 0<|an ⟨rfl,rfl⟩ fun OY Ge=>lb 1<|an rfl<|lb 0<|an rfl<|fun g6 XQ Ms=>Ru 0 id rfl (Ms.slice 0 rfl (k:=13) (n:=1) rfl rfl (by simp[maxLen])) ⟨by unfold maxLen;omega,by omega⟩ fun va vc XP XK=>lb 2<|an ⟨rfl,rfl⟩ fun w18 XJ=>an (by omega)<|bk (m+1,.slice va (L.length+1) vc,L++[{ y with cond:=(cO sc y.cond).1 }]) ⟨rfl,trivial⟩ (fun M=>⟨(M.only (.cons _ (.cons _ (.refl _))) (.refl _)).cast rfl (by dsimp only;rw[asQ,asW];rfl),by omega,by rw[Uv hy (show cR sc y=some { y with cond:=(cO sc y.cond).1 } by unfold cR;rw[if_pos hb2]),hL]⟩) (by dsimp only;omega)) fun hb2=>an (by omega)<|bk (m+1,v,L) ⟨rfl,trivial⟩ (fun M=>⟨M.only (.cons _ (.refl _)) (.refl _),by omega,by rw[Yy hy (show cR sc y=none by unfold cR;rw[if_neg (by rw[hb2];decide)]),hL]⟩) (by dsimp only;omega)
 obtain rfl:m=p.rules.length:=by simp at h;omega
 rw[asX] at hL;subst hL;obtain⟨xa9,xc9,rfl⟩:=M.form 0 rfl;clear M h hm;refine lb 6<|an rfl<|lp (ι:=Nat×Value×List bD) (fun(m,v,L)=>[(49,.int .i64 (m:Int))]) (fun(m,v,L)=>(g4,39,#[.slice x0 p.classes.length n0,.slice x1 p.types.length n1,.slice x2 p.attrs.length n2,.slice x3 p.roles.length n3,.slice x4 p.users.length n4,.slice x5 p.bools.length n5,.slice x6 p.aC.length n6,.slice x7 p.cats.length n7,.slice ca sc.kids.length cc,.slice xa9 (p.rules.filterMap (cR sc)).length xc9,v,.slice oM p.aK.length n11,.slice oL p.ranges.length n12,.slice J5 p.cons.length n13,.slice J4 p.bH.length n14,.slice J3 p.files.length n15,.slice J2 p.asserts.length n16])::_) (fun(m,v,L)=>⟨v,84,13,L.length,L.flatMap bD.cells⟩::_) (fun(m,v,L) _=>m≤p.trans.length∧L=(p.trans.take m).filterMap (cT sc)) (fun(m,v,L)=>p.trans.length-m) (0,.slice none 0 0,[]) (an ⟨⟨rfl,trivial⟩,fun M=>⟨M.cL 84 13,asJ _,rfl⟩⟩ ?_);rintro⟨m,v,L⟩ w M ⟨hm,hL⟩;refine an (fun h=>?_) fun h=>?_
 ·have hlt:m<p.trans.length:=by simp at h;omega
  obtain⟨y,hy⟩:∃ y,p.trans[m]?=some y:=⟨_,asN hlt⟩;obtain⟨b,o,e,hc⟩:=SliceAt.elt hp.trans (fun _=>rfl) (by decide) hy hlt;have hcb:=WZ y (asS hy);have hfl:=Uw (f:=cT sc) p.trans m;rw[← hL] at hfl;exact ia<|an ⟨e,rfl,hlt⟩<|lc<|an (cG M.below hc)<|ei<|an Ry fun g5 JA Gf=>lb 0<|an ⟨rfl,rfl⟩ fun MS yK=>lb 2<|an rfl<|lb 0<|an rfl<|cl<|an (xX _ mA mB mC LA LB LC _ sc (yK.map 5 rfl) (yK.map 4 rfl) (yK.map 3 rfl) hmA hmB hmC y.cond ⟨by omega,by omega⟩) fun Vu JD=>an (fun hb2=>lb 0<|an ⟨rfl,rfl⟩ fun OY Ge=>lb 1<|an rfl<|lb 0<|an rfl<|fun g6 XQ Ms=>Ru 0 id rfl (Ms.slice 0 rfl (k:=13) (n:=1) rfl rfl (by simp[maxLen])) ⟨by unfold maxLen;omega,by omega⟩ fun va vc XP XK=>lb 2<|an ⟨rfl,rfl⟩ fun w18 XJ=>an (by omega)<|bk (m+1,.slice va (L.length+1) vc,L++[{ y with cond:=(cO sc y.cond).1 }]) ⟨rfl,trivial⟩ (fun M=>⟨(M.only (.cons _ (.cons _ (.refl _))) (.refl _)).cast rfl (by dsimp only;rw[asQ,asW];rfl),by omega,by rw[Uv hy (show cT sc y=some { y with cond:=(cO sc y.cond).1 } by unfold cT;rw[if_pos hb2]),hL]⟩) (by dsimp only;omega)) fun hb2=>an (by omega)<|bk (m+1,v,L) ⟨rfl,trivial⟩ (fun M=>⟨M.only (.cons _ (.refl _)) (.refl _),by omega,by rw[Yy hy (show cT sc y=none by unfold cT;rw[if_neg (by rw[hb2];decide)]),hL]⟩) (by dsimp only;omega)
 obtain rfl:m=p.trans.length:=by simp at h;omega
 rw[asX] at hL;subst hL;obtain⟨ajj,aji,rfl⟩:=M.form 0 rfl;clear M h hm;refine lb 0<|an rfl<|lb 5<|an ⟨rfl,rfl⟩ fun w M=>ei (x:=5)<|an rfl fun M=>?_
 exact⟨_,rfl,⟨_,_,_,_,_,_,_,_,_,_,_,_,_,_,_,_,_,_,_,_,_,_,_,_,_,_,_,_,_,_,_,_,_,_,_,rfl,M.fM,fun B u pZ=>{ hPC B u (pZ.sub (.cons _ (.cons _ (List.sublist_append_right _ _)))) with conds:=pJ (tL (R:=cI _) (pZ.1 _ (asS (i:=2) rfl)) rfl agD LI (fun i x y h1 h2=>cI.mono (fun r hr=>show r∈[_,_]++(([]++(_::T))++TC) from asL.2 (.inr (asL.2 (.inl (asT _ hr))))) (hT i x y h1 h2)) fun _ _ h=>cI.one h) fun _ _ h=>cI.at_ pZ h,rules:=SliceAt.bR (pZ.1 _ (asS (i:=1) rfl)) (eW fun _=>rfl),trans:=SliceAt.bR (pZ.1 _ (asS (i:=0) rfl)) (eW fun _=>rfl) }⟩,M.below⟩
structure JE (p:aA):Prop where
 ok:p.Ok
 sm:mh p
 bools:p.bools.length≤5
 conds:p.conds.length≤900
 lu:∀ y∈p.rules,-1000000≤y.cond∧y.cond≤1000000
 oF:∀ y∈p.trans,-1000000≤y.cond∧y.cond≤1000000
 be:∀ e∈p.conds,∃ d,d≤12∧g_ d (bg p.bools e)∧(ct (bg p.bools e)).length≤5
 rules:p.rules.length≤100000
 trans:p.trans.length≤100000
structure RdH (p:aA):Prop where
 ok:p.Ok
 sm:mh p
 bools:p.bools.length≤5
 conds:p.conds.length≤1000
 rules:p.rules.length≤900
structure RuH (p:aA):Prop where
 ok:p.Ok
 sm:mh p
 rules:p.rules.length≤1000
theorem RowsIn.right{B:Nat}{w:World}{A C:List Rw}(h:RowsIn B w (A++C)):RowsIn B w C:=⟨fun r hr=>h.1 r (asL.2 (.inr hr)),(List.pairwise_append.1 h.2).2.1⟩
theorem RowsIn.left{B:Nat}{w:World}{A C:List Rw}(h:RowsIn B w (A++C)):RowsIn B w A:=⟨fun r hr=>h.1 r (asL.2 (.inl hr)),(List.pairwise_append.1 h.2).1⟩
def mD(p:aA):List Int:=(vI p).map fun(k:Nat)=>(k:Int)
theorem Pw{w:World}{B:Nat}{v:Value}{p:aA}(h:w.ownsRow B 3 1 v (vI p).length (ints (vI p))):SliceAt w v 1 (mD p).length ((mD p).flatMap anyI):=by
 have h2:=SliceAt.bR h (HZ _);have e1:(mD p).length=(vI p).length:=asZ ..
 have e2:(mD p).flatMap anyI=ints (vI p):=by
  unfold mD
  induction vI p with
  | nil=>rfl
  | cons a l ih=>rw[List.map_cons,List.flatMap_cons,ih];rfl
 rw[e1,e2];exact h2
theorem CH.low{wb w:World}{p:aA}{v:Value}{u:World}(h:CH w p v u)(hi:wb.heap.size≤w.heap.size):CH wb p v u:=by
 obtain⟨x0,n0,x1,n1,x2,n2,x3,n3,x4,n4,x5,n5,x6,n6,x7,n7,x8,n8,x9,n9,x10,n10,oM,n11,oL,n12,J5,n13,J4,n14,J3,n15,J2,n16,T,e,h1,h2⟩:=h;exact⟨x0,n0,x1,n1,x2,n2,x3,n3,x4,n4,x5,n5,x6,n6,x7,n7,x8,n8,x9,n9,x10,n10,oM,n11,oL,n12,J5,n13,J4,n14,J3,n15,J2,n16,T,e,h1.low hi,h2⟩
def nN(p:aA):aA:=aY (gY (yN (aY p) (mD (aY p))))
theorem tV(w0:World)(c0 c1 c2 c3 c4 c5 c6 c7 c8 c9 aS aN aM aR aQ aP aO:Value)(p:aA)(hp:aJ w0 c0 c1 c2 c3 c4 c5 c6 c7 c8 c9 aS aN aM aR aQ aP aO p)(h1:JE p)(h2:RdH (aY p))(h3:RuH (yN (aY p) (mD (aY p))))(h4:JE (gY (yN (aY p) (mD (aY p))))):Calls Tryz.prog 22 #[.agg #[c0,c1,c2,c3,c4,c5,c6,c7,c8,c9,aS,aN,aM,aR,aQ,aP,aO]] w0 (fun(r:Ending) (w':World)=>∃ v,r=.returned v∧(CH w0 (nN p) v w'∧asK w0.heap.size w0 w')):=by
 obtain⟨_,_,_,_,_,_,_,_,_,_,_,_,_,_,_,_,_,_,_,_,_,_,_,_,_,_,_,_,_,_,_,_,_,_,rfl,rfl,rfl,rfl,rfl,rfl,rfl,rfl,rfl,rfl,rfl,rfl,rfl,rfl,rfl,rfl,rfl⟩:=hp.open;unfold nN;refine bX [] (fn:=Tryz.f22) Tryz.func22 rfl Tryz.ntmps22 rfl<|fun g1 w1 M1=>ei<|an q6 fun g2 w2 M2=>lb 1<|an rfl<|cg<|an (qx _ _ _ _ _ _ _ _ _ _ _ _ _ _ _ _ _ _ p (hp.keep M2.below) h1.ok h1.sm h1.bools h1.conds h1.lu h1.oF h1.be h1.rules h1.trans) fun v w3 ⟨⟨x0a,n0a,x1a,n1a,x2a,n2a,x3a,n3a,x4a,n4a,x5a,n5a,x6a,n6a,x7a,n7a,x8a,n8a,x9a,n9a,ajL,akX,ajH,akT,ajD,akP,ajz,akL,ajv,akH,ajr,akD,ajn,akz,Ta,hv,hTa,hPa⟩,zu⟩=>⟨_,_,M2.eB zu hTa,?_⟩
 subst hv;generalize aY p=q at *;refine ei<|an q6 fun g3 w4 M4=>lb 0<|an ⟨rfl,rfl⟩ fun w5 M5=>sp [0,1] (.step 2 (.step 3 (.last 4))) [2] (by kernel_rfl)<|lb 0<|an rfl<|lb 0<|an rfl<|fun w6 N_ M6=>Gb M6 (rK _ _ _ _ _ _ _ _ _ _ _ _ _ _ _ _ _ _ q (hPa _ _ M6.fM) h2.ok h2.bools h2.conds h2.rules) fun la lc w7 M7=>an rfl<|cg<|an (Gs _ _ _ _ _ _ _ _ _ _ _ _ _ _ _ _ _ _ q (hPa _ _ ⟨fun r hr=>M7.fM.1 r (asT _ hr),(List.pairwise_cons.1 M7.fM.2).2⟩) h2.ok h2.sm _ (mD q) (Pw (tT (M7.r 0 rfl) (asJ _)))) fun v w8 ⟨⟨x0b,n0b,x1b,n1b,x2b,n2b,x3b,n3b,x4b,n4b,x5b,n5b,x6b,n6b,x7b,n7b,x8b,n8b,x9b,n9b,ajK,akW,ajG,akS,ajC,akO,ajy,akK,aju,akG,ajq,akC,ajm,aky,Tb,hv,Cb,hPb⟩,hb8⟩=>⟨_,_,M7.eB hb8 Cb,?_⟩
 subst hv;generalize yN q (mD q)=q2 at *;refine an rfl<|lb 0<|an ⟨rfl,rfl⟩ fun w9 M9=>lb 0<|an rfl<|cg<|an (KO _ _ _ _ _ _ _ _ _ _ _ _ _ _ _ _ _ _ q2 (hPb _ _ M9.fM.right) h3.ok h3.sm h3.rules) fun v yq ⟨⟨x0c,n0c,x1c,n1c,x2c,n2c,x3c,n3c,x4c,n4c,x5c,n5c,x6c,n6c,x7c,n7c,x8c,n8c,x9c,n9c,ajJ,akV,ajF,akR,ajB,akN,ajx,akJ,ajt,akF,ajp,akB,ajl,akx,Tc,hv,hTc,hPc⟩,Ij⟩=>⟨_,_,M9.eB Ij hTc,?_⟩
 subst hv;have oK:=M9.eB Ij hTc;generalize gY q2=q3 at *;refine cg<|an (qx _ _ _ _ _ _ _ _ _ _ _ _ _ _ _ _ _ _ q3 (hPc _ _ oK.fM.right) h4.ok h4.sm h4.bools h4.conds h4.lu h4.oF h4.be h4.rules h4.trans) fun v Gx ⟨⟨x0d,n0d,x1d,n1d,x2d,n2d,x3d,n3d,x4d,n4d,x5d,n5d,x6d,n6d,x7d,n7d,x8d,n8d,x9d,n9d,ajI,akU,ajE,akQ,ajA,akM,ajw,akI,ajs,akE,ajo,akA,ajk,akw,Td,hv,hTd,hPd⟩,LM⟩=>⟨_,_,oK.eB LM hTd,?_⟩
 subst hv;exact lb 1<|an ⟨rfl,rfl⟩ fun w M=>ei (x:=1)<|an rfl fun M=>⟨_,rfl,⟨_,_,_,_,_,_,_,_,_,_,_,_,_,_,_,_,_,_,_,_,_,_,_,_,_,_,_,_,_,_,_,_,_,_,_,rfl,M.fM,fun B u h=>hPd B u h.right⟩,M.below⟩
def GY(l:List Int):Int:=l.foldl (fun a x=>bits .or .u64 a (IntKind.u64.wrap (1*2^(x:Int).toNat))) 0
theorem Pj{l:List Int}{m:Nat}{y:Int}(hy:l[m]?=some y):GY (l.take (m+1))=bits .or .u64 (GY (l.take m)) (IntKind.u64.wrap (1*2^(y:Int).toNat)):=by
 unfold GY;rw[bf hy,List.foldl_append];rfl
theorem adX{P:Program}{o:Oper}{a:Act}{w:World}{ty yt:TypeId}{x y:Operand}{k:IntKind}{m n:Int}(ho:o.op=.binOp .rem ty x y yt)(hx:a.eval x=.int k m)(hy:a.eval y=.int k n)(h0:n≠0):(execOp a.eval o).run P w=.ok (.value (.int k (m.tmod n))) w:=by
 unfold execOp;simp[ho,hx,hy,eqGuard,binOp,Op.intDiv,h0]
theorem V6(w0:World)(v:Value)(l:List Int)(h:SliceAt w0 v 1 l.length (l.flatMap anyI))(hl:∀ y∈l,0≤y∧y<64):Calls Tryz.prog 127 #[v] w0 (fun(r:Ending) (w':World)=>r=.returned (.agg #[.int .u64 (GY l),.int .u64 0,.int .u64 0,.int .u64 0])∧asK w0.heap.size w0 w'):=by
 obtain⟨la,lk,rfl,hk,hm,-⟩:=SliceAt.form h (by decide);refine bX [] (fn:=Tryz.f127) Tryz.func127 rfl Tryz.ntmps127 rfl<|ei<|an sV fun g1 w1 M1=>ei<|an sV fun g2 w2 M2=>lp (ι:=Nat) (fun m=>[(4,.int .i64 (m:Int))]) (fun m=>(g2,54,#[.int .u64 (GY (l.take m)),.int .u64 0,.int .u64 0,.int .u64 0])::_) (fun _=>[]) (fun m _=>m≤l.length) (fun m=>l.length-m) 0 (an ⟨⟨rfl,trivial⟩,fun M=>⟨M,asJ _⟩⟩ ?_)
 intro m w M hm2;refine an (fun h2=>?_) fun h2=>?_
 ·have hlt:m<l.length:=by simp at h2;omega
  obtain⟨y,hy⟩:∃ y,l[m]?=some y:=⟨_,asN hlt⟩;obtain⟨b,o,e,hc⟩:=SliceAt.elt h (fun _=>rfl) (by decide) hy hlt;have hy2:=hl y (asS hy);obtain⟨r,hr,rfl⟩:∃ r:Nat,r<64∧y=((64*0+r:Nat):Int):=⟨y.toNat,by omega,by omega⟩
  have hn:GY (l.take (m+1))=bits .or .u64 (GY (l.take m)) ((2^r:Nat):Int):=by
   rw[Pj hy,Int.toNat_natCast,Int.one_mul,show 64*0+r=r by omega,zK hr]
  exact dr (by kernel_rfl)<|ia<|an ⟨e,rfl,hlt⟩<|lc (x:=.int .i64 ((64*0+r:Nat):Int))<|an (cG M.below hc 0 _ rfl)<|ei<|an (fun a w o ho hv=>Ee (q:=0) (by decide) hr ho (dJ hv) (dX hv))<|ia<|an ⟨e,rfl,hlt⟩<|lc (x:=.int .i64 ((64*0+r:Nat):Int))<|an (cG M.below hc 0 _ rfl)<|ei<|an (fun a w o ho hv=>Ee (q:=0) (by decide) hr ho (dJ hv) (dX hv))<|ei<|an ⟨rfl,by decide⟩<|lb 0<|an rfl<|ia<|an ⟨e,rfl,hlt⟩<|lc (x:=.int .i64 ((64*0+r:Nat):Int))<|an (cG M.below hc 0 _ rfl)<|ei<|an (fun a w o ho hv=>Zt hr ho (dJ hv) (dX hv))<|ei<|an (fun a w o ho hv=>V5 hr ho (dJ hv) (dX hv))<|ei<|an hn.symm<|ei<|an ⟨rfl,by decide⟩<|fun w4 hb4 M4=>lb 0<|an ⟨rfl,rfl⟩ fun w5 M5=>an (by omega)<|bk (m+1) ⟨rfl,trivial⟩ (fun M=>⟨M,by omega⟩) (by dsimp only;omega)
 ·obtain rfl:m=l.length:=by simp at h2;omega
  exact lb 0<|an rfl<|lb 1<|an ⟨rfl,rfl⟩ fun w5 M5=>ei (x:=1)<|an rfl fun M=>⟨by dsimp only;rw[asX],M.below⟩
def uD(s c t d:Int):Bool:=decide (t≤s)&&decide (bits .and .u64 c d=d)
theorem nj(w0:World)(s c t d:Int):Calls Tryz.prog 184 #[.agg #[.int .i64 s,.int .u64 c],.agg #[.int .i64 t,.int .u64 d]] w0 fun r w'=>r=.returned (.bool (uD s c t d))∧asK w0.heap.size w0 w':=
 bX [] (fn:=Tryz.f184) Tryz.func184 rfl Tryz.ntmps184 rfl<|fun _ _ _=>fun _ _ _=>lb 1<|an rfl<|lb 0<|an rfl<|lb 1<|an (fun _=>rfl)<|lb 0<|an (fun _=>rfl)<|ei (x:=bits .and .u64 c d)<|an (fun _=>rfl)<|lb 0<|an (fun _=>rfl) fun M=>⟨rfl,M.below⟩
theorem Ot{P:Program}{a:Act}{w:World}{o:Oper}{ty yt:TypeId}{x y:Operand}{m r:Nat}(ho:o.op=.binOp .quo ty x y yt)(hx:a.eval x=.int .u64 (m:Int))(hy:a.eval y=.int .u64 ((2^r:Nat):Int))(hm:yJ m):(execOp a.eval o).run P w=.ok (.value (.int .u64 ((m/2^r:Nat):Int))) w:=by
 have hp:=Nat.two_pow_pos r;have hle:m/2^r≤m:=Nat.div_le_self _ _;have hm:m<18446744073709551616:=hm;have he:((m:Int)/((2^r:Nat):Int))=((m/2^r:Nat):Int):=(Int.natCast_ediv m (2^r)).symm;rw[IC ho hx hy (by omega),Int.tdiv_eq_ediv_of_nonneg (by omega),he,yM];generalize m/2^r=q at *;rw[Int.emod_eq_of_lt (by omega) (by omega)]
theorem Nu{P:Program}{a:Act}{w:World}{o:Oper}{ty yt:TypeId}{x y:Operand}{m:Nat}(ho:o.op=.binOp .rem ty x y yt)(hx:a.eval x=.int .u64 (m:Int))(hy:a.eval y=.int .u64 2):(execOp a.eval o).run P w=.ok (.value (.int .u64 ((m%2:Nat):Int))) w:=by
 rw[adX ho hx hy (by decide),Int.tmod_eq_emod_of_nonneg (by omega)];congr 3
theorem OA(x r:Nat):decide ((((x/2^r)%2:Nat):Int)=1)=x.testBit r:=by
 rw[Nat.testBit_eq_decide_div_mod_eq];exact decide_eq_decide.2 (by omega)
theorem kK(w0:World)(s:ay)(hs:s.Ok)(n:Int):Calls Tryz.prog 185 #[.agg #[.int .u64 s.a,.int .u64 s.b,.int .u64 s.c,.int .u64 s.d],.int .i64 n] w0 fun e w'=>e=.returned (.bool (s.mem n))∧asK w0.heap.size w0 w':=by
 by_cases h:0≤n∧n<256
 ·obtain⟨q,r,hq,hr,rfl⟩:=qQ h;rw[Dd hq hr];rcases(show q=0∨q=1∨q=2∨q=3 by omega) with rfl|rfl|rfl|rfl
  all_goals
   refine bX [] (fn:=Tryz.f185) Tryz.func185 rfl Tryz.ntmps185 rfl<|fun g1 w1 M1=>dr (by kernel_rfl)<|ei<|an (fun _ a w o ho hv=>Ee hq hr ho (dJ hv) (dX hv))<|ei<|an (fun _=>⟨rfl,by decide⟩)<|lb 0<|an (fun _=>rfl)<|ei<|an (fun _ a w o ho hv=>Zt hr ho (dJ hv) (dX hv))<|ei<|an (fun _ a w o ho hv=>V5 hr ho (dJ hv) (dX hv))<|ei<|an (fun _ a w o ho hv=>Ot ho (dJ hv) (dX hv) (by first|exact hs.a|exact hs.b|exact hs.c|exact hs.d))<|ei<|an (fun _ a w o ho hv=>Nu ho (dJ hv) (dX hv))<|fun w3 zu M3=>fun M=>⟨?_,M.below⟩
   rw[decide_eq_true h.1,decide_eq_true h.2,OA];rfl
 ·refine bX [] (fn:=Tryz.f185) Tryz.func185 rfl Tryz.ntmps185 rfl<|fun g1 w1 M1=>dr (by kernel_rfl)<|ei (x:=.int .i64 0)<|an (fun h2=>absurd h (by simpa using h2))<|ei (x:=0)<|an (fun h2=>⟨rfl,by decide⟩)<|lb 0<|an (fun _=>rfl)<|ei (x:=.int .i64 0)<|an (fun h2=>absurd h (by simpa using h2))<|ei (x:=.int .u64 0)<|an (fun h2=>absurd h (by simpa using h2))<|ei (x:=.int .u64 0)<|an (fun h2=>absurd h (by simpa using h2))<|ei (x:=.int .u64 0)<|an (fun h2=>absurd h (by simpa using h2))<|fun w3 zu M3=>fun M=>⟨?_,M.below⟩
  rw[show s.mem n=false by unfold ay.mem;rw[decide_eq_false h];rfl]
  have:(decide (0≤n)&&decide (n<256))=false:=by
   rw[Bool.and_eq_false_iff,decide_eq_false_iff_not,decide_eq_false_iff_not];omega
  simp[nF,this]
def iT(st:List Bool)(op a:Int)(l:List Bool):Bool:=
 if op=1 then Vd st a else if l.length=0 then false else if op=2 then !(l.getD 0 false) else if l.length<2 then false else if op=3 then l.getD 0 false&&l.getD 1 false else
  if op=4 then l.getD 0 false||l.getD 1 false else if op=6 then l.getD 0 false == l.getD 1 false else l.getD 0 false != l.getD 1 false
mutual
def dg(st:List Bool):aq→Bool
 | .node op a _ _ _ _ kids=>iT st op a (lZ st kids)
def lZ(st:List Bool):List aq→List Bool
 | []=>[]
 | k::l=>dg st k::lZ st l
end
theorem iy(st:List Bool)(e:aq):dg st e=iT st e.op e.a (lZ st e.kids):=by cases e;rw[dg];rfl
theorem xT(st:List Bool):∀ l,lZ st l=l.map (dg st)
 | []=>by rw[lZ];rfl
 | k::l=>by rw[lZ,xT st l];rfl
theorem BI(st:List Bool):∀ (e:aq) (w0:World) (cs:List Value),bh w0 cs e→∀ v:Value,oG w0 v st→Calls Tryz.prog 240 #[.agg cs.toArray,v] w0 (fun(r:Ending) (w':World)=>r=.returned (.bool (dg st e))∧asK w0.heap.size w0 w'):=by
 refine aq.ind fun e ih=>?_
 intro w0 cs hE v hL;have hE0:=hE;obtain⟨_,_,rfl,-,hkk⟩:=hE0.open;obtain⟨_,_,rfl,-⟩:=ak.form hkk (by decide);obtain⟨la,lk,rfl,-,-,hcell⟩:=SliceAt.form hL (by decide);have hm:=xT st e.kids;refine bX [] (fn:=Tryz.f240) Tryz.func240 rfl Tryz.ntmps240 rfl<|fun g1 w1 M1=>lb 0<|an rfl<|an (fun h=>?_) fun h=>?_
 ·have h1:e.op=1:=by simpa using h
  have hv:dg st e=Vd st e.a:=by rw[iy,iT,if_pos h1]
  rw[hv];by_cases hin:0≤e.a∧e.a<st.length
  ·obtain⟨b,off,e2,hc⟩:=hcell e.a.toNat (by omega);refine lb 0<|an rfl<|lb 0<|an (fun _=>rfl)<|lb 0<|an (fun _=>rfl)<|ia (i:=e.a.toNat)<|an (fun _=>⟨e2,by omega,by omega⟩)<|lc (x:=.bool st[e.a.toNat])<|an (fun _=>cell_later M1.below (hc 0 (.bool st[e.a.toNat]) (by simp[show e.a.toNat<st.length by omega]))) fun M=>⟨?_,M.below⟩
   unfold Vd;rw[decide_eq_true hin.1,decide_eq_true (show e.a<(st.length:Int) from hin.2),asN (by omega)];rfl
  ·refine lb 0<|an rfl<|lb 0<|an (fun _=>rfl)<|lb 0<|an (fun _=>rfl)<|ia (b:=0) (off:=0) (i:=0)<|an (fun h2=>absurd hin (fun h3=>h3 (by simpa using h2) |>.elim))<|lc (x:=.bool false)<|an (fun h2=>absurd (show 0≤e.a∧e.a<st.length by simpa using h2) hin) fun M=>⟨?_,M.below⟩
   have hf:(decide (0≤e.a)&&decide (e.a<(st.length:Int)))=false:=by
    rw[Bool.and_eq_false_iff,decide_eq_false_iff_not,decide_eq_false_iff_not];omega
   have ha:Vd st e.a=false:=by
    unfold Vd;by_cases h0:0≤e.a
    ·rw[List.getElem?_eq_none (by omega)];simp
    ·simp[h0]
   rw[hf,ha];rfl
 have h1:e.op≠1:=by simpa using h
 refine lb 0<|an rfl<|an (fun h2 M=>⟨?_,M.below⟩) fun h2=>?_
 ·have h2:e.kids.length=0:=by
   simp only[decide_eq_true_eq] at h2;omega
  rw[iy,iT,if_neg h1,hm,if_pos (by rw[asZ];exact h2)];rfl
 have h2:e.kids.length≠0:=by
  simp only[decide_eq_false_iff_not] at h2;omega
 obtain⟨y,hy⟩:∃ y,e.kids[0]?=some y:=⟨_,asN (by omega)⟩;have sR:=asS hy;obtain⟨b,o,_,e1,rz,hc⟩:=ak.elt hkk (by decide) hy;obtain⟨_,_,rfl,-⟩:=rz.open;have hv0:(lZ st e.kids).getD 0 false=dg st y:=by rw[hm,List.getD_eq_getElem?_getD,as1,hy];rfl
 refine lb 0<|an rfl<|ia (i:=0)<|an ⟨e1,rfl,by omega⟩<|lc<|an (cG M1.below hc)<|cl<|an (ih y sR _ _ (rz.keep M1.below) _ (hL.keep M1.below)) fun w3 M3=>lb 0<|an rfl<|an (fun h3 M=>⟨?_,M.below⟩) fun h3=>?_
 ·have h3:e.op=2:=by simpa using h3
  have hv:dg st e=!dg st y:=by rw[iy st e,iT,if_neg h1,hm,if_neg (by rw[asZ];exact h2),if_pos h3,← hm,hv0]
  rw[hv];rfl
 have h3:e.op≠2:=by simpa using h3
 refine lb 0<|an rfl<|an (fun h4 M=>⟨?_,M.below⟩) fun h4=>?_
 ·have h4:e.kids.length<2:=by
   simp only[decide_eq_true_eq] at h4;omega
  rw[iy,iT,if_neg h1,hm,if_neg (by rw[asZ];exact h2),if_neg h3,if_pos (by rw[asZ];exact h4)];rfl
 have h4:¬ e.kids.length<2:=by
  simp only[decide_eq_false_iff_not] at h4;omega
 obtain⟨z,hz⟩:∃ z,e.kids[1]?=some z:=⟨_,asN (by omega)⟩;have Vw:=asS hz;obtain⟨bz,oz,_,e2,Rs,hcz⟩:=ak.elt hkk (by decide) hz;obtain⟨_,_,rfl,-⟩:=Rs.open;have hv1:(lZ st e.kids).getD 1 false=dg st z:=by rw[hm,List.getD_eq_getElem?_getD,as1,hz];rfl
 have hV:dg st e=if e.op=3 then dg st y&&dg st z else if e.op=4 then dg st y||dg st z else if e.op=6 then dg st y == dg st z else dg st y != dg st z:=by
  rw[iy st e,iT,if_neg h1,if_neg (by rw[hm,asZ];exact h2),if_neg h3,if_neg (by rw[hm,asZ];exact h4),hv0,hv1]
 rw[hV];clear hV hv0 hv1;refine lb 0<|an rfl<|ia (i:=1)<|an ⟨e2,rfl,by omega⟩<|lc<|an (cG M3.below hcz)<|cl<|an (ih z Vw _ _ (Rs.keep M3.below) _ (hL.keep M3.below)) fun w5 M5=>?_
 generalize dg st y=p;generalize dg st z=q;refine lb 0<|an rfl<|an (fun h5 M=>⟨?_,M.below⟩) fun h5=>an (fun h6 M=>⟨?_,M.below⟩) fun h6=>an (fun h7 M=>⟨?_,M.below⟩) fun h7 M=>⟨?_,M.below⟩
 all_goals simp only[decide_eq_true_eq,decide_eq_false_iff_not] at *
 ·rw[if_pos h5];rfl
 ·rw[if_neg h5,if_pos h6];rfl
 ·rw[if_neg h5,if_neg h6,if_pos h7];cases p<;>cases q<;>rfl
 ·rw[if_neg h5,if_neg h6,if_neg h7];cases p<;>cases q<;>rfl
def uM(conds:List aq)(st:List Bool)(k:Int):Bool:=
 if k=0 then true else if 0<k then decide (k≤conds.length)&&((conds[(k-1).toNat]?).map (dg st)).getD false
 else decide (0-(conds.length:Int)≤k)&&!((conds[(0-k-1).toNat]?).map (dg st)).getD false
theorem F2(w0:World)(c0 c1 c2 c3 c4 c5 c6 c7 c8 c9 aS aN aM aR aQ aP aO:Value)(p:aA)(hp:aJ w0 c0 c1 c2 c3 c4 c5 c6 c7 c8 c9 aS aN aM aR aQ aP aO p)(v:Value)(st:List Bool)(hL:oG w0 v st)(k:Int)(hk:-1000000≤k∧k≤1000000):Calls Tryz.prog 186 #[.agg #[c0,c1,c2,c3,c4,c5,c6,c7,c8,c9,aS,aN,aM,aR,aQ,aP,aO],v,.int .i64 k] w0 (fun(r:Ending) (w':World)=>r=.returned (.bool (uM p.conds st k))∧asK w0.heap.size w0 w'):=by
 have mL:=hp;obtain⟨_,_,-,-,hmC,-⟩:=ak.form mL.conds (by decide);obtain⟨_,_,_,_,_,_,_,_,_,_,_,_,_,_,_,_,_,_,_,_,_,_,_,_,_,_,_,_,_,_,_,_,_,_,rfl,rfl,rfl,rfl,rfl,rfl,rfl,rfl,rfl,rfl,rfl,rfl,rfl,rfl,rfl,rfl,rfl⟩:=hp.open;refine bX [] (fn:=Tryz.f186) Tryz.func186 rfl Tryz.ntmps186 rfl<|fun g1 w1 M1=>an (fun h M=>⟨?_,M.below⟩) fun h=>an (fun h1=>?_) fun h1=>?_
 ·have h:k=0:=by simpa using h
  rw[uM,if_pos h];rfl
 all_goals
  simp only[decide_eq_true_eq,decide_eq_false_iff_not] at h h1;unfold uM;rw[if_neg h]
 ·rw[if_pos h1];by_cases hin:k≤p.conds.length
  ·obtain⟨y,hy⟩:∃ y,p.conds[(k-1).toNat]?=some y:=⟨_,asN (by omega)⟩;obtain⟨b,o,_,e1,rz,hc⟩:=ak.elt mL.conds (by decide) hy;obtain⟨_,_,rfl,-⟩:=rz.open;rw[hy];refine lb 0<|an rfl<|lb 0<|an (fun _=>rfl)<|an (fun _=>by omega)<|ia (i:=(k-1).toNat)<|an (fun _=>⟨e1,by omega,by omega⟩)<|lc<|an (fun _=>cG M1.below hc)<|cl<|an (fun _=>BI st y _ _ (rz.keep M1.below) _ (hL.keep M1.below)) fun w2 M2=>fun M=>⟨rfl,M.below⟩
  ·refine lb 0<|an rfl<|lb 0<|an (fun _=>rfl)<|an (fun _=>by omega)<|ia (b:=0) (off:=0) (i:=0)<|an (fun h2=>absurd (of_decide_eq_true h2) hin)<|lc (x:=[.int .i64 0,.int .i64 0,.int .i64 0,.int .i64 0,.slice none 0 0,.int .u64 0,.int .u64 0,.int .u64 0,.int .u64 0,.slice none 0 0])<|an (fun h2=>absurd (of_decide_eq_true h2) hin)<|cl (v:=.bool false)<|an (fun h2=>absurd (of_decide_eq_true h2) hin) fun w2 M2=>fun M=>⟨?_,M.below⟩
   rw[decide_eq_false hin];rfl
 ·rw[if_neg h1];by_cases hin:0-(p.conds.length:Int)≤k
  ·obtain⟨y,hy⟩:∃ y,p.conds[(0-k-1).toNat]?=some y:=⟨_,asN (by omega)⟩;obtain⟨b,o,_,e1,rz,hc⟩:=ak.elt mL.conds (by decide) hy;obtain⟨_,_,rfl,-⟩:=rz.open;rw[hy];refine lb 0<|an rfl<|an (by omega)<|lb 0<|an (fun _=>rfl)<|an (fun _=>by omega)<|an (fun _=>by omega)<|ia (i:=(0-k-1).toNat)<|an (fun _=>⟨e1,by omega,by omega⟩)<|lc<|an (fun _=>cG M1.below hc)<|cl<|an (fun _=>BI st y _ _ (rz.keep M1.below) _ (hL.keep M1.below)) fun w2 M2=>fun M=>⟨rfl,M.below⟩
  ·refine lb 0<|an rfl<|an (by omega)<|lb 0<|an (fun _=>rfl)<|an (fun _=>by omega)<|an (fun _=>by omega)<|ia (b:=0) (off:=0) (i:=0)<|an (fun h2=>absurd (of_decide_eq_true h2) hin)<|lc (x:=[.int .i64 0,.int .i64 0,.int .i64 0,.int .i64 0,.slice none 0 0,.int .u64 0,.int .u64 0,.int .u64 0,.int .u64 0,.slice none 0 0])<|an (fun h2=>absurd (of_decide_eq_true h2) hin)<|cl (v:=.bool true)<|an (fun h2=>absurd (of_decide_eq_true h2) hin) fun w2 M2=>fun M=>⟨?_,M.below⟩
   rw[decide_eq_false hin];rfl
def nQ(r:aj)(s t:dI)(cls:Int):Bool:=decide (r.cls=cls)&&r.src.mem s.typ&&(r.tgt.mem t.typ||(r.self&&decide (s.typ=t.typ)))
theorem Hq(w0:World)(r:aj)(hr:r.ny)(s t:dI)(cls:Int):Calls Tryz.prog 187 #[.agg #[.int .i64 r.kind,.int .u64 r.src.a,.int .u64 r.src.b,.int .u64 r.src.c,.int .u64 r.src.d,.int .u64 r.tgt.a,.int .u64 r.tgt.b,.int .u64 r.tgt.c,.int .u64 r.tgt.d,.bool r.self,.int .i64 r.cls,.int .u32 r.perms,.int .i64 r.cond],.agg #[.int .i64 s.user,.int .i64 s.role,.int .i64 s.typ,.int .i64 s.rng.low.aC,.int .u64 s.rng.low.cats,.int .i64 s.rng.high.aC,.int .u64 s.rng.high.cats],.agg #[.int .i64 t.user,.int .i64 t.role,.int .i64 t.typ,.int .i64 t.rng.low.aC,.int .u64 t.rng.low.cats,.int .i64 t.rng.high.aC,.int .u64 t.rng.high.cats],.int .i64 cls] w0 (fun(e:Ending) (w':World)=>e=.returned (.bool (nQ r s t cls))∧asK w0.heap.size w0 w'):=by
 refine bX [] (fn:=Tryz.f187) Tryz.func187 rfl Tryz.ntmps187 rfl<|fun g1 w1 M1=>fun g2 w2 M2=>fun g3 w3 M3=>lb 2<|an rfl<|lb 2<|an (fun _=>rfl)<|lb 1<|an (fun _=>rfl)<|cl<|an (fun _=>kK _ r.src hr.src s.typ) fun w4 M4=>lb 2<|an (fun _=>rfl)<|lb 0<|an (fun _=>rfl)<|cl<|an (fun _=>kK _ r.tgt hr.tgt t.typ) fun w5 M5=>lb 2<|an (fun _=>rfl)<|lb 1<|an (fun _=>rfl)<|lb 0<|an (fun _=>rfl) fun M=>⟨rfl,M.below⟩
def q7(p:aA)(st:List Bool)(kind:Int)(s t:dI)(cls:Int)(v:Int)(r:aj):Int:=if (decide (r.kind=kind)&&uM p.conds st r.cond&&nQ r s t cls)=true then bits .or .u32 v r.perms else v
def gI(p:aA)(st:List Bool)(kind:Int)(s t:dI)(cls:Int):Int:=p.rules.foldl (q7 p st kind s t cls) 0
theorem OZ(w0:World)(c0 c1 c2 c3 c4 c5 c6 c7 c8 c9 aS aN aM aR aQ aP aO:Value)(p:aA)(hp:aJ w0 c0 c1 c2 c3 c4 c5 c6 c7 c8 c9 aS aN aM aR aQ aP aO p)(hok:p.Ok)(hcR:∀ r∈p.rules,-1000000≤r.cond∧r.cond≤1000000)(v:Value)(st:List Bool)(hL:oG w0 v st)(kind:Int)(s t:dI)(cls:Int):Calls Tryz.prog 95 #[.agg #[c0,c1,c2,c3,c4,c5,c6,c7,c8,c9,aS,aN,aM,aR,aQ,aP,aO],v,.int .i64 kind,.agg #[.int .i64 s.user,.int .i64 s.role,.int .i64 s.typ,.int .i64 s.rng.low.aC,.int .u64 s.rng.low.cats,.int .i64 s.rng.high.aC,.int .u64 s.rng.high.cats],.agg #[.int .i64 t.user,.int .i64 t.role,.int .i64 t.typ,.int .i64 t.rng.low.aC,.int .u64 t.rng.low.cats,.int .i64 t.rng.high.aC,.int .u64 t.rng.high.cats],.int .i64 cls] w0 (fun(e:Ending) (w':World)=>e=.returned (.int .u32 (gI p st kind s t cls))∧asK w0.heap.size w0 w'):=by
 have mL:=hp;obtain⟨_,_,-,-,hmR,-⟩:=SliceAt.form mL.rules (by decide);obtain⟨_,_,_,_,_,_,_,_,_,_,_,_,_,_,_,_,_,_,_,_,_,_,_,_,_,_,_,_,_,_,_,_,_,_,rfl,rfl,rfl,rfl,rfl,rfl,rfl,rfl,rfl,rfl,rfl,rfl,rfl,rfl,rfl,rfl,rfl⟩:=hp.open;refine bX [] (fn:=Tryz.f95) Tryz.func95 rfl Tryz.ntmps95 rfl<|fun g1 w1 M1=>fun g2 w2 M2=>fun g3 w3 M3=>lr (ι:=Nat) (fun m=>[(13,.int .u32 ((p.rules.take m).foldl (q7 p st kind s t cls) 0)),(14,.int .i64 (m:Int))]) (fun m _=>m≤p.rules.length) (fun m=>p.rules.length-m) 0 (an ⟨⟨rfl,rfl,trivial⟩,fun M=>⟨M,asJ _⟩⟩ ?_)
 intro m w M hm;refine lb 2<|an rfl<|an (fun h=>?_) fun h=>?_
 ·have hlt:m<p.rules.length:=by simp at h;omega
  obtain⟨y,hy⟩:∃ y,p.rules[m]?=some y:=⟨_,asN hlt⟩;have sR:=asS hy;obtain⟨b,o,e,hc⟩:=SliceAt.elt mL.rules (fun _=>rfl) (by decide) hy hlt;have hn:(p.rules.take (m+1)).foldl (q7 p st kind s t cls) 0=q7 p st kind s t cls ((p.rules.take m).foldl (q7 p st kind s t cls) 0) y:=by rw[bf hy,List.foldl_append];rfl
  have hF:∀ b,(decide (y.kind=kind)&&uM p.conds st y.cond&&nQ y s t cls)=b→q7 p st kind s t cls ((p.rules.take m).foldl (q7 p st kind s t cls) 0) y=if b=true then bits .or .u32 ((p.rules.take m).foldl (q7 p st kind s t cls) 0) y.perms else (p.rules.take m).foldl (q7 p st kind s t cls) 0:=fun b hb=>by unfold q7;rw[hb]
  refine lb 2<|an rfl<|ia<|an ⟨e,rfl,hlt⟩<|lc<|an (cG M.below hc)<|ei<|an oH fun g4 w4 M4=>lb 0<|an ⟨rfl,rfl⟩ fun w5 M5=>lb 0<|an rfl<|lb 3<|an (fun _=>rfl)<|lb 0<|an (fun _=>rfl)<|cl<|an (fun _=>F2 _ _ _ _ _ _ _ _ _ _ _ _ _ _ _ _ _ _ p (mL.keep M5.below) _ st (hL.keep M5.below) y.cond (hcR y sR)) fun w6 M6=>lb 0<|an (fun _=>rfl)<|lb 2<|an (fun _=>rfl)<|lb 1<|an (fun _=>rfl)<|cl<|an (fun _=>Hq _ y (hok.rules y sR) s t cls) fun w7 M7=>an (fun h2=>?_) fun h2=>?_
  ·exact lb 0<|an rfl<|ei<|an rfl<|an (by omega)<|bk (m+1) ⟨by dsimp only;rw[hn,hF _ h2];rfl,rfl,trivial⟩ (fun M=>⟨M.only (.cons _ (.refl _)) (.refl _),by omega⟩) (by dsimp only;omega)
  ·exact an (by omega)<|bk (m+1) ⟨by dsimp only;rw[hn,hF _ h2];rfl,rfl,trivial⟩ (fun M=>⟨M.only (.cons _ (.refl _)) (.refl _),by omega⟩) (by dsimp only;omega)
 ·obtain rfl:m=p.rules.length:=by simp at h;omega
  rw[show gI p st kind s t cls=(p.rules.take p.rules.length).foldl (q7 p st kind s t cls) 0 by rw[asX];rfl];exact fun M'=>⟨rfl,M.below⟩
def Di(p:aA)(l:lM):Bool:=!(decide (l.aC<0)||decide ((p.aC.length:Int)≤l.aC))&&(List.range 64).all fun i=>!(l.cats.testBit i&&decide ((p.cats.length:Int)≤(i:Int)))
theorem Dh(w0:World)(c0 c1 c2 c3 c4 c5 c6 c7 c8 c9 aS aN aM aR aQ aP aO:Value)(p:aA)(hp:aJ w0 c0 c1 c2 c3 c4 c5 c6 c7 c8 c9 aS aN aM aR aQ aP aO p)(l:lM)(hl:l.Ok):Calls Tryz.prog 183 #[.agg #[c0,c1,c2,c3,c4,c5,c6,c7,c8,c9,aS,aN,aM,aR,aQ,aP,aO],.agg #[.int .i64 l.aC,.int .u64 l.cats]] w0 (fun(r:Ending) (w':World)=>r=.returned (.bool (Di p l))∧asK w0.heap.size w0 w'):=by
 have mL:=hp;obtain⟨_,_,_,_,_,_,_,_,_,_,_,_,_,_,_,_,_,_,_,_,_,_,_,_,_,_,_,_,_,_,_,_,_,_,rfl,rfl,rfl,rfl,rfl,rfl,rfl,rfl,rfl,rfl,rfl,rfl,rfl,rfl,rfl,rfl,rfl⟩:=hp.open;refine bX [] (fn:=Tryz.f183) Tryz.func183 rfl Tryz.ntmps183 rfl<|fun g1 w1 M1=>fun g2 w2 M2=>lb 0<|an rfl<|lb 0<|an (fun _=>rfl)<|lb 1<|an (fun _=>rfl)<|an (fun h M=>⟨?_,M.below⟩) fun h=>?_
 ·have h:(decide (l.aC<0)||decide ((p.aC.length:Int)≤l.aC))=true:=h;unfold Di;rw[h];rfl
 have h:(decide (l.aC<0)||decide ((p.aC.length:Int)≤l.aC))=false:=h;have he:Di p l=(List.range 64).all fun i=>!(l.cats.testBit i&&decide ((p.cats.length:Int)≤(i:Int))):=by unfold Di;rw[h];rfl
 rw[he];refine lr (ι:=Nat) (fun m=>[(5,.int .i64 (m:Int))]) (fun m _=>m≤64∧∀ i,i<m→(!(l.cats.testBit i&&decide ((p.cats.length:Int)≤(i:Int))))=true) (fun m=>64-m) 0 (an ⟨⟨rfl,trivial⟩,fun M=>⟨M,asJ _,fun i h=>absurd h (Nat.not_lt_zero i)⟩⟩ ?_);intro m w M ⟨hm,hI⟩;refine an (fun h2=>?_) fun h2 M=>⟨?_,M.below⟩
 ·have hlt:m<64:=by simp at h2;omega
  refine dr (by kernel_rfl)<|lb 0<|an rfl<|ei<|an (fun a w o ho hv=>V5 hlt ho (dJ hv) (dX hv))<|ei<|an (fun a w o ho hv=>Ot ho (dJ hv) (dX hv) hl.cats)<|ei<|an (fun a w o ho hv=>Nu ho (dJ hv) (dX hv))<|lb 1<|an (fun _=>rfl)<|fun w3 zu M3=>?_
  rw[OA];refine an (fun h3 M=>⟨?_,M.below⟩) fun h3=>an (by omega)<|bk (m+1) ⟨rfl,trivial⟩ (fun M=>⟨M,by omega,fun i hi=>?_⟩) (by dsimp only;omega)
  ·have h4:(l.cats.testBit m&&decide ((p.cats.length:Int)≤(m:Int)))=true:=h3
   rw[show((List.range 64).all fun i=>!(l.cats.testBit i&&decide ((p.cats.length:Int)≤(i:Int))))=false from by
    rw[List.all_eq_false];exact⟨m,List.mem_range.2 hlt,by rw[h4];decide⟩]
   rfl
  ·by_cases e:i=m
   ·subst e;have h4:(l.cats.testBit i&&decide ((p.cats.length:Int)≤(i:Int)))=false:=h3;rw[h4];rfl
   ·exact hI i (by omega)
 ·rw[show((List.range 64).all fun i=>!(l.cats.testBit i&&decide ((p.cats.length:Int)≤(i:Int))))=true from by
   rw[List.all_eq_true];exact fun i hi=>hI i (by have:=List.mem_range.1 hi;simp only[decide_eq_false_iff_not] at h2;omega)]
  rfl
def rW(p:aA)(a b:Int):Bool:=if (((decide (a<0)||decide ((p.roles.length:Int)≤a))||decide (b<0))||decide ((p.roles.length:Int)≤b))=true then false else decide (a=b)||((p.roles[a.toNat]?).map fun r=>r.next.mem b).getD false
theorem Ky(w0:World)(c0 c1 c2 c3 c4 c5 c6 c7 c8 c9 aS aN aM aR aQ aP aO:Value)(p:aA)(hp:aJ w0 c0 c1 c2 c3 c4 c5 c6 c7 c8 c9 aS aN aM aR aQ aP aO p)(hok:p.Ok)(a b:Int):Calls Tryz.prog 189 #[.agg #[c0,c1,c2,c3,c4,c5,c6,c7,c8,c9,aS,aN,aM,aR,aQ,aP,aO],.int .i64 a,.int .i64 b] w0 (fun(r:Ending) (w':World)=>r=.returned (.bool (rW p a b))∧asK w0.heap.size w0 w'):=by
 have mL:=hp;obtain⟨_,_,_,_,_,_,_,_,_,_,_,_,_,_,_,_,_,_,_,_,_,_,_,_,_,_,_,_,_,_,_,_,_,_,rfl,rfl,rfl,rfl,rfl,rfl,rfl,rfl,rfl,rfl,rfl,rfl,rfl,rfl,rfl,rfl,rfl⟩:=hp.open;refine bX [] (fn:=Tryz.f189) Tryz.func189 rfl Tryz.ntmps189 rfl<|fun g1 w1 M1=>lb 0<|an (fun _=>rfl)<|lb 0<|an (fun _=>rfl)<|an (fun h M=>⟨?_,M.below⟩) fun h=>?_
 ·unfold rW;rw[if_pos h];rfl
 have hh:¬ ((((decide (a<0)||decide ((p.roles.length:Int)≤a))||decide (b<0))||decide ((p.roles.length:Int)≤b))=true):=by
  intro h2;rw[show _=false from h] at h2;cases h2
 unfold rW;rw[if_neg hh]
 have ha:0≤a∧a<p.roles.length:=by
  simp only[Bool.or_eq_true,decide_eq_true_eq] at hh;omega
 obtain⟨y,hy⟩:∃ y,p.roles[a.toNat]?=some y:=⟨_,asN (by omega)⟩;obtain⟨b1,o1,e1,hc⟩:=SliceAt.elt mL.roles (fun _=>rfl) (by decide) hy (by omega);rw[hy];exact lb 0<|an (fun _=>rfl)<|ia (i:=a.toNat)<|an (fun _=>⟨e1,by omega,by omega⟩)<|lc (x:=[.int .u64 y.next.a,.int .u64 y.next.b,.int .u64 y.next.c,.int .u64 y.next.d])<|an (fun _=>pH (cG M1.below hc) rfl)<|cl<|an (fun _=>kK _ y.next (hok.roles y (asS hy)).next b) fun w2 M2=>fun M=>⟨rfl,M.below⟩
def mU(l:List ByteArray)(s:ByteArray):Nat→Nat→Int×Bool
 | 0,_=>(0,false)
 | f+1,i=>match l[i]? with
  | some x=>if x=s then ((i:Int),true) else mU l s f (i+1)
  | none=>(0,false)
def gF(p:aA)(cls:Int)(s:ByteArray):Int×Bool:=if (decide (cls<0)||decide ((p.classes.length:Int)≤cls))=true then (0,false) else ((p.classes[cls.toNat]?).map fun c=>mU c.perms s 32 0).getD (0,false)
theorem KL(w0:World)(c0 c1 c2 c3 c4 c5 c6 c7 c8 c9 aS aN aM aR aQ aP aO:Value)(p:aA)(hp:aJ w0 c0 c1 c2 c3 c4 c5 c6 c7 c8 c9 aS aN aM aR aQ aP aO p)(cls:Int)(s:ByteArray):Calls Tryz.prog 190 #[.agg #[c0,c1,c2,c3,c4,c5,c6,c7,c8,c9,aS,aN,aM,aR,aQ,aP,aO],.int .i64 cls,.string s] w0 (fun(r:Ending) (w':World)=>r=.returned (.tuple #[.int .i64 (gF p cls s).1,.bool (gF p cls s).2])∧asK w0.heap.size w0 w'):=by
 have mL:=hp;obtain⟨_,_,_,_,_,_,_,_,_,_,_,_,_,_,_,_,_,_,_,_,_,_,_,_,_,_,_,_,_,_,_,_,_,_,rfl,rfl,rfl,rfl,rfl,rfl,rfl,rfl,rfl,rfl,rfl,rfl,rfl,rfl,rfl,rfl,rfl⟩:=hp.open;refine bX [] (fn:=Tryz.f190) Tryz.func190 rfl Tryz.ntmps190 rfl<|fun g1 w1 M1=>lb 0<|an (fun _=>rfl)<|an (fun h M=>⟨?_,M.below⟩) fun h=>?_
 ·unfold gF;rw[if_pos h];rfl
 have hh:¬ ((decide (cls<0)||decide ((p.classes.length:Int)≤cls))=true):=by
  intro h2;rw[show _=false from h] at h2;cases h2
 have ha:0≤cls∧cls<p.classes.length:=by
  simp only[Bool.or_eq_true,decide_eq_true_eq] at hh;omega
 obtain⟨y,hy⟩:∃ y,p.classes[cls.toNat]?=some y:=⟨_,asN (by omega)⟩;obtain⟨b1,o1,_,e1,⟨pv,rfl,hpv⟩,hc⟩:=ak.elt mL.classes (by decide) hy;obtain⟨_,_,rfl,-,hmp,-⟩:=aH.open hpv;have he:gF p cls s=mU y.perms s 32 0:=by unfold gF;rw[if_neg hh,hy];rfl
 rw[he];refine lb 0<|an rfl<|ia (i:=cls.toNat)<|an ⟨e1,by omega,by omega⟩<|lc<|an (cG M1.below hc 1 _ rfl)<|lr (ι:=Nat) (fun m=>[(9,.int .i64 (m:Int))]) (fun m _=>m≤y.perms.length∧m≤32∧mU y.perms s 32 0=mU y.perms s (32-m) m) (fun m=>32-m) 0 (an ⟨⟨rfl,trivial⟩,fun M=>⟨M,asJ _,asJ _,rfl⟩⟩ ?_);intro m w M ⟨hm,hm2,hI⟩;refine an (fun h2=>?_) fun h2 M=>⟨?_,M.below⟩
 ·have hlt:m<y.perms.length∧m<32:=by
   simp only[asY,decide_eq_true_eq] at h2;omega
  obtain⟨x,hx⟩:∃ x,y.perms[m]?=some x:=⟨_,asN hlt.1⟩;obtain⟨b2,o2,e2,hc2⟩:=SliceAt.elt hpv (fun _=>rfl) (by decide) hx hlt.1
  have hs:mU y.perms s (32-m) m=if x=s then ((m:Int),true) else mU y.perms s (32-(m+1)) (m+1):=by
   rw[show 32-m=(32-(m+1))+1 by omega,mU,hx]
  refine ia<|an ⟨e2,rfl,hlt.1⟩<|lc (x:=.string x)<|an (cG M.below hc2 0 _ rfl)<|an (fun h3 M=>⟨?_,M.below⟩) fun h3=>an (by omega)<|bk (m+1) ⟨rfl,trivial⟩ (fun M=>⟨M,by omega,by omega,?_⟩) (by dsimp only;omega)
  ·rw[hI,hs,if_pos (Og h3)];rfl
  ·rw[hI,hs,if_neg (UG h3)]
 ·have:mU y.perms s (32-m) m=(0,false):=by
   simp only[Bool.and_eq_false_iff,decide_eq_false_iff_not] at h2;by_cases e:m=32
   ·subst e;rfl
   ·rw[show 32-m=(32-(m+1))+1 by omega,mU,List.getElem?_eq_none (by omega)]
  rw[hI,this];rfl
def Bf:Nat→Int
 | 0=>0
 | k+1=>bits .or .u32 (Bf k) (IntKind.u32.wrap (1*2^(k:Int).toNat))
theorem LU(w0:World)(c0 c1 c2 c3 c4 c5 c6 c7 c8 c9 aS aN aM aR aQ aP aO:Value)(p:aA)(hp:aJ w0 c0 c1 c2 c3 c4 c5 c6 c7 c8 c9 aS aN aM aR aQ aP aO p)(cls:Nat)(y:iB)(hy:p.classes[cls]?=some y):Calls Tryz.prog 98 #[.agg #[c0,c1,c2,c3,c4,c5,c6,c7,c8,c9,aS,aN,aM,aR,aQ,aP,aO],.int .i64 (cls:Int)] w0 (fun(r:Ending) (w':World)=>r=.returned (.int .u32 (Bf (min y.perms.length 32)))∧asK w0.heap.size w0 w'):=by
 have mL:=hp;have hlt:=(asO.1 hy).1;obtain⟨_,_,_,_,_,_,_,_,_,_,_,_,_,_,_,_,_,_,_,_,_,_,_,_,_,_,_,_,_,_,_,_,_,_,rfl,rfl,rfl,rfl,rfl,rfl,rfl,rfl,rfl,rfl,rfl,rfl,rfl,rfl,rfl,rfl,rfl⟩:=hp.open;obtain⟨b1,o1,_,e1,⟨pv,rfl,hpv⟩,hc⟩:=ak.elt mL.classes (by decide) hy;obtain⟨_,_,rfl,-,hmp,-⟩:=aH.open hpv;refine bX [] (fn:=Tryz.f98) Tryz.func98 rfl Tryz.ntmps98 rfl<|fun g1 w1 M1=>lr (ι:=Nat) (fun m=>[(5,.int .u32 (Bf m)),(6,.int .i64 (m:Int))]) (fun m _=>m≤y.perms.length∧m≤32) (fun m=>32-m) 0 (an ⟨⟨rfl,rfl,trivial⟩,fun M=>⟨M,asJ _,asJ _⟩⟩ ?_)
 intro m w M ⟨hm,hm2⟩;refine lb 0<|an rfl<|ia<|an ⟨e1,rfl,hlt⟩<|lc<|an (cG M.below hc 1 _ rfl)<|an (fun h2=>?_) fun h2=>?_
 ·have hl:m<y.perms.length∧m<32:=by
   simp only[asY,decide_eq_true_eq] at h2;omega
  exact ei<|an (fun a w o ho hv=>k_ ho (dJ hv) (dX hv) (by omega) (show _≤((32:Nat):Int) by omega))<|ei<|an rfl<|an (by omega)<|bk (m+1) ⟨rfl,rfl,trivial⟩ (fun M=>⟨M,by omega,by omega⟩) (by dsimp only;omega)
 ·obtain rfl:m=min y.perms.length 32:=by
   simp only[Bool.and_eq_false_iff,decide_eq_false_iff_not] at h2;omega
  exact fun M'=>⟨rfl,M.below⟩
def dA(p:aA)(x:dI):Bool:=
 if (((((decide (x.user<0)||decide ((p.users.length:Int)≤x.user))||decide (x.role<0))||decide ((p.roles.length:Int)≤x.role))||decide (x.typ<0))||decide ((p.types.length:Int)≤x.typ))=true then false
 else if ((!Di p x.rng.low||!Di p x.rng.high)||!uD x.rng.high.aC x.rng.high.cats x.rng.low.aC x.rng.low.cats)=true then false
 else if x.role=0 then true
 else match p.users[x.user.toNat]?,p.roles[x.role.toNat]? with
  | some u,some r=>((u.roles.mem x.role&&r.types.mem x.typ)&&uD x.rng.low.aC x.rng.low.cats u.rng.low.aC u.rng.low.cats)&&uD u.rng.high.aC u.rng.high.cats x.rng.high.aC x.rng.high.cats
  | _,_=>false
theorem wU(w0:World)(c0 c1 c2 c3 c4 c5 c6 c7 c8 c9 aS aN aM aR aQ aP aO:Value)(p:aA)(hp:aJ w0 c0 c1 c2 c3 c4 c5 c6 c7 c8 c9 aS aN aM aR aQ aP aO p)(hok:p.Ok)(x:dI)(hx:x.Ok):Calls Tryz.prog 94 #[.agg #[c0,c1,c2,c3,c4,c5,c6,c7,c8,c9,aS,aN,aM,aR,aQ,aP,aO],.agg #[.int .i64 x.user,.int .i64 x.role,.int .i64 x.typ,.int .i64 x.rng.low.aC,.int .u64 x.rng.low.cats,.int .i64 x.rng.high.aC,.int .u64 x.rng.high.cats]] w0 (fun(r:Ending) (w':World)=>r=.returned (.bool (dA p x))∧asK w0.heap.size w0 w'):=by
 have mL:=hp;obtain⟨_,_,_,_,_,_,_,_,_,_,_,_,_,_,_,_,_,_,_,_,_,_,_,_,_,_,_,_,_,_,_,_,_,_,rfl,rfl,rfl,rfl,rfl,rfl,rfl,rfl,rfl,rfl,rfl,rfl,rfl,rfl,rfl,rfl,rfl⟩:=hp.open;refine bX [] (fn:=Tryz.f94) Tryz.func94 rfl Tryz.ntmps94 rfl<|fun g1 w1 M1=>fun g2 w2 M2=>lb 0<|an rfl<|lb 0<|an (fun _=>rfl)<|lb 1<|an (fun _=>rfl)<|lb 0<|an (fun _=>rfl)<|lb 0<|an (fun _=>rfl)<|lb 1<|an (fun _=>rfl)<|lb 0<|an (fun _=>rfl)<|lb 0<|an (fun _=>rfl)<|lb 1<|an (fun _=>rfl)<|an (fun h M=>⟨?_,M.below⟩) fun h=>?_
 ·unfold dA;rw[if_pos h];rfl
 have hh:¬ ((((((decide (x.user<0)||decide ((p.users.length:Int)≤x.user))||decide (x.role<0))||decide ((p.roles.length:Int)≤x.role))||decide (x.typ<0))||decide ((p.types.length:Int)≤x.typ))=true):=by
  intro h2;rw[show _=false from h] at h2;cases h2
 have hr:(0≤x.user∧x.user<p.users.length)∧(0≤x.role∧x.role<p.roles.length):=by
  simp only[Bool.or_eq_true,decide_eq_true_eq] at hh;omega
 unfold dA;rw[if_neg hh];refine lb 1<|an rfl<|lb 0<|an rfl<|cl<|an (Dh _ _ _ _ _ _ _ _ _ _ _ _ _ _ _ _ _ _ p (mL.keep M2.below) x.rng.low hx.rng.low) fun w3 M3=>lb 1<|an (fun _=>rfl)<|lb 0<|an (fun _=>rfl)<|cl<|an (fun _=>Dh _ _ _ _ _ _ _ _ _ _ _ _ _ _ _ _ _ _ p (mL.keep M3.below) x.rng.high hx.rng.high) fun w4 M4=>lb 0<|an (fun _=>rfl)<|lb 0<|an (fun _=>rfl)<|cl<|an (fun _=>nj _ x.rng.high.aC x.rng.high.cats x.rng.low.aC x.rng.low.cats) fun w5 M5=>an (fun h2 M=>⟨?_,M.below⟩) fun h2=>?_
 ·rw[if_pos h2];rfl
 rw[if_neg (by intro h3;rw[show _=false from h2] at h3;cases h3)];refine lb 0<|an rfl<|an (fun h3 M=>⟨?_,M.below⟩) fun h3=>?_
 ·rw[if_pos (by simpa using h3)];rfl
 rw[if_neg (by simpa using h3)];obtain⟨y,hy⟩:∃ y,p.users[x.user.toNat]?=some y:=⟨_,asN (by omega)⟩;obtain⟨b1,o1,e1,hc⟩:=SliceAt.elt mL.users (fun _=>rfl) (by decide) hy (by omega);obtain⟨z,hz⟩:∃ z,p.roles[x.role.toNat]?=some z:=⟨_,asN (by omega)⟩;obtain⟨b2,o2,e2,hc2⟩:=SliceAt.elt mL.roles (fun _=>rfl) (by decide) hz (by omega);have oy:=hok.users y (asS hy);have oz:=hok.roles z (asS hz);rw[hy,hz];refine lb 1<|an rfl<|lb 0<|an rfl<|ia (i:=x.user.toNat)<|an ⟨e1,by omega,by omega⟩<|lc<|an (cG M5.below hc)<|ei<|an RA fun g3 w6 M6=>lb 0<|an ⟨rfl,rfl⟩ fun w7 M7=>?_
 exact dr (by kernel_rfl)<|lb 0<|an rfl<|lb 1<|an rfl<|cl<|an (fun w' hb' M'=>kK _ y.roles oy.roles x.role)<|lb 2<|an (fun _=>rfl)<|lb 1<|an (fun _=>rfl)<|ia (i:=x.role.toNat)<|an (fun _=>⟨e2,by omega,by omega⟩)<|lc (x:=[.int .u64 z.types.a,.int .u64 z.types.b,.int .u64 z.types.c,.int .u64 z.types.d])<|an (fun _=>pH (cG M7.below hc2) rfl)<|lb 1<|an (fun _=>rfl)<|cl<|an (fun _ w' hb' M'=>kK _ z.types oz.types x.typ)<|lb 1<|an (fun _=>rfl)<|lb 0<|an (fun _=>rfl)<|cl<|an (fun _ w' hb' M'=>nj _ x.rng.low.aC x.rng.low.cats y.rng.low.aC y.rng.low.cats)<|lb 0<|an (fun _=>rfl)<|lb 1<|an (fun _=>rfl)<|cl<|an (fun _ w' hb' M'=>nj _ y.rng.high.aC y.rng.high.cats x.rng.high.aC x.rng.high.cats)<|fun w8 hb8 M8=>fun M=>⟨rfl,M.below⟩
end Go.Proofs.YtdcofoaihmongaaGreat

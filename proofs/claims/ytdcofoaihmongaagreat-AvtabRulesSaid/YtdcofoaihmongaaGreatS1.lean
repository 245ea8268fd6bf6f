import Derived.Deep.DeepCutAuto
import Derived.Deep.QuietTactic
import Derived.DeepKeys4
import Derived.Handy
import Derived.Laws.BitsAllLaws
import Derived.Laws.Rows
import Derived.Lib.Hide
import Derived.Test.YtdcofoaihmongaaGreatRows
import Derived.WideKeyMaps
import Derived.WideKeyPair
import Derived.Test.YtdcofoaihmongaaGreatS0
namespace Go.Proofs.YtdcofoaihmongaaGreat
open Go Go.RowKit
def firstE (f:Nat→Int):Nat→Nat→Int
 | 0,_=>0
 | k+1,i=>if f i=0 then firstE f k (i+1) else f i
theorem firstE_stop (f:Nat→Int) (n:Nat):firstE f (n-n) n=0:=by rw[Nat.sub_self];rfl
theorem firstE_at {f:Nat→Int} {n i:Nat} (h:i<n) (hf:f i≠0):firstE f (n-i) i=f i:=by
 obtain⟨k,hk⟩:∃ k,n-i=k+1:=⟨n-i-1,by omega⟩
 rw[hk]
 exact if_neg hf
theorem firstE_next {f:Nat→Int} {n i:Nat} (h:i<n) (hf:f i=0):firstE f (n-i) i=firstE f (n-(i+1)) (i+1):=by
 obtain⟨k,hk⟩:∃ k,n-i=k+1:=⟨n-i-1,by omega⟩
 rw[hk,show n-(i+1)=k by omega]
 exact if_pos hf
theorem firstE_zero {f:Nat→Int}:∀ (k i:Nat),firstE f k i=0↔∀ j,i≤j→j<i+k→f j=0
 | 0,i=>⟨fun _ j h1 h2=>by omega,fun _=>rfl⟩
 | k+1,i=>by
  unfold firstE
  by_cases h:f i=0
  ·rw[if_pos h,firstE_zero k (i+1)]
   constructor
   ·intro g j h1 h2
    by_cases e:j=i
    ·subst e;exact h
    ·exact g j (by omega) (by omega)
   ·intro g j h1 h2
    exact g j (by omega) (by omega)
  ·rw[if_neg h]
   exact⟨fun e=>absurd e h,fun g=>absurd (g i (by omega) (by omega)) h⟩
def maxPre (f:Nat→Int):Nat→Int
 | 0=>0
 | i+1=>max (maxPre f i) (f i)
theorem maxPre_le {f:Nat→Int} {b:Int} (hb:0≤b):∀ n,(∀ i,i<n→f i≤b)→maxPre f n≤b
 | 0,_=>hb
 | n+1,h=>Int.max_le.2 ⟨maxPre_le hb n fun i hi=>h i (by omega),h n (by omega)⟩
theorem maxPre_nonneg (f:Nat→Int):∀ n,0≤maxPre f n
 | 0=>Int.le_refl 0
 | n+1=>Int.le_trans (maxPre_nonneg f n) (Int.le_max_left _ _)
def someAt (f:Nat→Bool):Nat→Nat→Bool
 | 0,_=>false
 | k+1,i=>f i||someAt f k (i+1)
theorem someAt_stop (f:Nat→Bool) (n:Nat):someAt f (n-n) n=false:=by rw[Nat.sub_self];rfl
theorem someAt_hit {f:Nat→Bool} {n i:Nat} (h:i<n) (hf:f i=true):someAt f (n-i) i=true:=by
 obtain⟨k,hk⟩:∃ k,n-i=k+1:=⟨n-i-1,by omega⟩
 rw[hk]
 show(f i||_)=true
 rw[hf];rfl
theorem someAt_next {f:Nat→Bool} {n i:Nat} (h:i<n) (hf:f i=false):someAt f (n-i) i=someAt f (n-(i+1)) (i+1):=by
 obtain⟨k,hk⟩:∃ k,n-i=k+1:=⟨n-i-1,by omega⟩
 rw[hk,show n-(i+1)=k by omega]
 show(f i||_)=_
 rw[hf];rfl
section
variable {P:Program}
theorem run_loadVar_run (w:World) (g o:Nat) (ty:TypeId) (cs:List Value) (d:TypeDesc) (hc:∀ j u,cs[j]?=some u→w.cell? ⟨g,o+j,none⟩=some u)
 (hu:P.underlying ty=some d) (hd:(match d with | .struct _ | .array _ _=>true | _=>false)=true) (hi:(P.info? ty).map (·.size)=some cs.length) :
 (loadVar ty ⟨g,o,none⟩).run P w=.ok (.agg cs.toArray) w:=by
 have hl:(loadCells ⟨g,o,none⟩ cs.length).run P w=.ok cs.toArray w :=
  run_loadCells_list (P:=P) w ⟨g,o,none⟩ cs (fun j v hv=>by
   have hadd:(⟨g,o,none⟩:Addr).add j=⟨g,o+j,none⟩:=by unfold Addr.add;split<;>simp_all
   rw[hadd]
   exact hc j v hv)
 cases hq:P.info? ty with
 | none=>simp[hq] at hi
 | some i =>
  have hs:i.size=cs.length:=by simpa[hq] using hi
  have hagg:(isAgg ty).run P w=.ok true w:=by
   unfold isAgg
   rw[Sem.run_bind,run_underlying hu w]
   cases d<;>simp_all
  simp[loadVar,Sem.run_bind,hagg,sizeOf,typeInfo,hq,hs,hl]
theorem wp_load_run {o:Oper} {a:Act} {w:World} {K:Act→World→Prop} {Q:Exit→Act→World→Prop} (ty:TypeId) (x:Operand) (ho:o.op=.load ty x)
 (g f:Nat) (hx:a.eval x=.pointer (some ⟨g,f,none⟩)) (cs:List Value) (d:TypeDesc) (hc:∀ j u,cs[j]?=some u→w.cell? ⟨g,f+j,none⟩=some u)
 (hu:P.underlying ty=some d) (hd:(match d with | .struct _ | .array _ _=>true | _=>false)=true) (hi:(P.info? ty).map (·.size)=some cs.length)
 (h:K (a.put o.dst (.agg cs.toArray)) w):o.wp P a w K Q:=by
 unfold Oper.wp execOp
 simp only[ho,hx,Instr.loadAt,Instr.sureAddr,Sem.run_bind,Sem.run_pure,Result.andThen_ok,run_loadVar_run w g f ty cs d hc hu hd hi]
 exact h
theorem wpList_load_run {ops:Array Oper} {rest:List Oper} {o:Oper} {a:Act} {w:World} {Q:Exit→Act→World→Prop} (hgd:o.guard=none) (ty:TypeId) (x:Operand) (ho:o.op=.load ty x)
 (g f:Nat) (hx:a.eval x=.pointer (some ⟨g,f,none⟩)) (cs:List Value) (d:TypeDesc) (hc:∀ j u,cs[j]?=some u→w.cell? ⟨g,f+j,none⟩=some u)
 (hu:P.underlying ty=some d) (hd:(match d with | .struct _ | .array _ _=>true | _=>false)=true) (hi:(P.info? ty).map (·.size)=some cs.length)
 (h:wpList P ops Q rest (a.put o.dst (.agg cs.toArray)) w):wpList P ops Q (o::rest) a w :=
 wpList_plain hgd fun _ hK=>wp_load_run ty x ho g f hx cs d hc hu hd hi (hK _ _ h)
theorem wpList_load_row_g {ops:Array Oper} {rest:List Oper} {o:Oper} {a:Act} {w:World} {Q:Exit→Act→World→Prop} (hgd:Region.wanted o (yielded ops a.tmps)=true) (ty:TypeId) (x:Operand) (ho:o.op=.load ty x)
 (g:Nat) (hx:a.eval x=.pointer (some ⟨g,0,none⟩)) (t:TypeId) (cs:Array Value) (fr:Nat×Nat) (d:TypeDesc) (hg:w.heap[g]?=some (.cells cs t fr))
 (hu:P.underlying ty=some d) (hd:(match d with | .struct _ | .array _ _=>true | _=>false)=true) (hi:(P.info? ty).map (·.size)=some cs.size)
 (h:wpList P ops Q rest (a.put o.dst (.agg cs)) w):wpList P ops Q (o::rest) a w :=
 wpList_step fun _ hK=>by rw[if_pos hgd];exact wp_load_row ty x ho g hx t cs fr d hg hu hd hi (hK _ _ h)
end
theorem PlanAt.laid {slots:List Nat} {goods:List (Value→World→Prop)} {inv:World→Prop} {t:Array Value} {d:List Deferred} {L:Nat→Bool} {a:Act} {w:World}
 (h:PlanAt slots goods inv t d L a w) (hlen:slots.length=goods.length) (hall:∀ i,i<slots.length→L i=true):Laid d w a (slots.map some) goods t:=by
 refine laid_of h.defers _ _ _ (by simpa using hlen) (fun i g hg=>?_) (fun j hj=>h.rest j ?_) h.size
 ·have hi:i<slots.length:=by rw[hlen];exact(List.getElem?_eq_some_iff.1 hg).1
  obtain⟨v,h1,h2⟩:=h.done i (hall i hi) _ g (List.getElem?_eq_getElem hi) hg
  refine⟨v,fun s hs=>?_,h2⟩
  simp only[List.getElem?_map,List.getElem?_eq_getElem hi,Option.map_some,Option.some.injEq] at hs
  rw[← hs]
  exact h1
 ·rw[Bool.eq_false_iff] at hj ⊢
  intro e
  apply hj
  rw[List.contains_iff_mem] at e ⊢
  exact List.mem_map_of_mem e
def setAll:Array Value→List Nat→List Value→Array Value
 | t,s::ss,v::vs=>setAll (t.setIfInBounds s v) ss vs
 | t,_,_=>t
theorem laid_vals {d:List Deferred} {w:World} {a:Act}:∀ (slots:List Nat) (vals:List Value) (t:Array Value),slots.length=vals.length→Laid d w a (slots.map some) (vals.map isV) t→a=⟨setAll t slots vals,d⟩
 | [],[],_,_,h=>h
 | s::ss,v::vs,t,hl,h=>by
  obtain⟨u,hu,h⟩:=h
  cases hu
  exact laid_vals ss vs _ (by simpa using hl) h
theorem PlanAt.frame {slots:List Nat} {goods:List (Value→World→Prop)} {inv:World→Prop} {t:Array Value} {d:List Deferred} {L:Nat→Bool} {a:Act} {w:World}
 (h:PlanAt slots goods inv t d L a w) (hall:∀ i,i<slots.length→L i=true) (vals:List Value) (hg:goods=vals.map isV) (hlen:slots.length=vals.length) {t':Array Value} (he:setAll t slots vals=t'):a=⟨t',d⟩:=by
 subst hg he
 exact laid_vals slots vals t hlen (h.laid (by simpa using hlen) hall)
end Go.Proofs.YtdcofoaihmongaaGreat
namespace Go.Proofs.YtdcofoaihmongaaGreat
open Go Go.RowKit
def allN:Nat→ASet
 | 0=>ASet.zero
 | k+1=>(allN k).with (k:Int)
def ASet.all (n:Nat):ASet:=allN (min n 256)
theorem allN_ok:∀ k,(allN k).Ok
 | 0=>zero_ok
 | k+1=>ASet.with_ok (allN_ok k) _
set_option maxRecDepth 100000 in
set_option maxHeartbeats 4000000 in
theorem rall_any (w:World) (n:Nat) (hn:n≤140737488355328):Calls Tryz.prog 104 #[.int .i64 (n:Int)] w fun e w'=>e=.returned (.agg #[.int .u64 (ASet.all n).a,.int .u64 (ASet.all n).b,.int .u64 (ASet.all n).c,.int .u64 (ASet.all n).d])∧RowKit.Below w.heap.size w w':=by
 obtain⟨N,hN⟩:∃ N,N=min n 256:=⟨_,rfl⟩
 have HN:=Lib.hid hN
 have hNn:N≤n:=by rw[hN];exact Nat.min_le_left _ _
 have hN2:N≤256:=by rw[hN];exact Nat.min_le_right _ _
 clear hN
 have HR0:=Lib.hid (show Whole ((w.alloc (.cells #[.int .u64 0,.int .u64 0,.int .u64 0,.int .u64 0] 54)).alloc (.cells #[.int .u64 0,.int .u64 0,.int .u64 0,.int .u64 0] 54)) w.heap.size 54 #[.int .u64 0,.int .u64 0,.int .u64 0,.int .u64 0] from(Whole.new w 54 #[.int .u64 0,.int .u64 0,.int .u64 0,.int .u64 0]).alloc _)
 have HS0:=Lib.hid (show Whole ((w.alloc (.cells #[.int .u64 0,.int .u64 0,.int .u64 0,.int .u64 0] 54)).alloc (.cells #[.int .u64 0,.int .u64 0,.int .u64 0,.int .u64 0] 54)) (w.heap.size+1) 54 #[.int .u64 0,.int .u64 0,.int .u64 0,.int .u64 0] from whole_two w _ #[.int .u64 0,.int .u64 0,.int .u64 0,.int .u64 0] _)
 go_enter Tryz.func104,Tryz.ntmps104
 go_wp2_with (refine wpList_store_blk rfl 54 _ _ rfl (w.heap.size+1) 0 (.agg #[.int .u64 0,.int .u64 0,.int .u64 0,.int .u64 0]) rfl rfl 54 _ HS0.out (by simp[Value.cells]) size54 rfl ?_;intro w2 SW2 WW2;rw[splice_all _ _ (by rfl)] at WW2;have HSW2:=Lib.hid SW2;have HW2:=Lib.hid (show Whole w2 (w.heap.size+1) 54 #[.int .u64 0,.int .u64 0,.int .u64 0,.int .u64 0] from WW2);clear SW2 WW2 )
 have HR2:=Lib.hid (HSW2.out.whole HR0.out (by omega))
 have HB2:=Lib.hid (show RowKit.Below w.heap.size w w2 from(((Below.refl _ w).alloc (Nat.le_refl _) _).alloc (by simp) _).trans (HSW2.out.below (by omega)))
 clear HR0 HSW2
 go_loopw [4] (fun i wr=>∃ (k:Nat) (s:ASet),k≤N∧i=.int .i64 k∧s=allN k∧Whole wr w.heap.size 54 #[.int .u64 0,.int .u64 0,.int .u64 0,.int .u64 0]∧Whole wr (w.heap.size+1) 54 #[.int .u64 s.a,.int .u64 s.b,.int .u64 s.c,.int .u64 s.d]∧RowKit.Below w.heap.size w wr) (fun i _=>N-(intOf i).toNat)
 case atStart=>exact⟨0,ASet.zero,Nat.zero_le _,rfl,rfl,HR2.out,HW2.out,HB2.out⟩
 case round =>
  clear HR2 HW2 HB2
  obtain⟨k,s,hk,rfl,hse,hR,hS,hb⟩:=hrel
  have HSE:=Lib.hid hse
  have HB0:=Lib.hid hR
  have HB1:=Lib.hid hS
  have HBW:=Lib.hid hb
  have HS:=Lib.hid (show s.Ok by rw[hse];exact allN_ok _)
  clear hse hR hS hb
  by_cases hlt:k<N
  ·have hd1:decide ((k:Int)<(n:Int))=true:=by simp;omega
   have hd2:decide ((k:Int)<256)=true:=by simp;omega
   obtain⟨t,ht⟩:∃ t,s.with (k:Int)=t:=⟨_,rfl⟩
   have HT:=Lib.hid ht
   clear ht
   go_wp2_with (first | (refine wpList_load_row rfl 54 _ rfl (w.heap.size+1) rfl 54 _ (0,0) _ HB1.out Tryz.underlying54 rfl size54 ?_) | (go_at_call 130;go_must (refine(rwith_any wr s HS.out (k:Int)).mono ?_;rintro e w1 ⟨rfl,hb1⟩;rw[HT.out];have HX:=Lib.hid (Whole.under hb1 HB1.out HB1.out.lt);have HR:=Lib.hid (Whole.under hb1 HB0.out HB0.out.lt);have HBB:=Lib.hid (HBW.out.trans (hb1.mono HBW.out.size));clear hb1 HB0 HB1 HBW)) | (refine wpList_store_blk rfl 54 _ _ rfl (w.heap.size+1) 0 (.agg #[.int .u64 t.a,.int .u64 t.b,.int .u64 t.c,.int .u64 t.d]) rfl rfl 54 _ HX.out (by simp[Value.cells]) size54 rfl ?_;intro w2 SW2 WW2;rw[splice_all _ _ (by rfl)] at WW2;have HSW2:=Lib.hid SW2;have HW2:=Lib.hid (show Whole w2 (w.heap.size+1) 54 #[.int .u64 t.a,.int .u64 t.b,.int .u64 t.c,.int .u64 t.d] from WW2);clear SW2 WW2 HX))
   go_roundw
   case rel=>exact⟨k+1,t,by omega,by go_num,by rw[← HT.out,HSE.out];rfl,HSW2.out.whole HR.out (by omega),HW2.out,HBB.out.trans (HSW2.out.below (by omega))⟩
   case measure=>simp[intOf];omega
  ·obtain rfl:k=N:=by omega
   have fin:s=ASet.all n:=by rw[HSE.out];unfold ASet.all;rw[← HN.out]
   have HF:=Lib.hid fin
   clear fin
   by_cases h2:k<n
   ·have hd1:decide ((k:Int)<(n:Int))=true:=by simp;omega
    have hd2:decide ((k:Int)<256)=false:=by have:=HN.out;simp;omega
    go_wp2_with (first | (refine wpList_load_row rfl 54 _ rfl (w.heap.size+1) rfl 54 _ (0,0) _ HB1.out Tryz.underlying54 rfl size54 ?_) | (refine wpList_store_blk rfl 54 _ _ rfl (w.heap.size) 0 (.agg #[.int .u64 s.a,.int .u64 s.b,.int .u64 s.c,.int .u64 s.d]) rfl rfl 54 _ HB0.out (by simp[Value.cells]) size54 rfl ?_;intro w3 SW3 WW3;rw[splice_all _ _ (by rfl)] at WW3;have HSW3:=Lib.hid SW3;have HW3:=Lib.hid (show Whole w3 (w.heap.size) 54 #[.int .u64 s.a,.int .u64 s.b,.int .u64 s.c,.int .u64 s.d] from WW3);clear SW3 WW3 HB0))
    have e0:w3.cell? ⟨w.heap.size,0,none⟩=some (.int .u64 s.a):=HW3.out.cell 0
    have e1:w3.cell? ⟨w.heap.size,1,none⟩=some (.int .u64 s.b):=HW3.out.cell 1
    have e2:w3.cell? ⟨w.heap.size,2,none⟩=some (.int .u64 s.c):=HW3.out.cell 2
    have e3:w3.cell? ⟨w.heap.size,3,none⟩=some (.int .u64 s.d):=HW3.out.cell 3
    refine bodyPost_ret (v:=.agg #[.int .u64 s.a,.int .u64 s.b,.int .u64 s.c,.int .u64 s.d]) ?_ rfl ⟨by rw[HF.out],HBW.out.trans (HSW3.out.below (Nat.le_refl _))⟩
    simp[results,Tryz.results104,go_sem,e0,e1,e2,e3]
   ·have hd1:decide ((k:Int)<(n:Int))=false:=by simp;omega
    go_wp2_with (first | (refine wpList_load_row rfl 54 _ rfl (w.heap.size+1) rfl 54 _ (0,0) _ HB1.out Tryz.underlying54 rfl size54 ?_) | (refine wpList_store_blk rfl 54 _ _ rfl (w.heap.size) 0 (.agg #[.int .u64 s.a,.int .u64 s.b,.int .u64 s.c,.int .u64 s.d]) rfl rfl 54 _ HB0.out (by simp[Value.cells]) size54 rfl ?_;intro w3 SW3 WW3;rw[splice_all _ _ (by rfl)] at WW3;have HSW3:=Lib.hid SW3;have HW3:=Lib.hid (show Whole w3 (w.heap.size) 54 #[.int .u64 s.a,.int .u64 s.b,.int .u64 s.c,.int .u64 s.d] from WW3);clear SW3 WW3 HB0))
    have e0:w3.cell? ⟨w.heap.size,0,none⟩=some (.int .u64 s.a):=HW3.out.cell 0
    have e1:w3.cell? ⟨w.heap.size,1,none⟩=some (.int .u64 s.b):=HW3.out.cell 1
    have e2:w3.cell? ⟨w.heap.size,2,none⟩=some (.int .u64 s.c):=HW3.out.cell 2
    have e3:w3.cell? ⟨w.heap.size,3,none⟩=some (.int .u64 s.d):=HW3.out.cell 3
    refine bodyPost_ret (v:=.agg #[.int .u64 s.a,.int .u64 s.b,.int .u64 s.c,.int .u64 s.d]) ?_ rfl ⟨by rw[HF.out],HBW.out.trans (HSW3.out.below (Nat.le_refl _))⟩
    simp[results,Tryz.results104,go_sem,e0,e1,e2,e3]
end Go.Proofs.YtdcofoaihmongaaGreat
namespace Go.Proofs.YtdcofoaihmongaaGreat
open Go Go.RowKit
theorem cell_in_word {w:World} {g:Nat} {s:ASet} {k:Nat} (h:Whole w g 54 #[.int .u64 s.a,.int .u64 s.b,.int .u64 s.c,.int .u64 s.d]) (hk:k<4):w.cell? ⟨g,k,none⟩=some (.int .u64 (s.word k)):=by
 have h1:=h.cell k
 rwa [show(#[.int .u64 s.a,.int .u64 s.b,.int .u64 s.c,.int .u64 s.d]:Array Value)[k]?=some (.int .u64 (s.word k)) by rw[← Array.getElem?_toList];exact s.cell_at hk] at h1
def andn (x y:Nat):Nat:=x&&&(18446744073709551615-y)
theorem andn_lt {x:Nat} (hx:U64 x) (y:Nat):U64 (andn x y):=Nat.lt_of_le_of_lt Nat.and_le_left hx
def ASet.minus (a b:ASet):ASet:=⟨andn a.a b.a,andn a.b b.b,andn a.c b.c,andn a.d b.d⟩
theorem ASet.word_minus (a b:ASet) {j:Nat} (hj:j<4):(a.minus b).word j=andn (a.word j) (b.word j):=by
 rcases four hj with rfl | rfl | rfl | rfl<;>rfl
theorem ASet.word_ext {a b:ASet} (h:∀ j,j<4→a.word j=b.word j):a=b:=by
 have h0:=h 0 (by decide)
 have h1:=h 1 (by decide)
 have h2:=h 2 (by decide)
 have h3:=h 3 (by decide)
 obtain⟨p,q,r,s⟩:=a
 obtain⟨p',q',r',s'⟩:=b
 simp[ASet.word] at h0 h1 h2 h3
 clear h
 simp[h0,h1,h2,h3]
set_option maxRecDepth 100000 in
set_option maxHeartbeats 4000000 in
theorem rminus_any (w:World) (a b:ASet) (ha:a.Ok) (hb:b.Ok):Calls Tryz.prog 194 #[.agg #[.int .u64 a.a,.int .u64 a.b,.int .u64 a.c,.int .u64 a.d],.agg #[.int .u64 b.a,.int .u64 b.b,.int .u64 b.c,.int .u64 b.d]] w fun e w'=>e=.returned (.agg #[.int .u64 (a.minus b).a,.int .u64 (a.minus b).b,.int .u64 (a.minus b).c,.int .u64 (a.minus b).d])∧RowKit.Below w.heap.size w w':=by
 have HOA:=Lib.hid ha
 have HOB:=Lib.hid hb
 clear ha hb
 obtain⟨wo,hwo⟩:∃ wo,wo=((w.alloc (.cells #[.int .u64 a.a,.int .u64 a.b,.int .u64 a.c,.int .u64 a.d] 54)).alloc (.cells #[.int .u64 b.a,.int .u64 b.b,.int .u64 b.c,.int .u64 b.d] 54)).alloc (.cells #[.int .u64 0,.int .u64 0,.int .u64 0,.int .u64 0] 54):=⟨_,rfl⟩
 have HA0:=Lib.hid (show Whole wo w.heap.size 54 #[.int .u64 a.a,.int .u64 a.b,.int .u64 a.c,.int .u64 a.d] by rw[hwo];exact((Whole.new w 54 _).alloc _).alloc _)
 have HA1:=Lib.hid (show Whole wo (w.heap.size+1) 54 #[.int .u64 b.a,.int .u64 b.b,.int .u64 b.c,.int .u64 b.d] by rw[hwo];exact(whole_two w _ _ _).alloc _)
 have HA2:=Lib.hid (show Whole wo (w.heap.size+2) 54 #[.int .u64 0,.int .u64 0,.int .u64 0,.int .u64 0] by rw[hwo];have h:=whole_two (w.alloc (.cells #[.int .u64 a.a,.int .u64 a.b,.int .u64 a.c,.int .u64 a.d] 54)) (.cells #[.int .u64 b.a,.int .u64 b.b,.int .u64 b.c,.int .u64 b.d] 54) #[.int .u64 0,.int .u64 0,.int .u64 0,.int .u64 0] 54;simpa using h)
 have HBO:=Lib.hid (show RowKit.Below w.heap.size w wo by rw[hwo];exact(((Below.refl _ w).alloc (Nat.le_refl _) _).alloc (by simp) _).alloc (by simp;omega) _)
 go_enter Tryz.func194,Tryz.ntmps194
 go_upto_region 1 with(fail)
 rw[← hwo]
 clear hwo
 go_wp2_with fail
 go_loopw [5] (fun i wr=>∃ (k:Nat) (s:ASet),k≤4∧i=.int .i64 k∧(∀ j,j<4→s.word j=if j<k then andn (a.word j) (b.word j) else a.word j)∧Whole wr w.heap.size 54 #[.int .u64 s.a,.int .u64 s.b,.int .u64 s.c,.int .u64 s.d]∧Whole wr (w.heap.size+1) 54 #[.int .u64 b.a,.int .u64 b.b,.int .u64 b.c,.int .u64 b.d]∧Whole wr (w.heap.size+2) 54 #[.int .u64 0,.int .u64 0,.int .u64 0,.int .u64 0]∧RowKit.Below w.heap.size w wr) (fun i _=>4-(intOf i).toNat)
 case atStart=>exact⟨0,a,by omega,rfl,fun j _=>rfl,HA0.out,HA1.out,HA2.out,HBO.out⟩
 case round =>
  clear HA0 HA1 HA2 HBO
  obtain⟨k,s,hk,rfl,hse,h0,h1,h2,hbw⟩:=hrel
  have HSE:=Lib.hid hse
  have HB0:=Lib.hid h0
  have HB1:=Lib.hid h1
  have HB2:=Lib.hid h2
  have HBW:=Lib.hid hbw
  clear hse h0 h1 h2 hbw
  by_cases hlt:k<4
  ·obtain⟨x,hx⟩:∃ x,x=a.word k:=⟨_,rfl⟩
   obtain⟨y,hy⟩:∃ y,y=b.word k:=⟨_,rfl⟩
   have hsk:s.word k=x:=by rw[HSE.out k hlt,if_neg (Nat.lt_irrefl k),hx]
   have HKA:=Lib.hid (show wr.cell? ⟨w.heap.size,k,none⟩=some (.int .u64 (x:Int)) by rw[← hsk];exact cell_in_word HB0.out hlt)
   have HKB:=Lib.hid (show wr.cell? ⟨w.heap.size+1,k,none⟩=some (.int .u64 (y:Int)) by rw[hy];exact cell_in_word HB1.out hlt)
   have HAN:=Lib.hid (u64_andNot_nat x y (by rw[hx];exact ASet.word_ok HOA.out k) (by rw[hy];exact ASet.word_ok HOB.out k))
   have HPUT:=Lib.hid (show ∀ j,j<4→(s.put k (x&&&(18446744073709551615-y))).word j=if j<k+1 then andn (a.word j) (b.word j) else a.word j by
    intro j hj
    rw[ASet.word_put s hlt hj]
    by_cases e:j=k
    ·subst e;rw[if_pos rfl,if_pos (by omega),hx,hy];rfl
    ·rw[if_neg e,HSE.out j hj]
     by_cases e2:j<k
     ·rw[if_pos e2,if_pos (by omega)]
     ·rw[if_neg e2,if_neg (by omega)])
   clear hx hy hsk HSE
   go_wp2_with fail
   refine wp_region_last (fun w w'=>Below w.heap.size w w') [some 10,some 11,some 12,some 13,some 14,some 15,some 16,some 17,some 18] [isV (.int .i64 (k:Int)),isV (.int .i64 (k:Int)),isV (.pointer (some ⟨w.heap.size,k,none⟩)),isV (.int .u64 (x:Int)),isV (.int .i64 (k:Int)),isV (.pointer (some ⟨w.heap.size+1,k,none⟩)),isV (.int .u64 (y:Int)),isV (.int .u64 ((x&&&(18446744073709551615-y):Nat):Int)),isV (.pointer (some ⟨w.heap.size,k,none⟩))] (fun _ w'=>RowKit.Below wr.heap.size wr w') 9 (by kernel_rfl) (by kernel_rfl) (by kernel_rfl) rfl (by decide) rfl rfl ((Below.refl _ _).drew) ⟨lasts_is _,lasts_is _,lasts_is _,lasts_is _,lasts_is _,lasts_is _,lasts_is _,lasts_is _,lasts_is _,trivial⟩ ⟨(fun _=>lastsR_is _),(fun _=>lastsR_is _),(fun _=>lastsR_is _),(fun _=>lastsR_is _),(fun _=>lastsR_is _),(fun _=>lastsR_is _),(fun _=>lastsR_is _),(fun _=>lastsR_is _),(fun _=>lastsR_is _),trivial⟩ ⟨?_,?_,?_,?_,?_,?_,?_,?_,?_,?_⟩
   ·intro L a wx Q' hL hi H F hK
    try dsimp only at hi
    have h5:a.tmps[5]?=some (.int .i64 (k:Int)):=F 5 rfl
    have HI:=Lib.hid hi
    clear H F hi hL
    go_wp2_with fail
    exact hK _ _ (Below.refl _ _) HI.out rfl
   ·intro L a wx Q' hL hi H F hK
    try dsimp only at hi
    have h5:a.tmps[5]?=some (.int .i64 (k:Int)):=F 5 rfl
    have HI:=Lib.hid hi
    clear H F hi hL
    go_wp2_with fail
    exact hK _ _ (Below.refl _ _) HI.out rfl
   ·intro L a wx Q' hL hi H F hK
    try dsimp only at hi
    obtain⟨_,h11,rfl⟩:=H 1 ⟨.data,by simp,rfl⟩ _ rfl
    replace h11:=h11 _ rfl
    have h2:a.tmps[2]?=some (.pointer (some ⟨w.heap.size,0,none⟩)):=F 2 rfl
    have HI:=Lib.hid hi
    clear H F hi hL
    go_wp2_with fail
    exact hK _ _ (Below.refl _ _) HI.out rfl
   ·intro L a wx Q' hL hi H F hK
    try dsimp only at hi
    obtain⟨_,h12,rfl⟩:=H 2 ⟨.data,by simp,rfl⟩ _ rfl
    replace h12:=h12 _ rfl
    have HI:=Lib.hid hi
    clear H F hi hL
    have kk:wx.cell? ⟨w.heap.size,k,none⟩=some (.int .u64 (x:Int)):=cell_later HI.out HKA.out
    go_wp2_with fail
    exact hK _ _ (Below.refl _ _) HI.out rfl
   ·intro L a wx Q' hL hi H F hK
    try dsimp only at hi
    have h5:a.tmps[5]?=some (.int .i64 (k:Int)):=F 5 rfl
    have HI:=Lib.hid hi
    clear H F hi hL
    go_wp2_with fail
    exact hK _ _ (Below.refl _ _) HI.out rfl
   ·intro L a wx Q' hL hi H F hK
    try dsimp only at hi
    obtain⟨_,h14,rfl⟩:=H 4 ⟨.data,by simp,rfl⟩ _ rfl
    replace h14:=h14 _ rfl
    have h3:a.tmps[3]?=some (.pointer (some ⟨w.heap.size+1,0,none⟩)):=F 3 rfl
    have HI:=Lib.hid hi
    clear H F hi hL
    go_wp2_with fail
    exact hK _ _ (Below.refl _ _) HI.out rfl
   ·intro L a wx Q' hL hi H F hK
    try dsimp only at hi
    obtain⟨_,h15,rfl⟩:=H 5 ⟨.data,by simp,rfl⟩ _ rfl
    replace h15:=h15 _ rfl
    have HI:=Lib.hid hi
    clear H F hi hL
    have kk:wx.cell? ⟨w.heap.size+1,k,none⟩=some (.int .u64 (y:Int)):=cell_later HI.out HKB.out
    go_wp2_with fail
    exact hK _ _ (Below.refl _ _) HI.out rfl
   ·intro L a wx Q' hL hi H F hK
    try dsimp only at hi
    obtain⟨_,h13,rfl⟩:=H 3 ⟨.data,by simp,rfl⟩ _ rfl
    replace h13:=h13 _ rfl
    obtain⟨_,h16,rfl⟩:=H 6 ⟨.data,by simp,rfl⟩ _ rfl
    replace h16:=h16 _ rfl
    have HI:=Lib.hid hi
    clear H F hi hL
    go_wp2_with fail
    exact hK _ _ (Below.refl _ _) HI.out (congrArg (Value.int IntKind.u64) HAN.out.symm)
   ·intro L a wx Q' hL hi H F hK
    try dsimp only at hi
    obtain⟨_,h10,rfl⟩:=H 0 ⟨.data,by simp,rfl⟩ _ rfl
    replace h10:=h10 _ rfl
    have h2:a.tmps[2]?=some (.pointer (some ⟨w.heap.size,0,none⟩)):=F 2 rfl
    have HI:=Lib.hid hi
    clear H F hi hL
    go_wp2_with fail
    exact hK _ _ (Below.refl _ _) HI.out rfl
   ·intro a wx hl L hi hL Q' hK
    try dsimp only at hi
    have HB:=Lib.hid hi
    clear hi hL
    obtain⟨_,rfl,_,rfl,_,rfl,_,rfl,_,rfl,_,rfl,_,rfl,_,rfl,_,rfl,rfl⟩:=hl
    simp only[List.setIfInBounds_toArray,List.set_cons_zero,List.set_cons_succ]
    have HX:=Lib.hid (Whole.under HB.out HB0.out HB0.out.lt)
    have HY:=Lib.hid (Whole.under HB.out HB1.out HB1.out.lt)
    have HZ:=Lib.hid (Whole.under HB.out HB2.out HB2.out.lt)
    have HBB:=Lib.hid (HBW.out.trans (HB.out.mono HBW.out.size))
    clear HB HB0 HB1 HB2 HBW
    go_wp2_with (refine wpList_store_blk rfl 52 _ _ rfl (w.heap.size) k (.int .u64 ((x&&&(18446744073709551615-y):Nat):Int)) rfl rfl 54 _ HX.out (by simp[Value.cells];omega) size52 rfl ?_;intro w2 S2 W2;have HS2:=Lib.hid S2;have HW2:=Lib.hid (show Whole w2 w.heap.size 54 #[.int .u64 (s.put k (x&&&(18446744073709551615-y))).a,.int .u64 (s.put k (x&&&(18446744073709551615-y))).b,.int .u64 (s.put k (x&&&(18446744073709551615-y))).c,.int .u64 (s.put k (x&&&(18446744073709551615-y))).d] from by rw[splice_set s hlt _];exact W2);clear S2 W2)
    go_roundw
    case rel=>exact⟨k+1,s.put k (x&&&(18446744073709551615-y)),by omega,by go_num,HPUT.out,HW2.out,HS2.out.whole HY.out (by omega),HS2.out.whole HZ.out (by omega),HBB.out.trans (HS2.out.below (by omega))⟩
    case measure=>simp[intOf];omega
  ·obtain rfl:k=4:=by omega
   have HF:=Lib.hid (show s=a.minus b from ASet.word_ext fun j hj=>by rw[HSE.out j hj,if_pos hj,ASet.word_minus a b hj])
   go_wp2_with (first | (refine wpList_load_row rfl 54 _ rfl (w.heap.size) rfl 54 _ (0,0) _ HB0.out Tryz.underlying54 rfl size54 ?_) | (refine wpList_store_blk rfl 54 _ _ rfl (w.heap.size+2) 0 (.agg #[.int .u64 s.a,.int .u64 s.b,.int .u64 s.c,.int .u64 s.d]) rfl rfl 54 _ HB2.out (by simp[Value.cells]) size54 rfl ?_;intro w3 SW3 WW3;rw[splice_all _ _ (by rfl)] at WW3;have HSW3:=Lib.hid SW3;have HW3:=Lib.hid (show Whole w3 (w.heap.size+2) 54 #[.int .u64 s.a,.int .u64 s.b,.int .u64 s.c,.int .u64 s.d] from WW3);clear SW3 WW3 HB2))
   have e0:w3.cell? ⟨w.heap.size+2,0,none⟩=some (.int .u64 s.a):=HW3.out.cell 0
   have e1:w3.cell? ⟨w.heap.size+2,1,none⟩=some (.int .u64 s.b):=HW3.out.cell 1
   have e2:w3.cell? ⟨w.heap.size+2,2,none⟩=some (.int .u64 s.c):=HW3.out.cell 2
   have e3:w3.cell? ⟨w.heap.size+2,3,none⟩=some (.int .u64 s.d):=HW3.out.cell 3
   refine bodyPost_ret (v:=.agg #[.int .u64 s.a,.int .u64 s.b,.int .u64 s.c,.int .u64 s.d]) ?_ rfl ⟨by rw[HF.out],HBW.out.trans (HSW3.out.below (by omega))⟩
   simp[results,Tryz.results194,go_sem,e0,e1,e2,e3]
def ASet.within (a b:ASet):Bool:=decide (a.minus b=ASet.zero)
def ASet.unit (s:ASet):ASet:=⟨andn s.a 1,s.b,s.c,s.d⟩
theorem ASet.unit_ok {s:ASet} (h:s.Ok):s.unit.Ok:=⟨andn_lt h.a _,h.b,h.c,h.d⟩
set_option maxRecDepth 100000 in
set_option maxHeartbeats 4000000 in
theorem rwithout_zero (w:World) (s:ASet) (hs:s.Ok):Calls Tryz.prog 195 #[.agg #[.int .u64 s.a,.int .u64 s.b,.int .u64 s.c,.int .u64 s.d],.int .i64 0] w fun e w'=>e=.returned (.agg #[.int .u64 s.unit.a,.int .u64 s.unit.b,.int .u64 s.unit.c,.int .u64 s.unit.d])∧RowKit.Below w.heap.size w w':=by
 have HAN:=Lib.hid (u64_andNot_nat s.a 1 hs.a (by decide))
 clear hs
 obtain⟨wo,hwo⟩:∃ wo,wo=(w.alloc (.cells #[.int .u64 s.a,.int .u64 s.b,.int .u64 s.c,.int .u64 s.d] 54)).alloc (.cells #[.int .u64 0,.int .u64 0,.int .u64 0,.int .u64 0] 54):=⟨_,rfl⟩
 have HA0:=Lib.hid (show Whole wo w.heap.size 54 #[.int .u64 s.a,.int .u64 s.b,.int .u64 s.c,.int .u64 s.d] by rw[hwo];exact(Whole.new w 54 _).alloc _)
 have HA1:=Lib.hid (show Whole wo (w.heap.size+1) 54 #[.int .u64 0,.int .u64 0,.int .u64 0,.int .u64 0] by rw[hwo];exact whole_two w _ _ _)
 have HBO:=Lib.hid (show RowKit.Below w.heap.size w wo by rw[hwo];exact((Below.refl _ w).alloc (Nat.le_refl _) _).alloc (by simp) _)
 have HK0:=Lib.hid (show wo.cell? ⟨w.heap.size,0,none⟩=some (.int .u64 (s.a:Int)) from HA0.out.cell 0)
 go_enter Tryz.func195,Tryz.ntmps195
 go_upto_region 1 with(fail)
 rw[← hwo]
 clear hwo
 go_wp2_with fail
 refine wp_region_last (fun w w'=>Below w.heap.size w w') [some 11,some 12,some 13,some 14,some 15,some 16,some 17,some 18,some 19,some 20] [isV (.int .i64 0),isV (.int .i64 0),isV (.int .i64 0),isV (.int .i64 0),isV (.pointer (some ⟨w.heap.size,0,none⟩)),isV (.int .u64 (s.a:Int)),isV (.int .i64 0),isV (.int .u64 ((1:Nat):Int)),isV (.int .u64 ((andn s.a 1:Nat):Int)),isV (.pointer (some ⟨w.heap.size,0,none⟩))] (fun _ w'=>RowKit.Below wo.heap.size wo w') 10 (by kernel_rfl) (by kernel_rfl) (by kernel_rfl) rfl (by decide) rfl rfl ((Below.refl _ _).drew) ⟨lasts_is _,lasts_is _,lasts_is _,lasts_is _,lasts_is _,lasts_is _,lasts_is _,lasts_is _,lasts_is _,lasts_is _,trivial⟩ ⟨(fun _=>lastsR_is _),(fun _=>lastsR_is _),(fun _=>lastsR_is _),(fun _=>lastsR_is _),(fun _=>lastsR_is _),(fun _=>lastsR_is _),(fun _=>lastsR_is _),(fun _=>lastsR_is _),(fun _=>lastsR_is _),(fun _=>lastsR_is _),trivial⟩ ⟨?_,?_,?_,?_,?_,?_,?_,?_,?_,?_,?_⟩
 ·intro L a wx Q' hL hi H F hK
  try dsimp only at hi
  have h1:a.tmps[1]?=some (.int .i64 0):=F 1 rfl
  have HI:=Lib.hid hi
  clear H F hi hL
  go_wp2_with fail
  exact hK _ _ (Below.refl _ _) HI.out rfl
 ·intro L a wx Q' hL hi H F hK
  try dsimp only at hi
  obtain⟨_,h11,rfl⟩:=H 0 ⟨.data,by simp,rfl⟩ _ rfl
  replace h11:=h11 _ rfl
  have HI:=Lib.hid hi
  clear H F hi hL
  go_wp2_with fail
  exact hK _ _ (Below.refl _ _) HI.out rfl
 ·intro L a wx Q' hL hi H F hK
  try dsimp only at hi
  have h1:a.tmps[1]?=some (.int .i64 0):=F 1 rfl
  have HI:=Lib.hid hi
  clear H F hi hL
  go_wp2_with fail
  exact hK _ _ (Below.refl _ _) HI.out rfl
 ·intro L a wx Q' hL hi H F hK
  try dsimp only at hi
  obtain⟨_,h13,rfl⟩:=H 2 ⟨.data,by simp,rfl⟩ _ rfl
  replace h13:=h13 _ rfl
  have HI:=Lib.hid hi
  clear H F hi hL
  go_wp2_with fail
  exact hK _ _ (Below.refl _ _) HI.out rfl
 ·intro L a wx Q' hL hi H F hK
  try dsimp only at hi
  obtain⟨_,h14,rfl⟩:=H 3 ⟨.data,by simp,rfl⟩ _ rfl
  replace h14:=h14 _ rfl
  have h2:a.tmps[2]?=some (.pointer (some ⟨w.heap.size,0,none⟩)):=F 2 rfl
  have HI:=Lib.hid hi
  clear H F hi hL
  go_wp2_with fail
  exact hK _ _ (Below.refl _ _) HI.out rfl
 ·intro L a wx Q' hL hi H F hK
  try dsimp only at hi
  obtain⟨_,h15,rfl⟩:=H 4 ⟨.data,by simp,rfl⟩ _ rfl
  replace h15:=h15 _ rfl
  have HI:=Lib.hid hi
  clear H F hi hL
  have kk:wx.cell? ⟨w.heap.size,0,none⟩=some (.int .u64 (s.a:Int)):=cell_later HI.out HK0.out
  go_wp2_with fail
  exact hK _ _ (Below.refl _ _) HI.out rfl
 ·intro L a wx Q' hL hi H F hK
  try dsimp only at hi
  have h1:a.tmps[1]?=some (.int .i64 0):=F 1 rfl
  have HI:=Lib.hid hi
  clear H F hi hL
  go_wp2_with fail
  exact hK _ _ (Below.refl _ _) HI.out rfl
 ·intro L a wx Q' hL hi H F hK
  try dsimp only at hi
  obtain⟨_,h17,rfl⟩:=H 6 ⟨.data,by simp,rfl⟩ _ rfl
  replace h17:=h17 _ rfl
  have HI:=Lib.hid hi
  clear H F hi hL
  go_wp2_with (go_at_call 64;go_must (refine(bit_any _ 0 (by decide)).mono ?_;rintro e w1 ⟨rfl,rfl⟩))
  exact hK _ _ (Below.refl _ _) HI.out rfl
 ·intro L a wx Q' hL hi H F hK
  try dsimp only at hi
  obtain⟨_,h16,rfl⟩:=H 5 ⟨.data,by simp,rfl⟩ _ rfl
  replace h16:=h16 _ rfl
  obtain⟨_,h18,rfl⟩:=H 7 ⟨.data,by simp,rfl⟩ _ rfl
  replace h18:=h18 _ rfl
  have HI:=Lib.hid hi
  clear H F hi hL
  go_wp2_with fail
  exact hK _ _ (Below.refl _ _) HI.out (congrArg (Value.int IntKind.u64) HAN.out.symm)
 ·intro L a wx Q' hL hi H F hK
  try dsimp only at hi
  obtain⟨_,h12,rfl⟩:=H 1 ⟨.data,by simp,rfl⟩ _ rfl
  replace h12:=h12 _ rfl
  have h2:a.tmps[2]?=some (.pointer (some ⟨w.heap.size,0,none⟩)):=F 2 rfl
  have HI:=Lib.hid hi
  clear H F hi hL
  go_wp2_with fail
  exact hK _ _ (Below.refl _ _) HI.out rfl
 ·intro a wx hl L hi hL Q' hK
  try dsimp only at hi
  have HB:=Lib.hid hi
  clear hi hL
  obtain⟨_,rfl,_,rfl,_,rfl,_,rfl,_,rfl,_,rfl,_,rfl,_,rfl,_,rfl,_,rfl,rfl⟩:=hl
  simp only[List.setIfInBounds_toArray,List.set_cons_zero,List.set_cons_succ]
  have HX:=Lib.hid (Whole.under HB.out HA0.out HA0.out.lt)
  have HY:=Lib.hid (Whole.under HB.out HA1.out HA1.out.lt)
  have HBB:=Lib.hid (HBO.out.trans (HB.out.mono HBO.out.size))
  clear HB HA0 HA1 HBO
  go_wp2_with (first | (refine wpList_store_blk rfl 52 _ _ rfl (w.heap.size) 0 (.int .u64 ((andn s.a 1:Nat):Int)) rfl rfl 54 _ HX.out (by simp[Value.cells]) size52 rfl ?_;intro w2 S2 W2;have HS2:=Lib.hid S2;have HW2:=Lib.hid (show Whole w2 w.heap.size 54 #[.int .u64 s.unit.a,.int .u64 s.unit.b,.int .u64 s.unit.c,.int .u64 s.unit.d] from W2);clear S2 W2 HX) | (refine wpList_load_row rfl 54 _ rfl (w.heap.size) rfl 54 _ (0,0) _ HW2.out Tryz.underlying54 rfl size54 ?_) | (have HZ:=Lib.hid (HS2.out.whole HY.out (by omega));refine wpList_store_blk rfl 54 _ _ rfl (w.heap.size+1) 0 (.agg #[.int .u64 s.unit.a,.int .u64 s.unit.b,.int .u64 s.unit.c,.int .u64 s.unit.d]) rfl rfl 54 _ HZ.out (by simp[Value.cells]) size54 rfl ?_;intro w3 SW3 WW3;rw[splice_all _ _ (by rfl)] at WW3;have HSW3:=Lib.hid SW3;have HW3:=Lib.hid (show Whole w3 (w.heap.size+1) 54 #[.int .u64 s.unit.a,.int .u64 s.unit.b,.int .u64 s.unit.c,.int .u64 s.unit.d] from WW3);clear SW3 WW3 HZ))
  have e0:w3.cell? ⟨w.heap.size+1,0,none⟩=some (.int .u64 s.unit.a):=HW3.out.cell 0
  have e1:w3.cell? ⟨w.heap.size+1,1,none⟩=some (.int .u64 s.unit.b):=HW3.out.cell 1
  have e2:w3.cell? ⟨w.heap.size+1,2,none⟩=some (.int .u64 s.unit.c):=HW3.out.cell 2
  have e3:w3.cell? ⟨w.heap.size+1,3,none⟩=some (.int .u64 s.unit.d):=HW3.out.cell 3
  refine bodyPost_ret (v:=.agg #[.int .u64 s.unit.a,.int .u64 s.unit.b,.int .u64 s.unit.c,.int .u64 s.unit.d]) ?_ rfl ⟨rfl,(HBB.out.trans (HS2.out.below (Nat.le_refl _))).trans (HSW3.out.below (by omega))⟩
  simp[results,Tryz.results195,go_sem,e0,e1,e2,e3]
theorem within_eq (t:ASet) (W:World):(Op.equalIn 10000 54 (.agg #[.int .u64 t.a,.int .u64 t.b,.int .u64 t.c,.int .u64 t.d]) (.agg #[.int .u64 0,.int .u64 0,.int .u64 0,.int .u64 0])).run Tryz.prog W=.ok (decide (t=ASet.zero)) W:=by
 rw[eq_set]
 congr 1
 obtain⟨a,b,c,d⟩:=t
 simp[ASet.zero]
set_option maxRecDepth 100000 in
set_option maxHeartbeats 4000000 in
theorem rwithin_any (w:World) (a b:ASet) (ha:a.Ok) (hb:b.Ok):Calls Tryz.prog 105 #[.agg #[.int .u64 a.a,.int .u64 a.b,.int .u64 a.c,.int .u64 a.d],.agg #[.int .u64 b.a,.int .u64 b.b,.int .u64 b.c,.int .u64 b.d]] w fun e w'=>e=.returned (.bool (a.within b))∧RowKit.Below w.heap.size w w':=by
 have HOA:=Lib.hid ha
 have HOB:=Lib.hid hb
 obtain⟨t,ht⟩:∃ t,t=a.minus b:=⟨_,rfl⟩
 have HT:=Lib.hid ht
 unfold ASet.within
 rw[← ht]
 have hq:∀ W,(Op.equalIn 10000 54 (.agg #[.int .u64 t.a,.int .u64 t.b,.int .u64 t.c,.int .u64 t.d]) (.agg #[.int .u64 0,.int .u64 0,.int .u64 0,.int .u64 0])).run Tryz.prog W=.ok (decide (t=ASet.zero)) W:=within_eq t
 obtain⟨q,hqq⟩:∃ q,q=decide (t=ASet.zero):=⟨_,rfl⟩
 rw[← hqq]
 rw[← hqq] at hq
 clear ha hb ht hqq
 obtain⟨wo,hwo⟩:∃ wo,wo=(w.alloc (.cells #[.int .u64 a.a,.int .u64 a.b,.int .u64 a.c,.int .u64 a.d] 54)).alloc (.cells #[.int .u64 b.a,.int .u64 b.b,.int .u64 b.c,.int .u64 b.d] 54):=⟨_,rfl⟩
 have HA0:=Lib.hid (show Whole wo w.heap.size 54 #[.int .u64 a.a,.int .u64 a.b,.int .u64 a.c,.int .u64 a.d] by rw[hwo];exact(Whole.new w 54 _).alloc _)
 have HA1:=Lib.hid (show Whole wo (w.heap.size+1) 54 #[.int .u64 b.a,.int .u64 b.b,.int .u64 b.c,.int .u64 b.d] by rw[hwo];exact whole_two w _ _ _)
 have HBO:=Lib.hid (show RowKit.Below w.heap.size w wo by rw[hwo];exact((Below.refl _ w).alloc (Nat.le_refl _) _).alloc (by simp) _)
 go_enter Tryz.func105,Tryz.ntmps105
 go_upto_region 1 with(fail)
 rw[← hwo]
 clear hwo
 go_wp2_with (first | (refine wpList_load_row rfl 54 _ rfl (w.heap.size) rfl 54 _ (0,0) _ HA0.out Tryz.underlying54 rfl size54 ?_) | (refine wpList_load_row rfl 54 _ rfl (w.heap.size+1) rfl 54 _ (0,0) _ HA1.out Tryz.underlying54 rfl size54 ?_) | (go_at_call 194;go_must (refine(rminus_any wo a b HOA.out HOB.out).mono ?_;rintro e w1 ⟨rfl,hb1⟩;rw[← HT.out];have HB1:=Lib.hid hb1;clear hb1)))
 go_ret
 exact⟨rfl,HBO.out.trans (HB1.out.mono HBO.out.size)⟩
end Go.Proofs.YtdcofoaihmongaaGreat
namespace Go.Proofs.YtdcofoaihmongaaGreat
open Go Go.RowKit Go.ChangeShapes Go.WideShapes Go.ChangeAt
def StrOk (s:ByteArray):Prop:=s.size≤140737488355328
def Big (n:Nat):Prop:=n≤140737488355328
structure StrsOk (l:List ByteArray):Prop where
 len:Big l.length
 all:∀ s∈l,StrOk s
structure ALev where
 sens:Int
 cats:Nat
deriving DecidableEq
structure ALev.Ok (x:ALev):Prop where
 sens:I64 x.sens
 cats:U64 x.cats
def ALev.cells (x:ALev):List Value:=[.int .i64 x.sens,.int .u64 x.cats]
structure ARng where
 low:ALev
 high:ALev
deriving DecidableEq
structure ARng.Ok (x:ARng):Prop where
 low:x.low.Ok
 high:x.high.Ok
def ARng.cells (x:ARng):List Value:=[.int .i64 x.low.sens,.int .u64 x.low.cats,.int .i64 x.high.sens,.int .u64 x.high.cats]
structure ACtx where
 user:Int
 role:Int
 typ:Int
 rng:ARng
deriving DecidableEq
structure ACtx.Ok (x:ACtx):Prop where
 user:I64 x.user
 role:I64 x.role
 typ:I64 x.typ
 rng:x.rng.Ok
def ACtx.cells (x:ACtx):List Value:=[.int .i64 x.user,.int .i64 x.role,.int .i64 x.typ,.int .i64 x.rng.low.sens,.int .u64 x.rng.low.cats,.int .i64 x.rng.high.sens,.int .u64 x.rng.high.cats]
inductive AExp where
 | node (op a rel b:Int) (names:List ByteArray) (set:ASet) (kids:List AExp)
def AExp.op:AExp→Int | .node o _ _ _ _ _ _=>o
def AExp.a:AExp→Int | .node _ a _ _ _ _ _=>a
def AExp.rel:AExp→Int | .node _ _ r _ _ _ _=>r
def AExp.b:AExp→Int | .node _ _ _ b _ _ _=>b
def AExp.names:AExp→List ByteArray | .node _ _ _ _ n _ _=>n
def AExp.set:AExp→ASet | .node _ _ _ _ _ s _=>s
def AExp.kids:AExp→List AExp | .node _ _ _ _ _ _ k=>k
inductive AExp.Ok:AExp→Prop
 | node {op a rel b:Int} {names:List ByteArray} {set:ASet} {kids:List AExp}:I64 op→I64 a→I64 rel→I64 b→StrsOk names→set.Ok→Big kids.length→(∀ k∈kids,AExp.Ok k)→AExp.Ok (.node op a rel b names set kids)
structure ARule.OkAll (x:ARule):Prop where
 kind:I64 x.kind
 src:x.src.Ok
 tgt:x.tgt.Ok
 cls:I64 x.cls
 perms:U32 x.perms
 cond:I64 x.cond
structure AAtt where
 name:ByteArray
 types:ASet
deriving DecidableEq
structure AAtt.Ok (x:AAtt):Prop where
 name:StrOk x.name
 types:x.types.Ok
def AAtt.cells (x:AAtt):List Value:=[.string x.name,.int .u64 x.types.a,.int .u64 x.types.b,.int .u64 x.types.c,.int .u64 x.types.d]
theorem AAtt.cells_len (x:AAtt):x.cells.length=5:=rfl
structure ARol where
 name:ByteArray
 types:ASet
 next:ASet
deriving DecidableEq
structure ARol.Ok (x:ARol):Prop where
 name:StrOk x.name
 types:x.types.Ok
 next:x.next.Ok
def ARol.cells (x:ARol):List Value:=[.string x.name,.int .u64 x.types.a,.int .u64 x.types.b,.int .u64 x.types.c,.int .u64 x.types.d,.int .u64 x.next.a,.int .u64 x.next.b,.int .u64 x.next.c,.int .u64 x.next.d]
theorem ARol.cells_len (x:ARol):x.cells.length=9:=rfl
structure AUsr where
 name:ByteArray
 roles:ASet
 dflt:ALev
 rng:ARng
deriving DecidableEq
structure AUsr.Ok (x:AUsr):Prop where
 name:StrOk x.name
 roles:x.roles.Ok
 dflt:x.dflt.Ok
 rng:x.rng.Ok
def AUsr.cells (x:AUsr):List Value:=[.string x.name,.int .u64 x.roles.a,.int .u64 x.roles.b,.int .u64 x.roles.c,.int .u64 x.roles.d,.int .i64 x.dflt.sens,.int .u64 x.dflt.cats,.int .i64 x.rng.low.sens,.int .u64 x.rng.low.cats,.int .i64 x.rng.high.sens,.int .u64 x.rng.high.cats]
theorem AUsr.cells_len (x:AUsr):x.cells.length=11:=rfl
structure ABoo where
 name:ByteArray
 val:Bool
deriving DecidableEq
structure ABoo.Ok (x:ABoo):Prop where
 name:StrOk x.name
def ABoo.cells (x:ABoo):List Value:=[.string x.name,.bool x.val]
theorem ABoo.cells_len (x:ABoo):x.cells.length=2:=rfl
structure ATra where
 kind:Int
 src:ASet
 tgt:ASet
 cls:Int
 name:ByteArray
 res:Int
 cond:Int
deriving DecidableEq
structure ATra.Ok (x:ATra):Prop where
 kind:I64 x.kind
 src:x.src.Ok
 tgt:x.tgt.Ok
 cls:I64 x.cls
 name:StrOk x.name
 res:I64 x.res
 cond:I64 x.cond
def ATra.cells (x:ATra):List Value:=[.int .i64 x.kind,.int .u64 x.src.a,.int .u64 x.src.b,.int .u64 x.src.c,.int .u64 x.src.d,.int .u64 x.tgt.a,.int .u64 x.tgt.b,.int .u64 x.tgt.c,.int .u64 x.tgt.d,.int .i64 x.cls,.string x.name,.int .i64 x.res,.int .i64 x.cond]
theorem ATra.cells_len (x:ATra):x.cells.length=13:=rfl
structure ARtr where
 roles:ASet
 types:ASet
 cls:Int
 res:Int
deriving DecidableEq
structure ARtr.Ok (x:ARtr):Prop where
 roles:x.roles.Ok
 types:x.types.Ok
 cls:I64 x.cls
 res:I64 x.res
def ARtr.cells (x:ARtr):List Value:=[.int .u64 x.roles.a,.int .u64 x.roles.b,.int .u64 x.roles.c,.int .u64 x.roles.d,.int .u64 x.types.a,.int .u64 x.types.b,.int .u64 x.types.c,.int .u64 x.types.d,.int .i64 x.cls,.int .i64 x.res]
theorem ARtr.cells_len (x:ARtr):x.cells.length=10:=rfl
structure ARgt where
 src:ASet
 tgt:ASet
 cls:Int
 rng:ARng
deriving DecidableEq
structure ARgt.Ok (x:ARgt):Prop where
 src:x.src.Ok
 tgt:x.tgt.Ok
 cls:I64 x.cls
 rng:x.rng.Ok
def ARgt.cells (x:ARgt):List Value:=[.int .u64 x.src.a,.int .u64 x.src.b,.int .u64 x.src.c,.int .u64 x.src.d,.int .u64 x.tgt.a,.int .u64 x.tgt.b,.int .u64 x.tgt.c,.int .u64 x.tgt.d,.int .i64 x.cls,.int .i64 x.rng.low.sens,.int .u64 x.rng.low.cats,.int .i64 x.rng.high.sens,.int .u64 x.rng.high.cats]
theorem ARgt.cells_len (x:ARgt):x.cells.length=13:=rfl
structure ASid where
 name:ByteArray
 ctx:ACtx
deriving DecidableEq
structure ASid.Ok (x:ASid):Prop where
 name:StrOk x.name
 ctx:x.ctx.Ok
def ASid.cells (x:ASid):List Value:=[.string x.name,.int .i64 x.ctx.user,.int .i64 x.ctx.role,.int .i64 x.ctx.typ,.int .i64 x.ctx.rng.low.sens,.int .u64 x.ctx.rng.low.cats,.int .i64 x.ctx.rng.high.sens,.int .u64 x.ctx.rng.high.cats]
theorem ASid.cells_len (x:ASid):x.cells.length=8:=rfl
structure AFil where
 pat:ByteArray
 kind:Int
 ctx:ACtx
deriving DecidableEq
structure AFil.Ok (x:AFil):Prop where
 pat:StrOk x.pat
 kind:I64 x.kind
 ctx:x.ctx.Ok
def AFil.cells (x:AFil):List Value:=[.string x.pat,.int .i64 x.kind,.int .i64 x.ctx.user,.int .i64 x.ctx.role,.int .i64 x.ctx.typ,.int .i64 x.ctx.rng.low.sens,.int .u64 x.ctx.rng.low.cats,.int .i64 x.ctx.rng.high.sens,.int .u64 x.ctx.rng.high.cats]
theorem AFil.cells_len (x:AFil):x.cells.length=9:=rfl
structure AAss where
 name:ByteArray
 kind:Int
 src:ASet
 tgt:ASet
deriving DecidableEq
structure AAss.Ok (x:AAss):Prop where
 name:StrOk x.name
 kind:I64 x.kind
 src:x.src.Ok
 tgt:x.tgt.Ok
def AAss.cells (x:AAss):List Value:=[.string x.name,.int .i64 x.kind,.int .u64 x.src.a,.int .u64 x.src.b,.int .u64 x.src.c,.int .u64 x.src.d,.int .u64 x.tgt.a,.int .u64 x.tgt.b,.int .u64 x.tgt.c,.int .u64 x.tgt.d]
theorem AAss.cells_len (x:AAss):x.cells.length=10:=rfl
structure ACls where
 name:ByteArray
 perms:List ByteArray
deriving DecidableEq
structure ACls.Ok (x:ACls):Prop where
 name:StrOk x.name
 perms:StrsOk x.perms
structure ATyp where
 name:ByteArray
 als:List ByteArray
 perm:Bool
deriving DecidableEq
structure ATyp.Ok (x:ATyp):Prop where
 name:StrOk x.name
 als:StrsOk x.als
structure ACon where
 cls:Int
 perms:Int
 val:Bool
 expr:AExp
structure ACon.Ok (x:ACon):Prop where
 cls:I64 x.cls
 perms:U32 x.perms
 expr:x.expr.Ok
theorem ARule.cells_len (x:ARule):x.cells.length=13:=rfl
structure APol where
 classes:List ACls
 types:List ATyp
 attrs:List AAtt
 roles:List ARol
 users:List AUsr
 bools:List ABoo
 sens:List ByteArray
 cats:List ByteArray
 conds:List AExp
 rules:List ARule
 trans:List ATra
 rtrans:List ARtr
 ranges:List ARgt
 cons:List ACon
 sids:List ASid
 files:List AFil
 asserts:List AAss
structure APol.Ok (p:APol):Prop where
 classes:∀ x∈p.classes,ACls.Ok x
 classesL:Big p.classes.length
 types:∀ x∈p.types,ATyp.Ok x
 typesL:Big p.types.length
 attrs:∀ x∈p.attrs,AAtt.Ok x
 attrsL:Big p.attrs.length
 roles:∀ x∈p.roles,ARol.Ok x
 rolesL:Big p.roles.length
 users:∀ x∈p.users,AUsr.Ok x
 usersL:Big p.users.length
 bools:∀ x∈p.bools,ABoo.Ok x
 boolsL:Big p.bools.length
 sens:∀ x∈p.sens,StrOk x
 sensL:Big p.sens.length
 cats:∀ x∈p.cats,StrOk x
 catsL:Big p.cats.length
 conds:∀ x∈p.conds,AExp.Ok x
 condsL:Big p.conds.length
 rules:∀ x∈p.rules,ARule.OkAll x
 rulesL:Big p.rules.length
 trans:∀ x∈p.trans,ATra.Ok x
 transL:Big p.trans.length
 rtrans:∀ x∈p.rtrans,ARtr.Ok x
 rtransL:Big p.rtrans.length
 ranges:∀ x∈p.ranges,ARgt.Ok x
 rangesL:Big p.ranges.length
 cons:∀ x∈p.cons,ACon.Ok x
 consL:Big p.cons.length
 sids:∀ x∈p.sids,ASid.Ok x
 sidsL:Big p.sids.length
 files:∀ x∈p.files,AFil.Ok x
 filesL:Big p.files.length
 asserts:∀ x∈p.asserts,AAss.Ok x
 assertsL:Big p.asserts.length
def strCell (s:ByteArray):List Value:=[.string s]
theorem strCell_len (s:ByteArray):(strCell s).length=1:=rfl
def StrsAt (w:World) (v:Value) (l:List ByteArray):Prop:=SliceAt w v 1 l.length (l.flatMap strCell)
theorem StrsAt.keep {w w':World} {v:Value} {l:List ByteArray} (h:StrsAt w v l) (hb:Below w.heap.size w w'):StrsAt w' v l:=SliceAt.keep h hb
def RowsAt {α:Type} (k:Nat) (R:List Value→α→Prop) (w:World) (v:Value) (l:List α):Prop :=
 ∃ es:List (List Value),es.length=l.length∧(∀ x∈es,x.length=k)∧SliceAt w v k l.length es.flatten∧∀ (i:Nat) x y,es[i]?=some x→l[i]?=some y→R x y
theorem RowsAt.slice {α:Type} {k:Nat} {R:List Value→α→Prop} {w:World} {v:Value} {l:List α} (h:RowsAt k R w v l):∃ cs,SliceAt w v k l.length cs:=by
 obtain⟨es,_,_,h,_⟩:=h
 exact⟨_,h⟩
theorem RowsAt.form {α:Type} {k:Nat} {R:List Value→α→Prop} {w:World} {v:Value} {l:List α} (h:RowsAt k R w v l) (hk:0<k) :
 ∃ a c,v=.slice a l.length c∧l.length≤c∧l.length≤9223372036854775807∧∀ i y,l[i]?=some y→∃ b off x,a=some ⟨b,off,none⟩∧R x y∧x.length=k∧∀ j u,x[j]?=some u→w.cell? ⟨b,off+i*k+j,none⟩=some u:=by
 obtain⟨es,h1,h2,h3,h4⟩:=h
 obtain⟨a,c,hv,hc,hm,hcell⟩:=h3.form hk
 refine⟨a,c,hv,hc,hm,fun i y hy=>?_⟩
 have hi:=(List.getElem?_eq_some_iff.1 hy).1
 obtain⟨b,off,ha,hcl⟩:=hcell i hi
 obtain⟨x,hx⟩:∃ x,es[i]?=some x:=⟨_,List.getElem?_eq_getElem (by omega)⟩
 refine⟨b,off,x,ha,h4 i x y hx hy,h2 x (List.mem_of_getElem? hx),fun j u hu=>hcl j u ?_⟩
 rw[flatten_row h2 hx j (by rw[← h2 x (List.mem_of_getElem? hx)];exact(List.getElem?_eq_some_iff.1 hu).1)]
 exact hu
theorem RowsAt.mono {α:Type} {k:Nat} {R R':List Value→α→Prop} {w w':World} {v:Value} {l:List α} (h:RowsAt k R w v l) (hb:Below w.heap.size w w') (hr:∀ x y,R x y→R' x y):RowsAt k R' w' v l:=by
 obtain⟨es,h1,h2,h3,h4⟩:=h
 exact⟨es,h1,h2,h3.keep hb,fun i x y hx hy=>hr x y (h4 i x y hx hy)⟩
inductive ExpAt (w:World):List Value→AExp→Prop
 | node {op a rel b:Int} {names:List ByteArray} {set:ASet} {kids:List AExp} {nv kv:Value} {es:List (List Value)}:StrsAt w nv names→es.length=kids.length→(∀ x∈es,x.length=10)→SliceAt w kv 10 kids.length es.flatten →
  (∀ (i:Nat) x y,es[i]?=some x→kids[i]?=some y→ExpAt w x y) →
  ExpAt w [.int .i64 op,.int .i64 a,.int .i64 rel,.int .i64 b,nv,.int .u64 set.a,.int .u64 set.b,.int .u64 set.c,.int .u64 set.d,kv] (.node op a rel b names set kids)
theorem ExpAt.keep {w w':World} (hb:Below w.heap.size w w') {cs:List Value} {e:AExp} (h:ExpAt w cs e):ExpAt w' cs e:=by
 induction h with
 | node h1 h2 h3 h4 _ ih=>exact .node (h1.keep hb) h2 h3 (h4.keep hb) ih
theorem ExpAt.open {w:World} {cs:List Value} {e:AExp} (h:ExpAt w cs e):∃ nv kv,cs=[.int .i64 e.op,.int .i64 e.a,.int .i64 e.rel,.int .i64 e.b,nv,.int .u64 e.set.a,.int .u64 e.set.b,.int .u64 e.set.c,.int .u64 e.set.d,kv]∧StrsAt w nv e.names∧RowsAt 10 (ExpAt w) w kv e.kids:=by
 cases h with
 | node h1 h2 h3 h4 h5=>exact⟨_,_,rfl,h1,_,h2,h3,h4,h5⟩
def ExpsAt (w:World) (v:Value) (l:List AExp):Prop:=RowsAt 10 (ExpAt w) w v l
theorem ExpsAt.keep {w w':World} {v:Value} {l:List AExp} (h:ExpsAt w v l) (hb:Below w.heap.size w w'):ExpsAt w' v l:=RowsAt.mono h hb fun _ _ h=>ExpAt.keep hb h
def ClsAt (w:World) (cs:List Value) (x:ACls):Prop:=∃ v,cs=[.string x.name,v]∧StrsAt w v x.perms
def TypAt (w:World) (cs:List Value) (x:ATyp):Prop:=∃ v,cs=[.string x.name,v,.bool x.perm]∧StrsAt w v x.als
def ConAt (w:World) (cs:List Value) (x:ACon):Prop:=∃ es,cs=[.int .i64 x.cls,.int .u32 x.perms,.bool x.val]++es∧ExpAt w es x.expr
theorem ClsAt.keep {w w':World} (hb:Below w.heap.size w w') {cs:List Value} {x:ACls} (h:ClsAt w cs x):ClsAt w' cs x:=by
 obtain⟨v,e,h⟩:=h
 exact⟨v,e,h.keep hb⟩
theorem TypAt.keep {w w':World} (hb:Below w.heap.size w w') {cs:List Value} {x:ATyp} (h:TypAt w cs x):TypAt w' cs x:=by
 obtain⟨v,e,h⟩:=h
 exact⟨v,e,h.keep hb⟩
theorem ConAt.keep {w w':World} (hb:Below w.heap.size w w') {cs:List Value} {x:ACon} (h:ConAt w cs x):ConAt w' cs x:=by
 obtain⟨v,e,h⟩:=h
 exact⟨v,e,h.keep hb⟩
structure PolAt (w:World) (c0 c1 c2 c3 c4 c5 c6 c7 c8 c9 c10 c11 c12 c13 c14 c15 c16:Value) (p:APol):Prop where
 classes:RowsAt 2 (ClsAt w) w c0 p.classes
 types:RowsAt 3 (TypAt w) w c1 p.types
 attrs:SliceAt w c2 5 p.attrs.length (p.attrs.flatMap AAtt.cells)
 roles:SliceAt w c3 9 p.roles.length (p.roles.flatMap ARol.cells)
 users:SliceAt w c4 11 p.users.length (p.users.flatMap AUsr.cells)
 bools:SliceAt w c5 2 p.bools.length (p.bools.flatMap ABoo.cells)
 sens:StrsAt w c6 p.sens
 cats:StrsAt w c7 p.cats
 conds:ExpsAt w c8 p.conds
 rules:SliceAt w c9 13 p.rules.length (p.rules.flatMap ARule.cells)
 trans:SliceAt w c10 13 p.trans.length (p.trans.flatMap ATra.cells)
 rtrans:SliceAt w c11 10 p.rtrans.length (p.rtrans.flatMap ARtr.cells)
 ranges:SliceAt w c12 13 p.ranges.length (p.ranges.flatMap ARgt.cells)
 cons:RowsAt 13 (ConAt w) w c13 p.cons
 sids:SliceAt w c14 8 p.sids.length (p.sids.flatMap ASid.cells)
 files:SliceAt w c15 9 p.files.length (p.files.flatMap AFil.cells)
 asserts:SliceAt w c16 10 p.asserts.length (p.asserts.flatMap AAss.cells)
theorem PolAt.keep {w w':World} {c0 c1 c2 c3 c4 c5 c6 c7 c8 c9 c10 c11 c12 c13 c14 c15 c16:Value} {p:APol} (h:PolAt w c0 c1 c2 c3 c4 c5 c6 c7 c8 c9 c10 c11 c12 c13 c14 c15 c16 p) (hb:Below w.heap.size w w'):PolAt w' c0 c1 c2 c3 c4 c5 c6 c7 c8 c9 c10 c11 c12 c13 c14 c15 c16 p :=
 ⟨RowsAt.mono h.classes hb fun _ _ h=>ClsAt.keep hb h,RowsAt.mono h.types hb fun _ _ h=>TypAt.keep hb h,h.attrs.keep hb,h.roles.keep hb,h.users.keep hb,h.bools.keep hb,h.sens.keep hb,h.cats.keep hb,h.conds.keep hb,h.rules.keep hb,h.trans.keep hb,h.rtrans.keep hb,h.ranges.keep hb,RowsAt.mono h.cons hb fun _ _ h=>ConAt.keep hb h,h.sids.keep hb,h.files.keep hb,h.asserts.keep hb⟩
theorem reach_le {n:Nat} (h:n≤reachBytes):n≤140737488355328:=by unfold reachBytes at h;omega
theorem reach_many {n b:Nat} (hb:0<b) (h:n*b≤reachBytes):n≤140737488355328:=reach_le (Nat.le_trans (Nat.le_mul_of_pos_right n hb) h)
theorem wf_i64 {n:Int} (h:(Lit.int .i64 n).wf=true):I64 n:=by
 have a1:IntKind.i64.min=-9223372036854775808:=by decide
 have a2:IntKind.i64.max=9223372036854775807:=by decide
 simp only[Lit.wf,a1,a2] at h
 simp at h
 unfold I64
 omega
theorem wf_u32 {n:Int} (h:(Lit.int .u32 n).wf=true):U32 n:=by
 have a1:IntKind.u32.min=0:=by decide
 have a2:IntKind.u32.max=4294967295:=by decide
 simp only[Lit.wf,a1,a2] at h
 simp at h
 unfold U32
 omega
theorem wf_u64 {n:Int} (h:(Lit.int .u64 n).wf=true):∃ m:Nat,n=m∧U64 m:=by
 have a1:IntKind.u64.min=0:=by decide
 have a2:IntKind.u64.max=18446744073709551615:=by decide
 simp only[Lit.wf,a1,a2] at h
 simp at h
 exact⟨n.toNat,by omega,by unfold U64;omega⟩
set_option maxRecDepth 100000 in
theorem set_cells {w:World} {f:Nat} {cs:List Value} (h:Rd Tryz.prog w f 54 cs):∃ s:ASet,cs=s.cells∧s.Ok:=by
 obtain⟨f',rfl,es,rfl,hn,hx⟩:=h.array Tryz.underlying54
 match es,hn with
 | [e0,e1,e2,e3],_ =>
  obtain⟨A,rfl,hA⟩:=(hx e0 (by simp)).2.int Tryz.underlying52
  obtain⟨B,rfl,hB⟩:=(hx e1 (by simp)).2.int Tryz.underlying52
  obtain⟨C,rfl,hC⟩:=(hx e2 (by simp)).2.int Tryz.underlying52
  obtain⟨D,rfl,hD⟩:=(hx e3 (by simp)).2.int Tryz.underlying52
  obtain⟨a,rfl,ha⟩:=wf_u64 hA
  obtain⟨b,rfl,hb⟩:=wf_u64 hB
  obtain⟨c,rfl,hc⟩:=wf_u64 hC
  obtain⟨d,rfl,hd⟩:=wf_u64 hD
  exact⟨⟨a,b,c,d⟩,rfl,ha,hb,hc,hd⟩
set_option maxRecDepth 100000 in
theorem lev_cells {w:World} {f:Nat} {cs:List Value} (h:Rd Tryz.prog w f 70 cs):∃ x:ALev,cs=x.cells∧x.Ok:=by
 obtain⟨f',rfl,h⟩:=h.struct Tryz.underlying70
 obtain⟨c0,_,rfl,-,r0,c1,_,rfl,-,r1,hn⟩:=h
 obtain rfl:_=[]:=hn
 obtain⟨A,rfl,hA⟩:=r0.int Tryz.underlying3
 obtain⟨B',rfl,hB'⟩:=r1.int Tryz.underlying52
 obtain⟨B,rfl,hB⟩:=wf_u64 hB'
 exact⟨⟨A,B⟩,rfl,⟨wf_i64 hA,hB⟩⟩
set_option maxRecDepth 100000 in
theorem rng_cells {w:World} {f:Nat} {cs:List Value} (h:Rd Tryz.prog w f 72 cs):∃ x:ARng,cs=x.cells∧x.Ok:=by
 obtain⟨f',rfl,h⟩:=h.struct Tryz.underlying72
 obtain⟨c0,_,rfl,-,r0,c1,_,rfl,-,r1,hn⟩:=h
 obtain rfl:_=[]:=hn
 obtain⟨A,rfl,hA⟩:=lev_cells r0
 obtain⟨B,rfl,hB⟩:=lev_cells r1
 exact⟨⟨A,B⟩,rfl,⟨hA,hB⟩⟩
set_option maxRecDepth 100000 in
theorem ctx_cells {w:World} {f:Nat} {cs:List Value} (h:Rd Tryz.prog w f 74 cs):∃ x:ACtx,cs=x.cells∧x.Ok:=by
 obtain⟨f',rfl,h⟩:=h.struct Tryz.underlying74
 obtain⟨c0,_,rfl,-,r0,c1,_,rfl,-,r1,c2,_,rfl,-,r2,c3,_,rfl,-,r3,hn⟩:=h
 obtain rfl:_=[]:=hn
 obtain⟨A,rfl,hA⟩:=r0.int Tryz.underlying3
 obtain⟨B,rfl,hB⟩:=r1.int Tryz.underlying3
 obtain⟨C,rfl,hC⟩:=r2.int Tryz.underlying3
 obtain⟨D,rfl,hD⟩:=rng_cells r3
 exact⟨⟨A,B,C,D⟩,rfl,⟨wf_i64 hA,wf_i64 hB,wf_i64 hC,hD⟩⟩
theorem rows_read {α:Type} {Q:List Value→Prop} {R:List Value→α→Prop} (one:∀ cs,Q cs→∃ x,R cs x):∀ es:List (List Value),(∀ x∈es,Q x)→∃ l:List α,es.length=l.length∧(∀ (i:Nat) x y,es[i]?=some x→l[i]?=some y→R x y)
 | [],_=>⟨[],rfl,fun i x y h=>by simp at h⟩
 | e::es,h=>by
  obtain⟨x,hx⟩:=one e (h e (by simp))
  obtain⟨l,h1,h2⟩:=rows_read one es fun y hy=>h y (by simp[hy])
  refine⟨x::l,by simp[h1],fun i y z hy hz=>?_⟩
  cases i with
  | zero=>simp at hy hz;subst hy hz;exact hx
  | succ i=>exact h2 i y z (by simpa using hy) (by simpa using hz)
theorem rows_all {α:Type} {R:List Value→α→Prop} {B:α→Prop} {es:List (List Value)} {l:List α} (hl:es.length=l.length) (h:∀ (i:Nat) x y,es[i]?=some x→l[i]?=some y→R x y∧B y):∀ y∈l,B y:=by
 intro y hy
 obtain⟨i,hi⟩:=List.getElem?_of_mem hy
 have hlt:=(List.getElem?_eq_some_iff.1 hi).1
 exact(h i _ y (List.getElem?_eq_getElem (by omega)) hi).2
theorem rows_flat {α:Type} {cells:α→List Value}:∀ {es:List (List Value)} {l:List α},es.length=l.length→(∀ (i:Nat) x y,es[i]?=some x→l[i]?=some y→x=cells y)→es.flatten=l.flatMap cells
 | [],[],_,_=>rfl
 | [],_::_,h,_=>by simp at h
 | _::_,[],h,_=>by simp at h
 | e::es,x::l,h,hr=>by
  rw[List.flatten_cons,List.flatMap_cons,hr 0 e x rfl rfl,rows_flat (es:=es) (l:=l) (by simpa using h) fun i a b ha hb=>hr (i+1) a b (by simpa using ha) (by simpa using hb)]
theorem str_cells {w:World} {f:Nat} {cs:List Value} (h:Rd Tryz.prog w f 9 cs):∃ x,cs=strCell x∧StrOk x:=by
 obtain⟨s,rfl,hs⟩:=h.string Tryz.underlying9
 exact⟨s,rfl,reach_le hs⟩
theorem strs_list {w:World} {f:Nat} {cs:List Value} (h:Rd Tryz.prog w f 28 cs):∃ v,∃ l:List ByteArray,cs=[v]∧SliceAt w v 1 l.length (l.flatMap strCell)∧(∀ x∈l,StrOk x)∧Big l.length:=by
 obtain⟨f',v,rfl,rfl,es,h1,h2,h3⟩:=h.slice Tryz.underlying28
 rw[show Tryz.prog.cellsOf 9=1 from by kernel_rfl] at h1
 obtain⟨l,e1,e2⟩:=rows_read (R:=fun cs (x:ByteArray)=>cs=strCell x∧StrOk x) (fun cs h=>str_cells h.2) es h2
 rw[rows_flat e1 fun i x y hx hy=>(e2 i x y hx hy).1,e1] at h1
 rw[e1] at h3
 exact⟨v,l,rfl,h1,rows_all e1 e2,reach_many (of_decide_eq_true (by kernel_rfl)) h3⟩
set_option maxRecDepth 100000 in
theorem expr_cells {w:World}:∀ (f:Nat) (cs:List Value),Rd Tryz.prog w f 89 cs→∃ e,ExpAt w cs e∧e.Ok:=by
 intro f
 induction f using Nat.strongRecOn with
 | ind f ih =>
  intro cs h
  obtain⟨f',rfl,h⟩:=h.struct Tryz.underlying89
  obtain⟨c0,_,rfl,-,r0,c1,_,rfl,-,r1,c2,_,rfl,-,r2,c3,_,rfl,-,r3,c4,_,rfl,-,r4,c5,_,rfl,-,r5,c6,_,rfl,-,r6,hn⟩:=h
  obtain rfl:_=[]:=hn
  obtain⟨A,rfl,hA⟩:=r0.int Tryz.underlying3
  obtain⟨B,rfl,hB⟩:=r1.int Tryz.underlying3
  obtain⟨C,rfl,hC⟩:=r2.int Tryz.underlying3
  obtain⟨D,rfl,hD⟩:=r3.int Tryz.underlying3
  obtain⟨nv,ns,rfl,hns,hno,hnl⟩:=strs_list r4
  obtain⟨s,rfl,hs⟩:=set_cells r5
  obtain⟨f'',kv,rfl,rfl,es,h1,h2,h3⟩:=r6.slice Tryz.underlying29
  rw[show Tryz.prog.cellsOf 89=10 from by kernel_rfl] at h1 h2
  obtain⟨l,e1,e2⟩:=rows_read (R:=fun cs (x:AExp)=>ExpAt w cs x∧x.Ok) (fun cs h=>ih f'' (by omega) cs h.2) es h2
  rw[e1] at h1 h3
  exact⟨.node A B C D ns s l,.node hns e1 (fun x hx=>(h2 x hx).1) h1 fun i x y hx hy=>(e2 i x y hx hy).1,.node (wf_i64 hA) (wf_i64 hB) (wf_i64 hC) (wf_i64 hD) ⟨hnl,hno⟩ hs (reach_many (of_decide_eq_true (by kernel_rfl)) h3) (rows_all e1 e2)⟩
set_option maxRecDepth 100000 in
theorem ARule_cells {w:World} {f:Nat} {cs:List Value} (h:Rd Tryz.prog w f 56 cs):∃ x:ARule,cs=x.cells∧x.OkAll:=by
 obtain⟨f',rfl,h⟩:=h.struct Tryz.underlying56
 obtain⟨c0,_,rfl,-,r0,c1,_,rfl,-,r1,c2,_,rfl,-,r2,c3,_,rfl,-,r3,c4,_,rfl,-,r4,c5,_,rfl,-,r5,c6,_,rfl,-,r6,hn⟩:=h
 obtain rfl:_=[]:=hn
 obtain⟨A,rfl,hA⟩:=r0.int Tryz.underlying3
 obtain⟨B,rfl,hB⟩:=set_cells r1
 obtain⟨C,rfl,hC⟩:=set_cells r2
 obtain⟨D,rfl⟩:=r3.bool Tryz.underlying4
 obtain⟨E,rfl,hE⟩:=r4.int Tryz.underlying3
 obtain⟨F,rfl,hF⟩:=r5.int Tryz.underlying50
 obtain⟨G,rfl,hG⟩:=r6.int Tryz.underlying3
 exact⟨⟨A,B,C,D,E,F,G⟩,rfl,⟨wf_i64 hA,hB,hC,wf_i64 hE,wf_u32 hF,wf_i64 hG⟩⟩
theorem ARule_list {w:World} {f:Nat} {cs:List Value} (h:Rd Tryz.prog w f 30 cs):∃ v,∃ l:List ARule,cs=[v]∧SliceAt w v 13 l.length (l.flatMap ARule.cells)∧(∀ x∈l,ARule.OkAll x)∧Big l.length:=by
 obtain⟨f',v,rfl,rfl,es,h1,h2,h3⟩:=h.slice Tryz.underlying30
 rw[show Tryz.prog.cellsOf 56=13 from by kernel_rfl] at h1
 obtain⟨l,e1,e2⟩:=rows_read (R:=fun cs (x:ARule)=>cs=ARule.cells x∧ARule.OkAll x) (fun cs h=>ARule_cells h.2) es h2
 rw[rows_flat e1 fun i x y hx hy=>(e2 i x y hx hy).1,e1] at h1
 rw[e1] at h3
 exact⟨v,l,rfl,h1,rows_all e1 e2,reach_many (of_decide_eq_true (by kernel_rfl)) h3⟩
set_option maxRecDepth 100000 in
theorem AAtt_cells {w:World} {f:Nat} {cs:List Value} (h:Rd Tryz.prog w f 184 cs):∃ x:AAtt,cs=x.cells∧x.Ok:=by
 obtain⟨f',rfl,h⟩:=h.struct Tryz.underlying184
 obtain⟨c0,_,rfl,-,r0,c1,_,rfl,-,r1,hn⟩:=h
 obtain rfl:_=[]:=hn
 obtain⟨A,rfl,hA⟩:=r0.string Tryz.underlying9
 obtain⟨B,rfl,hB⟩:=set_cells r1
 exact⟨⟨A,B⟩,rfl,⟨reach_le hA,hB⟩⟩
theorem AAtt_list {w:World} {f:Nat} {cs:List Value} (h:Rd Tryz.prog w f 24 cs):∃ v,∃ l:List AAtt,cs=[v]∧SliceAt w v 5 l.length (l.flatMap AAtt.cells)∧(∀ x∈l,AAtt.Ok x)∧Big l.length:=by
 obtain⟨f',v,rfl,rfl,es,h1,h2,h3⟩:=h.slice Tryz.underlying24
 rw[show Tryz.prog.cellsOf 184=5 from by kernel_rfl] at h1
 obtain⟨l,e1,e2⟩:=rows_read (R:=fun cs (x:AAtt)=>cs=AAtt.cells x∧AAtt.Ok x) (fun cs h=>AAtt_cells h.2) es h2
 rw[rows_flat e1 fun i x y hx hy=>(e2 i x y hx hy).1,e1] at h1
 rw[e1] at h3
 exact⟨v,l,rfl,h1,rows_all e1 e2,reach_many (of_decide_eq_true (by kernel_rfl)) h3⟩
set_option maxRecDepth 100000 in
theorem ARol_cells {w:World} {f:Nat} {cs:List Value} (h:Rd Tryz.prog w f 188 cs):∃ x:ARol,cs=x.cells∧x.Ok:=by
 obtain⟨f',rfl,h⟩:=h.struct Tryz.underlying188
 obtain⟨c0,_,rfl,-,r0,c1,_,rfl,-,r1,c2,_,rfl,-,r2,hn⟩:=h
 obtain rfl:_=[]:=hn
 obtain⟨A,rfl,hA⟩:=r0.string Tryz.underlying9
 obtain⟨B,rfl,hB⟩:=set_cells r1
 obtain⟨C,rfl,hC⟩:=set_cells r2
 exact⟨⟨A,B,C⟩,rfl,⟨reach_le hA,hB,hC⟩⟩
theorem ARol_list {w:World} {f:Nat} {cs:List Value} (h:Rd Tryz.prog w f 25 cs):∃ v,∃ l:List ARol,cs=[v]∧SliceAt w v 9 l.length (l.flatMap ARol.cells)∧(∀ x∈l,ARol.Ok x)∧Big l.length:=by
 obtain⟨f',v,rfl,rfl,es,h1,h2,h3⟩:=h.slice Tryz.underlying25
 rw[show Tryz.prog.cellsOf 188=9 from by kernel_rfl] at h1
 obtain⟨l,e1,e2⟩:=rows_read (R:=fun cs (x:ARol)=>cs=ARol.cells x∧ARol.Ok x) (fun cs h=>ARol_cells h.2) es h2
 rw[rows_flat e1 fun i x y hx hy=>(e2 i x y hx hy).1,e1] at h1
 rw[e1] at h3
 exact⟨v,l,rfl,h1,rows_all e1 e2,reach_many (of_decide_eq_true (by kernel_rfl)) h3⟩
set_option maxRecDepth 100000 in
theorem AUsr_cells {w:World} {f:Nat} {cs:List Value} (h:Rd Tryz.prog w f 192 cs):∃ x:AUsr,cs=x.cells∧x.Ok:=by
 obtain⟨f',rfl,h⟩:=h.struct Tryz.underlying192
 obtain⟨c0,_,rfl,-,r0,c1,_,rfl,-,r1,c2,_,rfl,-,r2,c3,_,rfl,-,r3,hn⟩:=h
 obtain rfl:_=[]:=hn
 obtain⟨A,rfl,hA⟩:=r0.string Tryz.underlying9
 obtain⟨B,rfl,hB⟩:=set_cells r1
 obtain⟨C,rfl,hC⟩:=lev_cells r2
 obtain⟨D,rfl,hD⟩:=rng_cells r3
 exact⟨⟨A,B,C,D⟩,rfl,⟨reach_le hA,hB,hC,hD⟩⟩
theorem AUsr_list {w:World} {f:Nat} {cs:List Value} (h:Rd Tryz.prog w f 26 cs):∃ v,∃ l:List AUsr,cs=[v]∧SliceAt w v 11 l.length (l.flatMap AUsr.cells)∧(∀ x∈l,AUsr.Ok x)∧Big l.length:=by
 obtain⟨f',v,rfl,rfl,es,h1,h2,h3⟩:=h.slice Tryz.underlying26
 rw[show Tryz.prog.cellsOf 192=11 from by kernel_rfl] at h1
 obtain⟨l,e1,e2⟩:=rows_read (R:=fun cs (x:AUsr)=>cs=AUsr.cells x∧AUsr.Ok x) (fun cs h=>AUsr_cells h.2) es h2
 rw[rows_flat e1 fun i x y hx hy=>(e2 i x y hx hy).1,e1] at h1
 rw[e1] at h3
 exact⟨v,l,rfl,h1,rows_all e1 e2,reach_many (of_decide_eq_true (by kernel_rfl)) h3⟩
set_option maxRecDepth 100000 in
theorem ABoo_cells {w:World} {f:Nat} {cs:List Value} (h:Rd Tryz.prog w f 197 cs):∃ x:ABoo,cs=x.cells∧x.Ok:=by
 obtain⟨f',rfl,h⟩:=h.struct Tryz.underlying197
 obtain⟨c0,_,rfl,-,r0,c1,_,rfl,-,r1,hn⟩:=h
 obtain rfl:_=[]:=hn
 obtain⟨A,rfl,hA⟩:=r0.string Tryz.underlying9
 obtain⟨B,rfl⟩:=r1.bool Tryz.underlying4
 exact⟨⟨A,B⟩,rfl,⟨reach_le hA⟩⟩
theorem ABoo_list {w:World} {f:Nat} {cs:List Value} (h:Rd Tryz.prog w f 27 cs):∃ v,∃ l:List ABoo,cs=[v]∧SliceAt w v 2 l.length (l.flatMap ABoo.cells)∧(∀ x∈l,ABoo.Ok x)∧Big l.length:=by
 obtain⟨f',v,rfl,rfl,es,h1,h2,h3⟩:=h.slice Tryz.underlying27
 rw[show Tryz.prog.cellsOf 197=2 from by kernel_rfl] at h1
 obtain⟨l,e1,e2⟩:=rows_read (R:=fun cs (x:ABoo)=>cs=ABoo.cells x∧ABoo.Ok x) (fun cs h=>ABoo_cells h.2) es h2
 rw[rows_flat e1 fun i x y hx hy=>(e2 i x y hx hy).1,e1] at h1
 rw[e1] at h3
 exact⟨v,l,rfl,h1,rows_all e1 e2,reach_many (of_decide_eq_true (by kernel_rfl)) h3⟩
set_option maxRecDepth 100000 in
theorem ATra_cells {w:World} {f:Nat} {cs:List Value} (h:Rd Tryz.prog w f 84 cs):∃ x:ATra,cs=x.cells∧x.Ok:=by
 obtain⟨f',rfl,h⟩:=h.struct Tryz.underlying84
 obtain⟨c0,_,rfl,-,r0,c1,_,rfl,-,r1,c2,_,rfl,-,r2,c3,_,rfl,-,r3,c4,_,rfl,-,r4,c5,_,rfl,-,r5,c6,_,rfl,-,r6,hn⟩:=h
 obtain rfl:_=[]:=hn
 obtain⟨A,rfl,hA⟩:=r0.int Tryz.underlying3
 obtain⟨B,rfl,hB⟩:=set_cells r1
 obtain⟨C,rfl,hC⟩:=set_cells r2
 obtain⟨D,rfl,hD⟩:=r3.int Tryz.underlying3
 obtain⟨E,rfl,hE⟩:=r4.string Tryz.underlying9
 obtain⟨F,rfl,hF⟩:=r5.int Tryz.underlying3
 obtain⟨G,rfl,hG⟩:=r6.int Tryz.underlying3
 exact⟨⟨A,B,C,D,E,F,G⟩,rfl,⟨wf_i64 hA,hB,hC,wf_i64 hD,reach_le hE,wf_i64 hF,wf_i64 hG⟩⟩
theorem ATra_list {w:World} {f:Nat} {cs:List Value} (h:Rd Tryz.prog w f 31 cs):∃ v,∃ l:List ATra,cs=[v]∧SliceAt w v 13 l.length (l.flatMap ATra.cells)∧(∀ x∈l,ATra.Ok x)∧Big l.length:=by
 obtain⟨f',v,rfl,rfl,es,h1,h2,h3⟩:=h.slice Tryz.underlying31
 rw[show Tryz.prog.cellsOf 84=13 from by kernel_rfl] at h1
 obtain⟨l,e1,e2⟩:=rows_read (R:=fun cs (x:ATra)=>cs=ATra.cells x∧ATra.Ok x) (fun cs h=>ATra_cells h.2) es h2
 rw[rows_flat e1 fun i x y hx hy=>(e2 i x y hx hy).1,e1] at h1
 rw[e1] at h3
 exact⟨v,l,rfl,h1,rows_all e1 e2,reach_many (of_decide_eq_true (by kernel_rfl)) h3⟩
set_option maxRecDepth 100000 in
theorem ARtr_cells {w:World} {f:Nat} {cs:List Value} (h:Rd Tryz.prog w f 203 cs):∃ x:ARtr,cs=x.cells∧x.Ok:=by
 obtain⟨f',rfl,h⟩:=h.struct Tryz.underlying203
 obtain⟨c0,_,rfl,-,r0,c1,_,rfl,-,r1,c2,_,rfl,-,r2,c3,_,rfl,-,r3,hn⟩:=h
 obtain rfl:_=[]:=hn
 obtain⟨A,rfl,hA⟩:=set_cells r0
 obtain⟨B,rfl,hB⟩:=set_cells r1
 obtain⟨C,rfl,hC⟩:=r2.int Tryz.underlying3
 obtain⟨D,rfl,hD⟩:=r3.int Tryz.underlying3
 exact⟨⟨A,B,C,D⟩,rfl,⟨hA,hB,wf_i64 hC,wf_i64 hD⟩⟩
theorem ARtr_list {w:World} {f:Nat} {cs:List Value} (h:Rd Tryz.prog w f 32 cs):∃ v,∃ l:List ARtr,cs=[v]∧SliceAt w v 10 l.length (l.flatMap ARtr.cells)∧(∀ x∈l,ARtr.Ok x)∧Big l.length:=by
 obtain⟨f',v,rfl,rfl,es,h1,h2,h3⟩:=h.slice Tryz.underlying32
 rw[show Tryz.prog.cellsOf 203=10 from by kernel_rfl] at h1
 obtain⟨l,e1,e2⟩:=rows_read (R:=fun cs (x:ARtr)=>cs=ARtr.cells x∧ARtr.Ok x) (fun cs h=>ARtr_cells h.2) es h2
 rw[rows_flat e1 fun i x y hx hy=>(e2 i x y hx hy).1,e1] at h1
 rw[e1] at h3
 exact⟨v,l,rfl,h1,rows_all e1 e2,reach_many (of_decide_eq_true (by kernel_rfl)) h3⟩
set_option maxRecDepth 100000 in
theorem ARgt_cells {w:World} {f:Nat} {cs:List Value} (h:Rd Tryz.prog w f 205 cs):∃ x:ARgt,cs=x.cells∧x.Ok:=by
 obtain⟨f',rfl,h⟩:=h.struct Tryz.underlying205
 obtain⟨c0,_,rfl,-,r0,c1,_,rfl,-,r1,c2,_,rfl,-,r2,c3,_,rfl,-,r3,hn⟩:=h
 obtain rfl:_=[]:=hn
 obtain⟨A,rfl,hA⟩:=set_cells r0
 obtain⟨B,rfl,hB⟩:=set_cells r1
 obtain⟨C,rfl,hC⟩:=r2.int Tryz.underlying3
 obtain⟨D,rfl,hD⟩:=rng_cells r3
 exact⟨⟨A,B,C,D⟩,rfl,⟨hA,hB,wf_i64 hC,hD⟩⟩
theorem ARgt_list {w:World} {f:Nat} {cs:List Value} (h:Rd Tryz.prog w f 33 cs):∃ v,∃ l:List ARgt,cs=[v]∧SliceAt w v 13 l.length (l.flatMap ARgt.cells)∧(∀ x∈l,ARgt.Ok x)∧Big l.length:=by
 obtain⟨f',v,rfl,rfl,es,h1,h2,h3⟩:=h.slice Tryz.underlying33
 rw[show Tryz.prog.cellsOf 205=13 from by kernel_rfl] at h1
 obtain⟨l,e1,e2⟩:=rows_read (R:=fun cs (x:ARgt)=>cs=ARgt.cells x∧ARgt.Ok x) (fun cs h=>ARgt_cells h.2) es h2
 rw[rows_flat e1 fun i x y hx hy=>(e2 i x y hx hy).1,e1] at h1
 rw[e1] at h3
 exact⟨v,l,rfl,h1,rows_all e1 e2,reach_many (of_decide_eq_true (by kernel_rfl)) h3⟩
set_option maxRecDepth 100000 in
theorem ASid_cells {w:World} {f:Nat} {cs:List Value} (h:Rd Tryz.prog w f 125 cs):∃ x:ASid,cs=x.cells∧x.Ok:=by
 obtain⟨f',rfl,h⟩:=h.struct Tryz.underlying125
 obtain⟨c0,_,rfl,-,r0,c1,_,rfl,-,r1,hn⟩:=h
 obtain rfl:_=[]:=hn
 obtain⟨A,rfl,hA⟩:=r0.string Tryz.underlying9
 obtain⟨B,rfl,hB⟩:=ctx_cells r1
 exact⟨⟨A,B⟩,rfl,⟨reach_le hA,hB⟩⟩
theorem ASid_list {w:World} {f:Nat} {cs:List Value} (h:Rd Tryz.prog w f 35 cs):∃ v,∃ l:List ASid,cs=[v]∧SliceAt w v 8 l.length (l.flatMap ASid.cells)∧(∀ x∈l,ASid.Ok x)∧Big l.length:=by
 obtain⟨f',v,rfl,rfl,es,h1,h2,h3⟩:=h.slice Tryz.underlying35
 rw[show Tryz.prog.cellsOf 125=8 from by kernel_rfl] at h1
 obtain⟨l,e1,e2⟩:=rows_read (R:=fun cs (x:ASid)=>cs=ASid.cells x∧ASid.Ok x) (fun cs h=>ASid_cells h.2) es h2
 rw[rows_flat e1 fun i x y hx hy=>(e2 i x y hx hy).1,e1] at h1
 rw[e1] at h3
 exact⟨v,l,rfl,h1,rows_all e1 e2,reach_many (of_decide_eq_true (by kernel_rfl)) h3⟩
set_option maxRecDepth 100000 in
theorem AFil_cells {w:World} {f:Nat} {cs:List Value} (h:Rd Tryz.prog w f 127 cs):∃ x:AFil,cs=x.cells∧x.Ok:=by
 obtain⟨f',rfl,h⟩:=h.struct Tryz.underlying127
 obtain⟨c0,_,rfl,-,r0,c1,_,rfl,-,r1,c2,_,rfl,-,r2,hn⟩:=h
 obtain rfl:_=[]:=hn
 obtain⟨A,rfl,hA⟩:=r0.string Tryz.underlying9
 obtain⟨B,rfl,hB⟩:=r1.int Tryz.underlying3
 obtain⟨C,rfl,hC⟩:=ctx_cells r2
 exact⟨⟨A,B,C⟩,rfl,⟨reach_le hA,wf_i64 hB,hC⟩⟩
theorem AFil_list {w:World} {f:Nat} {cs:List Value} (h:Rd Tryz.prog w f 36 cs):∃ v,∃ l:List AFil,cs=[v]∧SliceAt w v 9 l.length (l.flatMap AFil.cells)∧(∀ x∈l,AFil.Ok x)∧Big l.length:=by
 obtain⟨f',v,rfl,rfl,es,h1,h2,h3⟩:=h.slice Tryz.underlying36
 rw[show Tryz.prog.cellsOf 127=9 from by kernel_rfl] at h1
 obtain⟨l,e1,e2⟩:=rows_read (R:=fun cs (x:AFil)=>cs=AFil.cells x∧AFil.Ok x) (fun cs h=>AFil_cells h.2) es h2
 rw[rows_flat e1 fun i x y hx hy=>(e2 i x y hx hy).1,e1] at h1
 rw[e1] at h3
 exact⟨v,l,rfl,h1,rows_all e1 e2,reach_many (of_decide_eq_true (by kernel_rfl)) h3⟩
set_option maxRecDepth 100000 in
theorem AAss_cells {w:World} {f:Nat} {cs:List Value} (h:Rd Tryz.prog w f 129 cs):∃ x:AAss,cs=x.cells∧x.Ok:=by
 obtain⟨f',rfl,h⟩:=h.struct Tryz.underlying129
 obtain⟨c0,_,rfl,-,r0,c1,_,rfl,-,r1,c2,_,rfl,-,r2,c3,_,rfl,-,r3,hn⟩:=h
 obtain rfl:_=[]:=hn
 obtain⟨A,rfl,hA⟩:=r0.string Tryz.underlying9
 obtain⟨B,rfl,hB⟩:=r1.int Tryz.underlying3
 obtain⟨C,rfl,hC⟩:=set_cells r2
 obtain⟨D,rfl,hD⟩:=set_cells r3
 exact⟨⟨A,B,C,D⟩,rfl,⟨reach_le hA,wf_i64 hB,hC,hD⟩⟩
theorem AAss_list {w:World} {f:Nat} {cs:List Value} (h:Rd Tryz.prog w f 37 cs):∃ v,∃ l:List AAss,cs=[v]∧SliceAt w v 10 l.length (l.flatMap AAss.cells)∧(∀ x∈l,AAss.Ok x)∧Big l.length:=by
 obtain⟨f',v,rfl,rfl,es,h1,h2,h3⟩:=h.slice Tryz.underlying37
 rw[show Tryz.prog.cellsOf 129=10 from by kernel_rfl] at h1
 obtain⟨l,e1,e2⟩:=rows_read (R:=fun cs (x:AAss)=>cs=AAss.cells x∧AAss.Ok x) (fun cs h=>AAss_cells h.2) es h2
 rw[rows_flat e1 fun i x y hx hy=>(e2 i x y hx hy).1,e1] at h1
 rw[e1] at h3
 exact⟨v,l,rfl,h1,rows_all e1 e2,reach_many (of_decide_eq_true (by kernel_rfl)) h3⟩
set_option maxRecDepth 100000 in
theorem ACls_cells {w:World} {f:Nat} {cs:List Value} (h:Rd Tryz.prog w f 180 cs):∃ x:ACls,ClsAt w cs x∧x.Ok:=by
 obtain⟨f',rfl,h⟩:=h.struct Tryz.underlying180
 obtain⟨c0,_,rfl,-,r0,c1,_,rfl,-,r1,hn⟩:=h
 obtain rfl:_=[]:=hn
 obtain⟨A,rfl,hA⟩:=r0.string Tryz.underlying9
 obtain⟨vB,B,rfl,sB,aB,lB⟩:=strs_list r1
 exact⟨⟨A,B⟩,⟨vB,rfl,sB⟩,⟨reach_le hA,⟨lB,aB⟩⟩⟩
theorem ACls_list {w:World} {f:Nat} {cs:List Value} (h:Rd Tryz.prog w f 22 cs):∃ v,∃ l:List ACls,cs=[v]∧RowsAt 2 (ClsAt w) w v l∧(∀ x∈l,ACls.Ok x)∧Big l.length:=by
 obtain⟨f',v,rfl,rfl,es,h1,h2,h3⟩:=h.slice Tryz.underlying22
 rw[show Tryz.prog.cellsOf 180=2 from by kernel_rfl] at h1 h2
 obtain⟨l,e1,e2⟩:=rows_read (R:=fun cs (x:ACls)=>ClsAt w cs x∧ACls.Ok x) (fun cs h=>ACls_cells h.2) es h2
 rw[e1] at h1 h3
 exact⟨v,l,rfl,⟨es,e1,fun x hx=>(h2 x hx).1,h1,fun i x y hx hy=>(e2 i x y hx hy).1⟩,rows_all e1 e2,reach_many (of_decide_eq_true (by kernel_rfl)) h3⟩
set_option maxRecDepth 100000 in
theorem ATyp_cells {w:World} {f:Nat} {cs:List Value} (h:Rd Tryz.prog w f 86 cs):∃ x:ATyp,TypAt w cs x∧x.Ok:=by
 obtain⟨f',rfl,h⟩:=h.struct Tryz.underlying86
 obtain⟨c0,_,rfl,-,r0,c1,_,rfl,-,r1,c2,_,rfl,-,r2,hn⟩:=h
 obtain rfl:_=[]:=hn
 obtain⟨A,rfl,hA⟩:=r0.string Tryz.underlying9
 obtain⟨vB,B,rfl,sB,aB,lB⟩:=strs_list r1
 obtain⟨C,rfl⟩:=r2.bool Tryz.underlying4
 exact⟨⟨A,B,C⟩,⟨vB,rfl,sB⟩,⟨reach_le hA,⟨lB,aB⟩⟩⟩
theorem ATyp_list {w:World} {f:Nat} {cs:List Value} (h:Rd Tryz.prog w f 23 cs):∃ v,∃ l:List ATyp,cs=[v]∧RowsAt 3 (TypAt w) w v l∧(∀ x∈l,ATyp.Ok x)∧Big l.length:=by
 obtain⟨f',v,rfl,rfl,es,h1,h2,h3⟩:=h.slice Tryz.underlying23
 rw[show Tryz.prog.cellsOf 86=3 from by kernel_rfl] at h1 h2
 obtain⟨l,e1,e2⟩:=rows_read (R:=fun cs (x:ATyp)=>TypAt w cs x∧ATyp.Ok x) (fun cs h=>ATyp_cells h.2) es h2
 rw[e1] at h1 h3
 exact⟨v,l,rfl,⟨es,e1,fun x hx=>(h2 x hx).1,h1,fun i x y hx hy=>(e2 i x y hx hy).1⟩,rows_all e1 e2,reach_many (of_decide_eq_true (by kernel_rfl)) h3⟩
set_option maxRecDepth 100000 in
theorem ACon_cells {w:World} {f:Nat} {cs:List Value} (h:Rd Tryz.prog w f 91 cs):∃ x:ACon,ConAt w cs x∧x.Ok:=by
 obtain⟨f',rfl,h⟩:=h.struct Tryz.underlying91
 obtain⟨c0,_,rfl,-,r0,c1,_,rfl,-,r1,c2,_,rfl,-,r2,c3,_,rfl,-,r3,hn⟩:=h
 obtain rfl:_=[]:=hn
 obtain⟨A,rfl,hA⟩:=r0.int Tryz.underlying3
 obtain⟨B,rfl,hB⟩:=r1.int Tryz.underlying50
 obtain⟨C,rfl⟩:=r2.bool Tryz.underlying4
 obtain⟨D,sD,hD⟩:=expr_cells _ _ r3
 exact⟨⟨A,B,C,D⟩,⟨_,by simp,sD⟩,⟨wf_i64 hA,wf_u32 hB,hD⟩⟩
theorem ACon_list {w:World} {f:Nat} {cs:List Value} (h:Rd Tryz.prog w f 34 cs):∃ v,∃ l:List ACon,cs=[v]∧RowsAt 13 (ConAt w) w v l∧(∀ x∈l,ACon.Ok x)∧Big l.length:=by
 obtain⟨f',v,rfl,rfl,es,h1,h2,h3⟩:=h.slice Tryz.underlying34
 rw[show Tryz.prog.cellsOf 91=13 from by kernel_rfl] at h1 h2
 obtain⟨l,e1,e2⟩:=rows_read (R:=fun cs (x:ACon)=>ConAt w cs x∧ACon.Ok x) (fun cs h=>ACon_cells h.2) es h2
 rw[e1] at h1 h3
 exact⟨v,l,rfl,⟨es,e1,fun x hx=>(h2 x hx).1,h1,fun i x y hx hy=>(e2 i x y hx hy).1⟩,rows_all e1 e2,reach_many (of_decide_eq_true (by kernel_rfl)) h3⟩
theorem exps_list {w:World} {f:Nat} {cs:List Value} (h:Rd Tryz.prog w f 29 cs):∃ v,∃ l:List AExp,cs=[v]∧RowsAt 10 (ExpAt w) w v l∧(∀ x∈l,AExp.Ok x)∧Big l.length:=by
 obtain⟨f',v,rfl,rfl,es,h1,h2,h3⟩:=h.slice Tryz.underlying29
 rw[show Tryz.prog.cellsOf 89=10 from by kernel_rfl] at h1 h2
 obtain⟨l,e1,e2⟩:=rows_read (R:=fun cs (x:AExp)=>ExpAt w cs x∧AExp.Ok x) (fun cs h=>expr_cells _ _ h.2) es h2
 rw[e1] at h1 h3
 exact⟨v,l,rfl,⟨es,e1,fun x hx=>(h2 x hx).1,h1,fun i x y hx hy=>(e2 i x y hx hy).1⟩,rows_all e1 e2,reach_many (of_decide_eq_true (by kernel_rfl)) h3⟩
set_option maxRecDepth 100000 in
set_option maxHeartbeats 4000000 in
theorem pol_open {w:World} {u:Value} (h:Arg Tryz.prog w 39 u):∃ c0 c1 c2 c3 c4 c5 c6 c7 c8 c9 c10 c11 c12 c13 c14 c15 c16:Value,∃ p:APol,u=.agg #[c0,c1,c2,c3,c4,c5,c6,c7,c8,c9,c10,c11,c12,c13,c14,c15,c16]∧PolAt w c0 c1 c2 c3 c4 c5 c6 c7 c8 c9 c10 c11 c12 c13 c14 c15 c16 p∧p.Ok:=by
 obtain⟨f,cs,h,rfl⟩:=h
 rw[Tryz.underlying39]
 obtain⟨f',rfl,h⟩:=h.struct Tryz.underlying39
 obtain⟨c0,_,rfl,-,r0,c1,_,rfl,-,r1,c2,_,rfl,-,r2,c3,_,rfl,-,r3,c4,_,rfl,-,r4,c5,_,rfl,-,r5,c6,_,rfl,-,r6,c7,_,rfl,-,r7,c8,_,rfl,-,r8,c9,_,rfl,-,r9,c10,_,rfl,-,r10,c11,_,rfl,-,r11,c12,_,rfl,-,r12,c13,_,rfl,-,r13,c14,_,rfl,-,r14,c15,_,rfl,-,r15,c16,_,rfl,-,r16,hn⟩:=h
 obtain rfl:_=[]:=hn
 obtain⟨v0,l0,rfl,s0,o0,b0⟩:=ACls_list r0
 obtain⟨v1,l1,rfl,s1,o1,b1⟩:=ATyp_list r1
 obtain⟨v2,l2,rfl,s2,o2,b2⟩:=AAtt_list r2
 obtain⟨v3,l3,rfl,s3,o3,b3⟩:=ARol_list r3
 obtain⟨v4,l4,rfl,s4,o4,b4⟩:=AUsr_list r4
 obtain⟨v5,l5,rfl,s5,o5,b5⟩:=ABoo_list r5
 obtain⟨v6,l6,rfl,s6,o6,b6⟩:=strs_list r6
 obtain⟨v7,l7,rfl,s7,o7,b7⟩:=strs_list r7
 obtain⟨v8,l8,rfl,s8,o8,b8⟩:=exps_list r8
 obtain⟨v9,l9,rfl,s9,o9,b9⟩:=ARule_list r9
 obtain⟨v10,l10,rfl,s10,o10,b10⟩:=ATra_list r10
 obtain⟨v11,l11,rfl,s11,o11,b11⟩:=ARtr_list r11
 obtain⟨v12,l12,rfl,s12,o12,b12⟩:=ARgt_list r12
 obtain⟨v13,l13,rfl,s13,o13,b13⟩:=ACon_list r13
 obtain⟨v14,l14,rfl,s14,o14,b14⟩:=ASid_list r14
 obtain⟨v15,l15,rfl,s15,o15,b15⟩:=AFil_list r15
 obtain⟨v16,l16,rfl,s16,o16,b16⟩:=AAss_list r16
 exact⟨v0,v1,v2,v3,v4,v5,v6,v7,v8,v9,v10,v11,v12,v13,v14,v15,v16,⟨l0,l1,l2,l3,l4,l5,l6,l7,l8,l9,l10,l11,l12,l13,l14,l15,l16⟩,rfl,⟨s0,s1,s2,s3,s4,s5,s6,s7,s8,s9,s10,s11,s12,s13,s14,s15,s16⟩,⟨o0,b0,o1,b1,o2,b2,o3,b3,o4,b4,o5,b5,o6,b6,o7,b7,o8,b8,o9,b9,o10,b10,o11,b11,o12,b12,o13,b13,o14,b14,o15,b15,o16,b16⟩⟩
end Go.Proofs.YtdcofoaihmongaaGreat
namespace Go.Proofs.YtdcofoaihmongaaGreat
open Go Go.RowKit
theorem RowsAt.size {α:Type} {k:Nat} {R:List Value→α→Prop} {w:World} {v:Value} {l:List α} (h:RowsAt k R w v l) (hk:0<k):∃ a c,v=.slice a l.length c∧l.length≤c∧l.length≤9223372036854775807:=by
 obtain⟨a,c,h1,h2,h3,-⟩:=h.form hk
 exact⟨a,c,h1,h2,h3⟩
theorem slice_size {w:World} {v:Value} {k n:Nat} {cs:List Value} (h:SliceAt w v k n cs) (hk:0<k):∃ a c,v=.slice a n c∧n≤c∧n≤9223372036854775807:=by
 obtain⟨a,c,h1,h2,h3,-⟩:=h.form hk
 exact⟨a,c,h1,h2,h3⟩
theorem PolAt.f0 {w:World} {c0 c1 c2 c3 c4 c5 c6 c7 c8 c9 c10 c11 c12 c13 c14 c15 c16:Value} {p:APol} (h:PolAt w c0 c1 c2 c3 c4 c5 c6 c7 c8 c9 c10 c11 c12 c13 c14 c15 c16 p):∃ a c,c0=.slice a p.classes.length c∧p.classes.length≤c∧p.classes.length≤9223372036854775807:=RowsAt.size h.classes (by decide)
theorem PolAt.f1 {w:World} {c0 c1 c2 c3 c4 c5 c6 c7 c8 c9 c10 c11 c12 c13 c14 c15 c16:Value} {p:APol} (h:PolAt w c0 c1 c2 c3 c4 c5 c6 c7 c8 c9 c10 c11 c12 c13 c14 c15 c16 p):∃ a c,c1=.slice a p.types.length c∧p.types.length≤c∧p.types.length≤9223372036854775807:=RowsAt.size h.types (by decide)
theorem PolAt.f2 {w:World} {c0 c1 c2 c3 c4 c5 c6 c7 c8 c9 c10 c11 c12 c13 c14 c15 c16:Value} {p:APol} (h:PolAt w c0 c1 c2 c3 c4 c5 c6 c7 c8 c9 c10 c11 c12 c13 c14 c15 c16 p):∃ a c,c2=.slice a p.attrs.length c∧p.attrs.length≤c∧p.attrs.length≤9223372036854775807:=slice_size h.attrs (by decide)
theorem PolAt.f3 {w:World} {c0 c1 c2 c3 c4 c5 c6 c7 c8 c9 c10 c11 c12 c13 c14 c15 c16:Value} {p:APol} (h:PolAt w c0 c1 c2 c3 c4 c5 c6 c7 c8 c9 c10 c11 c12 c13 c14 c15 c16 p):∃ a c,c3=.slice a p.roles.length c∧p.roles.length≤c∧p.roles.length≤9223372036854775807:=slice_size h.roles (by decide)
theorem PolAt.f4 {w:World} {c0 c1 c2 c3 c4 c5 c6 c7 c8 c9 c10 c11 c12 c13 c14 c15 c16:Value} {p:APol} (h:PolAt w c0 c1 c2 c3 c4 c5 c6 c7 c8 c9 c10 c11 c12 c13 c14 c15 c16 p):∃ a c,c4=.slice a p.users.length c∧p.users.length≤c∧p.users.length≤9223372036854775807:=slice_size h.users (by decide)
theorem PolAt.f5 {w:World} {c0 c1 c2 c3 c4 c5 c6 c7 c8 c9 c10 c11 c12 c13 c14 c15 c16:Value} {p:APol} (h:PolAt w c0 c1 c2 c3 c4 c5 c6 c7 c8 c9 c10 c11 c12 c13 c14 c15 c16 p):∃ a c,c5=.slice a p.bools.length c∧p.bools.length≤c∧p.bools.length≤9223372036854775807:=slice_size h.bools (by decide)
theorem PolAt.f6 {w:World} {c0 c1 c2 c3 c4 c5 c6 c7 c8 c9 c10 c11 c12 c13 c14 c15 c16:Value} {p:APol} (h:PolAt w c0 c1 c2 c3 c4 c5 c6 c7 c8 c9 c10 c11 c12 c13 c14 c15 c16 p):∃ a c,c6=.slice a p.sens.length c∧p.sens.length≤c∧p.sens.length≤9223372036854775807:=slice_size h.sens (by decide)
theorem PolAt.f7 {w:World} {c0 c1 c2 c3 c4 c5 c6 c7 c8 c9 c10 c11 c12 c13 c14 c15 c16:Value} {p:APol} (h:PolAt w c0 c1 c2 c3 c4 c5 c6 c7 c8 c9 c10 c11 c12 c13 c14 c15 c16 p):∃ a c,c7=.slice a p.cats.length c∧p.cats.length≤c∧p.cats.length≤9223372036854775807:=slice_size h.cats (by decide)
theorem PolAt.f8 {w:World} {c0 c1 c2 c3 c4 c5 c6 c7 c8 c9 c10 c11 c12 c13 c14 c15 c16:Value} {p:APol} (h:PolAt w c0 c1 c2 c3 c4 c5 c6 c7 c8 c9 c10 c11 c12 c13 c14 c15 c16 p):∃ a c,c8=.slice a p.conds.length c∧p.conds.length≤c∧p.conds.length≤9223372036854775807:=RowsAt.size h.conds (by decide)
theorem PolAt.f9 {w:World} {c0 c1 c2 c3 c4 c5 c6 c7 c8 c9 c10 c11 c12 c13 c14 c15 c16:Value} {p:APol} (h:PolAt w c0 c1 c2 c3 c4 c5 c6 c7 c8 c9 c10 c11 c12 c13 c14 c15 c16 p):∃ a c,c9=.slice a p.rules.length c∧p.rules.length≤c∧p.rules.length≤9223372036854775807:=slice_size h.rules (by decide)
theorem PolAt.f11 {w:World} {c0 c1 c2 c3 c4 c5 c6 c7 c8 c9 c10 c11 c12 c13 c14 c15 c16:Value} {p:APol} (h:PolAt w c0 c1 c2 c3 c4 c5 c6 c7 c8 c9 c10 c11 c12 c13 c14 c15 c16 p):∃ a c,c11=.slice a p.rtrans.length c∧p.rtrans.length≤c∧p.rtrans.length≤9223372036854775807:=slice_size h.rtrans (by decide)
theorem PolAt.f12 {w:World} {c0 c1 c2 c3 c4 c5 c6 c7 c8 c9 c10 c11 c12 c13 c14 c15 c16:Value} {p:APol} (h:PolAt w c0 c1 c2 c3 c4 c5 c6 c7 c8 c9 c10 c11 c12 c13 c14 c15 c16 p):∃ a c,c12=.slice a p.ranges.length c∧p.ranges.length≤c∧p.ranges.length≤9223372036854775807:=slice_size h.ranges (by decide)
theorem PolAt.f13 {w:World} {c0 c1 c2 c3 c4 c5 c6 c7 c8 c9 c10 c11 c12 c13 c14 c15 c16:Value} {p:APol} (h:PolAt w c0 c1 c2 c3 c4 c5 c6 c7 c8 c9 c10 c11 c12 c13 c14 c15 c16 p):∃ a c,c13=.slice a p.cons.length c∧p.cons.length≤c∧p.cons.length≤9223372036854775807:=RowsAt.size h.cons (by decide)
theorem PolAt.f14 {w:World} {c0 c1 c2 c3 c4 c5 c6 c7 c8 c9 c10 c11 c12 c13 c14 c15 c16:Value} {p:APol} (h:PolAt w c0 c1 c2 c3 c4 c5 c6 c7 c8 c9 c10 c11 c12 c13 c14 c15 c16 p):∃ a c,c14=.slice a p.sids.length c∧p.sids.length≤c∧p.sids.length≤9223372036854775807:=slice_size h.sids (by decide)
theorem PolAt.f15 {w:World} {c0 c1 c2 c3 c4 c5 c6 c7 c8 c9 c10 c11 c12 c13 c14 c15 c16:Value} {p:APol} (h:PolAt w c0 c1 c2 c3 c4 c5 c6 c7 c8 c9 c10 c11 c12 c13 c14 c15 c16 p):∃ a c,c15=.slice a p.files.length c∧p.files.length≤c∧p.files.length≤9223372036854775807:=slice_size h.files (by decide)
theorem PolAt.f16 {w:World} {c0 c1 c2 c3 c4 c5 c6 c7 c8 c9 c10 c11 c12 c13 c14 c15 c16:Value} {p:APol} (h:PolAt w c0 c1 c2 c3 c4 c5 c6 c7 c8 c9 c10 c11 c12 c13 c14 c15 c16 p):∃ a c,c16=.slice a p.asserts.length c∧p.asserts.length≤c∧p.asserts.length≤9223372036854775807:=slice_size h.asserts (by decide)
def belowB (i n:Int):Bool:=decide (0≤i)&&decide (i<n)
theorem below_any (w:World) (i n:Int):Calls Tryz.prog 113 #[.int .i64 i,.int .i64 n] w fun e w'=>e=.returned (.bool (belowB i n))∧w=w':=by
 unfold belowB
 cases h:decide (0≤i) with
 | false =>
  go_enter Tryz.func113,Tryz.ntmps113
  go_wp2
  go_ret
  exact⟨rfl,rfl⟩
 | true =>
  go_enter Tryz.func113,Tryz.ntmps113
  go_wp2
  go_ret
  exact⟨rfl,rfl⟩
def domB (a b:ALev):Bool:=decide (b.sens≤a.sens)&&decide (andn b.cats a.cats=0)
set_option maxRecDepth 100000 in
set_option maxHeartbeats 4000000 in
theorem dom_any (w:World) (a b:ALev) (ha:a.Ok) (hb:b.Ok):Calls Tryz.prog 109 #[.agg #[.int .i64 a.sens,.int .u64 a.cats],.agg #[.int .i64 b.sens,.int .u64 b.cats]] w fun e w'=>e=.returned (.bool (domB a b))∧RowKit.Below w.heap.size w w':=by
 have hd:(bits .andNot .u64 (b.cats:Int) (a.cats:Int) == 0)=decide (andn b.cats a.cats=0):=by
  rw[u64_andNot_nat b.cats a.cats hb.cats ha.cats]
  show(((andn b.cats a.cats:Nat):Int) == 0)=_
  rw[Bool.eq_iff_iff]
  simp
 have HD:=Lib.hid hd
 clear hd ha hb
 obtain⟨wo,hwo⟩:∃ wo,wo=((w).alloc (.cells #[.int .i64 a.sens,.int .u64 a.cats] 70)).alloc (.cells #[.int .i64 b.sens,.int .u64 b.cats] 70):=⟨_,rfl⟩
 have W0:=Lib.hid (show Whole wo w.heap.size 70 #[.int .i64 a.sens,.int .u64 a.cats] by rw[hwo];exact((show Whole _ w.heap.size 70 #[.int .i64 a.sens,.int .u64 a.cats] from Whole.new w 70 _).alloc _))
 have W1:=Lib.hid (show Whole wo (w.heap.size+1) 70 #[.int .i64 b.sens,.int .u64 b.cats] by rw[hwo];exact(whole_two w _ _ _))
 have HBO:=Lib.hid (show RowKit.Below w.heap.size w wo by rw[hwo];exact(((Below.refl _ w).alloc (Nat.le_refl _) _).alloc (by simp) _))
 have ka0:wo.cell? ⟨w.heap.size,0,none⟩=some (.int .i64 a.sens):=W0.out.cell 0
 have ka1:wo.cell? ⟨w.heap.size,1,none⟩=some (.int .u64 a.cats):=W0.out.cell 1
 have kb0:wo.cell? ⟨w.heap.size+1,0,none⟩=some (.int .i64 b.sens):=W1.out.cell 0
 have kb1:wo.cell? ⟨w.heap.size+1,1,none⟩=some (.int .u64 b.cats):=W1.out.cell 1
 unfold domB
 by_cases h:b.sens≤a.sens
 ·have h1:decide (b.sens≤a.sens)=true:=by simp[h]
  rw[h1]
  go_enter Tryz.func109,Tryz.ntmps109
  go_upto_region 1 with(fail)
  rw[← hwo]
  clear hwo
  go_wp2
  go_ret
  exact⟨ret_bool (by rw[← HD.out];rfl),HBO.out⟩
 ·have h1:decide (b.sens≤a.sens)=false:=by simp[h]
  rw[h1]
  go_enter Tryz.func109,Tryz.ntmps109
  go_upto_region 1 with(fail)
  rw[← hwo]
  clear hwo
  go_wp2
  go_ret
  exact⟨rfl,HBO.out⟩
def condB (n:Nat) (k:Int):Bool:=decide (-(n:Int)≤k)&&decide (k≤(n:Int))
set_option maxRecDepth 100000 in
set_option maxHeartbeats 4000000 in
theorem cond_any (w:World) (c0 c1 c2 c3 c4 c5 c6 c7 c8 c9 c10 c11 c12 c13 c14 c15 c16:Value) (p:APol) (hp:PolAt w c0 c1 c2 c3 c4 c5 c6 c7 c8 c9 c10 c11 c12 c13 c14 c15 c16 p) (k:Int):Calls Tryz.prog 112 #[.agg #[c0,c1,c2,c3,c4,c5,c6,c7,c8,c9,c10,c11,c12,c13,c14,c15,c16],.int .i64 k] w fun e w'=>e=.returned (.bool (condB p.conds.length k))∧RowKit.Below w.heap.size w w':=by
 obtain⟨a8,k8,rfl,hk8,hm8⟩:=PolAt.f8 hp
 obtain⟨n8,hn8⟩:∃ n,n=p.conds.length:=⟨_,rfl⟩
 have N8:=Lib.hid hn8
 rw[← hn8] at hk8 hm8 ⊢
 clear hn8
 obtain⟨wo,hwo⟩:∃ wo,wo=(w).alloc (.cells #[c0,c1,c2,c3,c4,c5,c6,c7,.slice a8 n8 k8,c9,c10,c11,c12,c13,c14,c15,c16] 39):=⟨_,rfl⟩
 have W0:=Lib.hid (show Whole wo w.heap.size 39 #[c0,c1,c2,c3,c4,c5,c6,c7,.slice a8 n8 k8,c9,c10,c11,c12,c13,c14,c15,c16] by rw[hwo];exact(Whole.new w 39 _))
 have HBO:=Lib.hid (show RowKit.Below w.heap.size w wo by rw[hwo];exact((Below.refl _ w).alloc (Nat.le_refl _) _))
 have kp8:wo.cell? ⟨w.heap.size,8,none⟩=some (.slice a8 n8 k8):=W0.out.cell 8
 clear hp
 unfold condB
 by_cases h:-(n8:Int)≤k
 ·have h1:decide (-(n8:Int)≤k)=true:=by simp[h]
  rw[h1]
  go_enter Tryz.func112,Tryz.ntmps112
  go_upto_region 1 with(fail)
  rw[← hwo]
  clear hwo
  go_wp2
  go_ret
  exact⟨ret_bool (by simp),HBO.out⟩
 ·have h1:decide (-(n8:Int)≤k)=false:=by simp[h]
  rw[h1]
  go_enter Tryz.func112,Tryz.ntmps112
  go_upto_region 1 with(fail)
  rw[← hwo]
  clear hwo
  go_wp2
  go_ret
  exact⟨ret_bool (by simp),HBO.out⟩
end Go.Proofs.YtdcofoaihmongaaGreat
namespace Go.Proofs.YtdcofoaihmongaaGreat
open Go Go.RowKit
def byteN (s:ByteArray) (i:Nat):Nat:=if h:i<s.size then (s[i]'h).toNat else 0
theorem byteN_at {s:ByteArray} {i:Nat} (h:i<s.size):(s[i]'h).toNat=byteN s i:=by unfold byteN;rw[dif_pos h]
theorem byteN_lt (s:ByteArray) (i:Nat):byteN s i<256:=by
 unfold byteN
 split
 ·exact UInt8.toNat_lt _
 ·decide
def badQ (s:ByteArray) (i:Nat):Bool:=decide ((byteN s i:Int)<32)||decide ((126:Int)<byteN s i)||decide ((byteN s i:Int)=34)
def quotedB (s:ByteArray):Bool:=!(someAt (badQ s) s.size 0)&&decide ((s.size:Int)≤256)
set_option maxRecDepth 100000 in
set_option maxHeartbeats 4000000 in
theorem quoted_any (w:World) (s:ByteArray) (hs:StrOk s):Calls Tryz.prog 200 #[.string s] w fun e w'=>e=.returned (.bool (quotedB s))∧w=w':=by
 have hs':s.size≤140737488355328:=hs
 obtain⟨n,hn⟩:∃ n,n=s.size:=⟨_,rfl⟩
 have HN:=Lib.hid hn
 have hnb:n≤140737488355328:=by rw[hn];exact hs'
 unfold quotedB
 clear hs hs'
 go_enter Tryz.func200,Tryz.ntmps200
 go_wp2_with fail
 go_loopw [3] (fun i wr=>wr=w∧∃ k:Nat,k≤n∧i=.int .i64 k∧Hid (someAt (badQ s) s.size 0=someAt (badQ s) (n-k) k)) (fun i _=>n-(intOf i).toNat)
 case atStart=>exact⟨rfl,0,Nat.zero_le _,rfl,Lib.hid (by rw[hn,Nat.sub_zero])⟩
 case round =>
  obtain⟨rfl,k,hk,rfl,hinv⟩:=hrel
  by_cases hlt:k<n
  ·have hks:k<s.size:=by rw[← hn];exact hlt
   obtain⟨x,hx⟩:∃ x,x=byteN s k:=⟨_,rfl⟩
   have hsx:(s[k]'hks).toNat=x:=by rw[byteN_at hks,hx]
   have hx256:x<256:=by rw[hx];exact byteN_lt s k
   have hlt2:0≤(k:Int)∧(k:Int)<s.size:=by omega
   have HX:=Lib.hid hx
   clear hx
   by_cases h1:(x:Int)<32
   ·have HB:=Lib.hid (show badQ s k=true by unfold badQ;rw[← HX.out];simp[h1])
    have hd1:decide ((x:Int)<32)=true:=by simp[h1]
    go_wp2_with fail
    go_ret
    exact⟨ret_bool (by rw[hinv.out,someAt_hit hlt HB.out];rfl),rfl⟩
   ·by_cases h2:(126:Int)<x
    ·have HB:=Lib.hid (show badQ s k=true by unfold badQ;rw[← HX.out];simp[h2])
     have hd1:decide ((x:Int)<32)=false:=by simp;omega
     go_wp2_with fail
     go_ret
     exact⟨ret_bool (by rw[hinv.out,someAt_hit hlt HB.out];rfl),rfl⟩
    ·by_cases h3:(x:Int)=34
     ·have HB:=Lib.hid (show badQ s k=true by unfold badQ;rw[← HX.out];simp[h3])
      go_wp2_with fail
      go_ret
      exact⟨ret_bool (by rw[hinv.out,someAt_hit hlt HB.out];rfl),rfl⟩
     ·have HB:=Lib.hid (show badQ s k=false by unfold badQ;rw[← HX.out];simp[h1,h2,h3])
      go_wp2_with fail
      go_roundw
      case rel=>exact⟨by first | trivial | rfl,k+1,by omega,by go_num,Lib.hid (hinv.out.trans (someAt_next hlt HB.out))⟩
      case measure=>simp[intOf];omega
  ·obtain rfl:k=n:=by omega
   go_wp2_with fail
   go_ret
   exact⟨ret_bool (by rw[hinv.out,someAt_stop];rfl),rfl⟩
def letterB (x:Nat):Bool:=(decide ((65:Int)≤x)&&decide ((x:Int)≤90))||(decide ((97:Int)≤x)&&decide ((x:Int)≤122))||decide ((x:Int)=95)
def digitB (x:Nat):Bool:=decide ((48:Int)≤x)&&decide ((x:Int)≤57)
set_option maxRecDepth 100000 in
set_option maxHeartbeats 4000000 in
theorem letter_any (w:World) (x:Nat):Calls Tryz.prog 248 #[.int .u8 (x:Int)] w fun e w'=>e=.returned (.bool (letterB x))∧w=w':=by
 unfold letterB
 by_cases t0:(65:Int)≤x
 ·have d0:decide ((65:Int)≤x)=true:=by simp;omega
  by_cases t1:(x:Int)≤90
  ·have d1:decide ((x:Int)≤90)=true:=by simp;omega
   have d2:decide ((97:Int)≤x)=false:=by simp;omega
   have d3:decide ((x:Int)≤122)=true:=by simp;omega
   go_enter Tryz.func248,Tryz.ntmps248
   go_wp2
   go_ret
   exact⟨ret_bool (by first | rfl | (simp<;>omega) | (simp[*];done) | (simp;omega)),rfl⟩
  ·have d1:decide ((x:Int)≤90)=false:=by simp;omega
   by_cases t2:(97:Int)≤x
   ·have d2:decide ((97:Int)≤x)=true:=by simp;omega
    by_cases t3:(x:Int)≤122
    ·have d3:decide ((x:Int)≤122)=true:=by simp;omega
     go_enter Tryz.func248,Tryz.ntmps248
     go_wp2
     go_ret
     exact⟨ret_bool (by first | rfl | (simp<;>omega) | (simp[*];done) | (simp;omega)),rfl⟩
    ·have d3:decide ((x:Int)≤122)=false:=by simp;omega
     go_enter Tryz.func248,Tryz.ntmps248
     go_wp2
     go_ret
     exact⟨ret_bool (by first | rfl | (simp<;>omega) | (simp[*];done) | (simp;omega)),rfl⟩
   ·have d2:decide ((97:Int)≤x)=false:=by simp;omega
    have d3:decide ((x:Int)≤122)=true:=by simp;omega
    go_enter Tryz.func248,Tryz.ntmps248
    go_wp2
    go_ret
    exact⟨ret_bool (by first | rfl | (simp<;>omega) | (simp[*];done) | (simp;omega)),rfl⟩
 ·have d0:decide ((65:Int)≤x)=false:=by simp;omega
  have d1:decide ((x:Int)≤90)=true:=by simp;omega
  have d2:decide ((97:Int)≤x)=false:=by simp;omega
  have d3:decide ((x:Int)≤122)=true:=by simp;omega
  go_enter Tryz.func248,Tryz.ntmps248
  go_wp2
  go_ret
  exact⟨ret_bool (by first | rfl | (simp<;>omega) | (simp[*];done) | (simp;omega)),rfl⟩
set_option maxRecDepth 100000 in
set_option maxHeartbeats 4000000 in
theorem digit_any (w:World) (x:Nat):Calls Tryz.prog 249 #[.int .u8 (x:Int)] w fun e w'=>e=.returned (.bool (digitB x))∧w=w':=by
 unfold digitB
 by_cases t0:(48:Int)≤x
 ·have d0:decide ((48:Int)≤x)=true:=by simp;omega
  go_enter Tryz.func249,Tryz.ntmps249
  go_wp2
  go_ret
  exact⟨ret_bool (by first | rfl | (simp<;>omega) | (simp[*];done) | (simp;omega)),rfl⟩
 ·have d0:decide ((48:Int)≤x)=false:=by simp;omega
  go_enter Tryz.func249,Tryz.ntmps249
  go_wp2
  go_ret
  exact⟨ret_bool (by first | rfl | (simp<;>omega) | (simp[*];done) | (simp;omega)),rfl⟩
def withinE (s ws:ByteArray):Nat→Nat→Nat→Bool
 | 0,_,_=>false
 | k+1,fr,i=>if byteN ws i=32 then (if (ws.extract fr i).toList=s.toList∧s.toList.isEmpty=false then true else withinE s ws k (i+1) (i+1)) else withinE s ws k fr (i+1)
def withinW (s ws:ByteArray):Bool:=withinE s ws ws.size 0 0
theorem withinE_skip {s ws:ByteArray} {n fr i:Nat} (h:i<n) (hb:byteN ws i≠32):withinE s ws (n-i) fr i=withinE s ws (n-(i+1)) fr (i+1):=by
 obtain⟨k,hk⟩:∃ k,n-i=k+1:=⟨n-i-1,by omega⟩
 rw[hk,show n-(i+1)=k by omega]
 exact if_neg hb
theorem withinE_hit {s ws:ByteArray} {n fr i:Nat} (h:i<n) (hb:byteN ws i=32) (h1:(ws.extract fr i).toList=s.toList) (h2:s.toList.isEmpty=false):withinE s ws (n-i) fr i=true:=by
 obtain⟨k,hk⟩:∃ k,n-i=k+1:=⟨n-i-1,by omega⟩
 rw[hk]
 exact(if_pos hb).trans (if_pos ⟨h1,h2⟩)
theorem withinE_miss {s ws:ByteArray} {n fr i:Nat} (h:i<n) (hb:byteN ws i=32) (h1:¬ ((ws.extract fr i).toList=s.toList∧s.toList.isEmpty=false)):withinE s ws (n-i) fr i=withinE s ws (n-(i+1)) (i+1) (i+1):=by
 obtain⟨k,hk⟩:∃ k,n-i=k+1:=⟨n-i-1,by omega⟩
 rw[hk,show n-(i+1)=k by omega]
 exact(if_pos hb).trans (if_neg h1)
set_option maxRecDepth 100000 in
set_option maxHeartbeats 4000000 in
theorem withinW_any (w:World) (s ws:ByteArray) (hs:StrOk ws):Calls Tryz.prog 201 #[.string s,.string ws] w fun e w'=>e=.returned (.bool (withinW s ws))∧w=w':=by
 have hs':ws.size≤140737488355328:=hs
 obtain⟨n,hn⟩:∃ n,n=ws.size:=⟨_,rfl⟩
 have HN:=Lib.hid hn
 have hnb:n≤140737488355328:=by rw[hn];exact hs'
 unfold withinW
 clear hs hs'
 go_enter Tryz.func201,Tryz.ntmps201
 go_wp2_with fail
 go_loopw [5,6] (fun f i wr=>wr=w∧∃ fr k:Nat,fr≤k∧k≤n∧f=.int .i64 fr∧i=.int .i64 k∧Hid (withinE s ws ws.size 0 0=withinE s ws (n-k) fr k)) (fun _ i _=>n-(intOf i).toNat)
 case atStart=>exact⟨rfl,0,0,Nat.le_refl _,Nat.zero_le _,rfl,rfl,Lib.hid (by rw[hn,Nat.sub_zero])⟩
 case round =>
  obtain⟨rfl,fr,k,hfr,hk,rfl,rfl,hinv⟩:=hrel
  by_cases hlt:k<n
  ·have hks:k<ws.size:=by rw[← hn];exact hlt
   obtain⟨x,hx⟩:∃ x,x=byteN ws k:=⟨_,rfl⟩
   have hsx:(ws[k]'hks).toNat=x:=by rw[byteN_at hks,hx]
   have hx256:x<256:=by rw[hx];exact byteN_lt ws k
   have hlt2:0≤(k:Int)∧(k:Int)<ws.size:=by omega
   have HX:=Lib.hid hx
   clear hx
   by_cases h32:x=32
   ·subst h32
    have HX32:=Lib.hid HX.out.symm
    have hlt3:0≤(k:Int)∧(k:Int)≤ws.size:=by omega
    have hlt4:0≤(fr:Int)∧(fr:Int)≤k:=by omega
    by_cases h1:(ws.extract fr k).toList=s.toList
    ·by_cases h2:s.toList.isEmpty=true
     ·have HM:=Lib.hid (withinE_miss (fr:=fr) hlt HX32.out (fun h=>by rw[h2] at h;cases h.2))
      clear HX HX32
      go_wp2_with fail
      go_roundw
      case rel=>exact⟨by first | trivial | rfl,k+1,k+1,Nat.le_refl _,by omega,by go_num,by go_num,Lib.hid (hinv.out.trans HM.out)⟩
      case measure=>simp[intOf];omega
     ·have HM:=Lib.hid (withinE_hit (fr:=fr) hlt HX32.out h1 (Bool.eq_false_iff.2 h2))
      have h2':s.toList.isEmpty=false:=Bool.eq_false_iff.2 h2
      clear h2
      clear HX HX32
      go_wp2_with fail
      go_ret
      exact⟨ret_bool (by rw[hinv.out,HM.out]),rfl⟩
    ·have HM:=Lib.hid (withinE_miss (fr:=fr) hlt HX32.out (fun h=>h1 h.1))
     clear HX HX32
     go_wp2_with fail
     go_roundw
     case rel=>exact⟨by first | trivial | rfl,k+1,k+1,Nat.le_refl _,by omega,by go_num,by go_num,Lib.hid (hinv.out.trans HM.out)⟩
     case measure=>simp[intOf];omega
   ·have HM:=Lib.hid (withinE_skip (s:=s) (fr:=fr) hlt (by rw[← HX.out];exact h32))
    clear HX
    go_wp2_with fail
    go_roundw
    case rel=>exact⟨by first | trivial | rfl,fr,k+1,by omega,by omega,rfl,by go_num,Lib.hid (hinv.out.trans HM.out)⟩
    case measure=>simp[intOf];omega
  ·obtain rfl:k=n:=by omega
   go_wp2_with fail
   go_ret
   exact⟨ret_bool (by rw[hinv.out,Nat.sub_self];rfl),rfl⟩
def kwB:ByteArray:=⟨#[109,111,100,117,108,101,32,99,108,97,115,115,32,116,121,112,101,32,97,108,105,97,115,32,116,121,112,101,97,116,116,114,105,98,117,116,101,32,97,116,116,114,105,98,117,116,101,32,114,111,108,101,32,116,121,112,101,115,32,114,111,108,101,97,108,108,111,119,32,114,111,108,101,95,116,114,97,110,115,105,116,105,111,110,32,117,115,101,114,32,114,111,108,101,115,32,108,101,118,101,108,32,114,97,110,103,101,32,98,111,111,108,32,116,114,117,101,32,102,97,108,115,101,32,115,101,110,115,105,116,105,118,105,116,121,32,99,97,116,101,103,111,114,121,32,97,108,108,111,119,32,97,117,100,105,116,97,108,108,111,119,32,100,111,110,116,97,117,100,105,116,32,110,101,118,101,114,97,108,108,111,119,32,116,121,112,101,95,116,114,97,110,115,105,116,105,111,110,32,116,121,112,101,95,99,104,97,110,103,101,32,116,121,112,101,95,109,101,109,98,101,114,32,114,97,110,103,101,95,116,114,97,110,115,105,116,105,111,110,32,99,111,110,115,116,114,97,105,110,32,118,97,108,105,100,97,116,101,116,114,97,110,115,32,105,102,32,101,108,115,101,32,111,112,116,105,111,110,97,108,32,114,101,113,117,105,114,101,32,115,105,100,32,102,105,108,101,99,111,110,32,112,101,114,109,105,115,115,105,118,101,32,97,115,115,101,114,116,32,115,101,108,102,32,105,110,32]⟩
theorem kwB_ok:StrOk kwB:=by
 show kwB.size≤140737488355328
 have:kwB.size=327:=by kernel_rfl
 omega
def keywordB (s:ByteArray):Bool:=withinW s kwB
set_option maxRecDepth 100000 in
set_option maxHeartbeats 4000000 in
theorem keyword_any (w:World) (s:ByteArray):Calls Tryz.prog 278 #[.string s] w fun e w'=>e=.returned (.bool (keywordB s))∧w=w':=by
 obtain⟨q,hq⟩:∃ q,q=keywordB s:=⟨_,rfl⟩
 have HQ:=Lib.hid hq
 rw[← hq]
 clear hq
 go_enter Tryz.func278,Tryz.ntmps278
 go_wp2_with (go_at_call 201;go_must (refine(show Calls Tryz.prog 201 _ _ (fun e w'=>e=.returned (.bool q)∧w=w') from by rw[HQ.out];exact withinW_any w s kwB kwB_ok).mono ?_;rintro e w' ⟨rfl,rfl⟩))
 go_ret
 exact⟨rfl,rfl⟩
def badN (s:ByteArray) (i:Nat):Bool:=!letterB (byteN s i)&&(decide (i=0)||!digitB (byteN s i))
def nameB (s:ByteArray):Bool:=!(someAt (badN s) s.size 0)&&(decide ((1:Int)≤(s.size:Int))&&decide ((s.size:Int)≤32))
set_option maxRecDepth 100000 in
set_option maxHeartbeats 4000000 in
theorem name_any (w:World) (s:ByteArray) (hs:StrOk s):Calls Tryz.prog 198 #[.string s] w fun e w'=>e=.returned (.bool (nameB s))∧w=w':=by
 have hs':s.size≤140737488355328:=hs
 obtain⟨n,hn⟩:∃ n,n=s.size:=⟨_,rfl⟩
 have HN:=Lib.hid hn
 have hnb:n≤140737488355328:=by rw[hn];exact hs'
 unfold nameB
 clear hs hs'
 go_enter Tryz.func198,Tryz.ntmps198
 go_wp2_with fail
 go_loopw [3] (fun i wr=>wr=w∧∃ k:Nat,k≤n∧i=.int .i64 k∧Hid (someAt (badN s) s.size 0=someAt (badN s) (n-k) k)) (fun i _=>n-(intOf i).toNat)
 case atStart=>exact⟨rfl,0,Nat.zero_le _,rfl,Lib.hid (by rw[hn,Nat.sub_zero])⟩
 case round =>
  obtain⟨rfl,k,hk,rfl,hinv⟩:=hrel
  by_cases hlt:k<n
  ·have hks:k<s.size:=by rw[← hn];exact hlt
   obtain⟨x,hx⟩:∃ x,x=byteN s k:=⟨_,rfl⟩
   have hsx:(s[k]'hks).toNat=x:=by rw[byteN_at hks,hx]
   have hx256:x<256:=by rw[hx];exact byteN_lt s k
   have hlt2:0≤(k:Int)∧(k:Int)<s.size:=by omega
   have HX:=Lib.hid hx
   clear hx
   cases hl:letterB x with
   | true =>
    have HB:=Lib.hid (show badN s k=false by unfold badN;rw[← HX.out,hl];rfl)
    have HL:=Lib.hid hl
    clear hl HX
    go_wp2_with (have hZ:=HL;clear hZ;go_at_call 248;go_must (refine(show Calls Tryz.prog 248 _ _ (fun e w'=>e=.returned (.bool true)∧_=w') from by have h:=letter_any wr x;rw[HL.out] at h;exact h).mono ?_;rintro e w' ⟨rfl,rfl⟩;clear HL))
    go_roundw
    case rel=>exact⟨by first | trivial | rfl,k+1,by omega,by go_num,Lib.hid (hinv.out.trans (someAt_next hlt HB.out))⟩
    case measure=>simp[intOf];omega
   | false =>
    have HL:=Lib.hid hl
    by_cases h0:k=0
    ·subst h0
     have HB:=Lib.hid (show badN s 0=true by unfold badN;rw[← HX.out,hl];rfl)
     clear hl HX
     go_wp2_with (have hZ:=HL;clear hZ;go_at_call 248;go_must (refine(show Calls Tryz.prog 248 _ _ (fun e w'=>e=.returned (.bool false)∧_=w') from by have h:=letter_any wr x;rw[HL.out] at h;exact h).mono ?_;rintro e w' ⟨rfl,rfl⟩;clear HL))
     go_ret
     exact⟨ret_bool (by rw[hinv.out,someAt_hit hlt HB.out];rfl),rfl⟩
    ·have hd0:decide ((k:Int)=0)=false:=by simp;omega
     cases hg:digitB x with
     | true =>
      have HB:=Lib.hid (show badN s k=false by unfold badN;rw[← HX.out,hl,hg];simp[h0])
      have HDG:=Lib.hid hg
      clear hl hg HX
      go_wp2_with (first | (have hZ:=HL;clear hZ;go_at_call 248;go_must (refine(show Calls Tryz.prog 248 _ _ (fun e w'=>e=.returned (.bool false)∧_=w') from by have h:=letter_any wr x;rw[HL.out] at h;exact h).mono ?_;rintro e w' ⟨rfl,rfl⟩;clear HL)) | (have hZ:=HDG;clear hZ;go_at_call 249;go_must (refine(show Calls Tryz.prog 249 _ _ (fun e w'=>e=.returned (.bool true)∧_=w') from by have h:=digit_any wr x;rw[HDG.out] at h;exact h).mono ?_;rintro e w' ⟨rfl,rfl⟩;clear HDG)))
      go_roundw
      case rel=>exact⟨by first | trivial | rfl,k+1,by omega,by go_num,Lib.hid (hinv.out.trans (someAt_next hlt HB.out))⟩
      case measure=>simp[intOf];omega
     | false =>
      have HB:=Lib.hid (show badN s k=true by unfold badN;rw[← HX.out,hl,hg];simp)
      have HDG:=Lib.hid hg
      clear hl hg HX
      go_wp2_with (first | (have hZ:=HL;clear hZ;go_at_call 248;go_must (refine(show Calls Tryz.prog 248 _ _ (fun e w'=>e=.returned (.bool false)∧_=w') from by have h:=letter_any wr x;rw[HL.out] at h;exact h).mono ?_;rintro e w' ⟨rfl,rfl⟩;clear HL)) | (have hZ:=HDG;clear hZ;go_at_call 249;go_must (refine(show Calls Tryz.prog 249 _ _ (fun e w'=>e=.returned (.bool false)∧_=w') from by have h:=digit_any wr x;rw[HDG.out] at h;exact h).mono ?_;rintro e w' ⟨rfl,rfl⟩;clear HDG)))
      go_ret
      exact⟨ret_bool (by rw[hinv.out,someAt_hit hlt HB.out];rfl),rfl⟩
  ·obtain rfl:k=n:=by omega
   have HF:=Lib.hid hinv.out
   clear hinv
   by_cases h1:(1:Int)≤(s.size:Int)
   ·have hd1:decide ((1:Int)≤(s.size:Int))=true:=by simp;omega
    go_wp2_with fail
    go_ret
    exact⟨ret_bool (by first | rfl | (rw[HF.out,someAt_stop];simp;omega)),rfl⟩
   ·have hd1:decide ((1:Int)≤(s.size:Int))=false:=by simp;omega
    go_wp2_with fail
    go_ret
    exact⟨ret_bool (by first | rfl | (rw[HF.out,someAt_stop];simp;omega)),rfl⟩
def badO (s:ByteArray) (i:Nat):Bool:=decide ((byteN s i:Int)<33)||decide ((126:Int)<byteN s i)||decide ((byteN s i:Int)=34)||decide ((byteN s i:Int)=47)
def objectB (s:ByteArray):Bool:=!(someAt (badO s) s.size 0)&&(decide ((1:Int)≤(s.size:Int))&&decide ((s.size:Int)≤32))
set_option maxRecDepth 100000 in
set_option maxHeartbeats 4000000 in
theorem object_any (w:World) (s:ByteArray) (hs:StrOk s):Calls Tryz.prog 114 #[.string s] w fun e w'=>e=.returned (.bool (objectB s))∧w=w':=by
 have hs':s.size≤140737488355328:=hs
 obtain⟨n,hn⟩:∃ n,n=s.size:=⟨_,rfl⟩
 have HN:=Lib.hid hn
 have hnb:n≤140737488355328:=by rw[hn];exact hs'
 unfold objectB
 clear hs hs'
 go_enter Tryz.func114,Tryz.ntmps114
 go_wp2_with fail
 go_loopw [3] (fun i wr=>wr=w∧∃ k:Nat,k≤n∧i=.int .i64 k∧Hid (someAt (badO s) s.size 0=someAt (badO s) (n-k) k)) (fun i _=>n-(intOf i).toNat)
 case atStart=>exact⟨rfl,0,Nat.zero_le _,rfl,Lib.hid (by rw[hn,Nat.sub_zero])⟩
 case round =>
  obtain⟨rfl,k,hk,rfl,hinv⟩:=hrel
  by_cases hlt:k<n
  ·have hks:k<s.size:=by rw[← hn];exact hlt
   obtain⟨x,hx⟩:∃ x,x=byteN s k:=⟨_,rfl⟩
   have hsx:(s[k]'hks).toNat=x:=by rw[byteN_at hks,hx]
   have hx256:x<256:=by rw[hx];exact byteN_lt s k
   have hlt2:0≤(k:Int)∧(k:Int)<s.size:=by omega
   have HX:=Lib.hid hx
   clear hx
   by_cases h1:(x:Int)<33
   ·have HB:=Lib.hid (show badO s k=true by unfold badO;rw[← HX.out];simp[h1])
    have hd1:decide ((x:Int)<33)=true:=by simp[h1]
    go_wp2_with fail
    go_ret
    exact⟨ret_bool (by rw[hinv.out,someAt_hit hlt HB.out];rfl),rfl⟩
   ·by_cases h2:(126:Int)<x
    ·have HB:=Lib.hid (show badO s k=true by unfold badO;rw[← HX.out];simp[h2])
     have hd1:decide ((x:Int)<33)=false:=by simp;omega
     go_wp2_with fail
     go_ret
     exact⟨ret_bool (by rw[hinv.out,someAt_hit hlt HB.out];rfl),rfl⟩
    ·by_cases h3:(x:Int)=34
     ·have HB:=Lib.hid (show badO s k=true by unfold badO;rw[← HX.out];simp[h3])
      go_wp2_with fail
      go_ret
      exact⟨ret_bool (by rw[hinv.out,someAt_hit hlt HB.out];rfl),rfl⟩
     ·have hd3:decide ((x:Int)=34)=false:=by simp[h3]
      have hd33:((x:Int) == 34)=false:=by simpa using h3
      by_cases h4:(x:Int)=47
      ·have HB:=Lib.hid (show badO s k=true by unfold badO;rw[← HX.out];simp[h4])
       go_wp2_with fail
       go_ret
       exact⟨ret_bool (by rw[hinv.out,someAt_hit hlt HB.out];rfl),rfl⟩
      ·have HB:=Lib.hid (show badO s k=false by unfold badO;rw[← HX.out];simp[h1,h2,h3,h4])
       go_wp2_with fail
       go_roundw
       case rel=>exact⟨by first | trivial | rfl,k+1,by omega,by go_num,Lib.hid (hinv.out.trans (someAt_next hlt HB.out))⟩
       case measure=>simp[intOf];omega
  ·obtain rfl:k=n:=by omega
   have HF:=Lib.hid hinv.out
   clear hinv
   by_cases h1:(1:Int)≤(s.size:Int)
   ·have hd1:decide ((1:Int)≤(s.size:Int))=true:=by simp;omega
    go_wp2_with fail
    go_ret
    exact⟨ret_bool (by first | rfl | (rw[HF.out,someAt_stop];simp;omega)),rfl⟩
   ·have hd1:decide ((1:Int)≤(s.size:Int))=false:=by simp;omega
    go_wp2_with fail
    go_ret
    exact⟨ret_bool (by first | rfl | (rw[HF.out,someAt_stop];simp;omega)),rfl⟩
def identB (s:ByteArray):Bool:=nameB s&&!keywordB s
set_option maxRecDepth 100000 in
set_option maxHeartbeats 4000000 in
theorem ident_any (w:World) (s:ByteArray) (hs:StrOk s):Calls Tryz.prog 243 #[.string s] w fun e w'=>e=.returned (.bool (identB s))∧w=w':=by
 have HS:=Lib.hid hs
 clear hs
 unfold identB
 cases h1:nameB s with
 | false =>
  have H1:=Lib.hid h1
  clear h1
  go_enter Tryz.func243,Tryz.ntmps243
  go_wp2_with (have hZ:=H1;clear hZ;go_at_call 198;go_must (refine(show Calls Tryz.prog 198 _ _ (fun e w'=>e=.returned (.bool false)∧_=w') from by have h:=name_any w s HS.out;rw[H1.out] at h;exact h).mono ?_;rintro e w' ⟨rfl,rfl⟩;clear H1))
  go_ret
  exact⟨rfl,rfl⟩
 | true =>
  have H1:=Lib.hid h1
  cases h2:keywordB s with
  | false =>
   have H2:=Lib.hid h2
   clear h1 h2
   go_enter Tryz.func243,Tryz.ntmps243
   go_wp2_with (first | (have hZ:=H1;clear hZ;go_at_call 198;go_must (refine(show Calls Tryz.prog 198 _ _ (fun e w'=>e=.returned (.bool true)∧_=w') from by have h:=name_any w s HS.out;rw[H1.out] at h;exact h).mono ?_;rintro e w' ⟨rfl,rfl⟩;clear H1)) | (have hZ:=H2;clear hZ;go_at_call 278;go_must (refine(show Calls Tryz.prog 278 _ _ (fun e w'=>e=.returned (.bool false)∧_=w') from by have h:=keyword_any w s;rw[H2.out] at h;exact h).mono ?_;rintro e w' ⟨rfl,rfl⟩;clear H2)))
   go_ret
   exact⟨rfl,rfl⟩
  | true =>
   have H2:=Lib.hid h2
   clear h1 h2
   go_enter Tryz.func243,Tryz.ntmps243
   go_wp2_with (first | (have hZ:=H1;clear hZ;go_at_call 198;go_must (refine(show Calls Tryz.prog 198 _ _ (fun e w'=>e=.returned (.bool true)∧_=w') from by have h:=name_any w s HS.out;rw[H1.out] at h;exact h).mono ?_;rintro e w' ⟨rfl,rfl⟩;clear H1)) | (have hZ:=H2;clear hZ;go_at_call 278;go_must (refine(show Calls Tryz.prog 278 _ _ (fun e w'=>e=.returned (.bool true)∧_=w') from by have h:=keyword_any w s;rw[H2.out] at h;exact h).mono ?_;rintro e w' ⟨rfl,rfl⟩;clear H2)))
   go_ret
   exact⟨rfl,rfl⟩
set_option maxRecDepth 100000 in
set_option maxHeartbeats 4000000 in
theorem identifier_any (w:World) (s:ByteArray) (hs:StrOk s):Calls Tryz.prog 192 #[.string s] w fun e w'=>e=.returned (.bool (identB s))∧w=w':=by
 have HS:=Lib.hid hs
 clear hs
 go_enter Tryz.func192,Tryz.ntmps192
 go_wp2_with (go_at_call 243;go_must (refine(ident_any w s HS.out).mono ?_;rintro e w' ⟨rfl,rfl⟩))
 go_ret
 exact⟨rfl,rfl⟩
end Go.Proofs.YtdcofoaihmongaaGreat
namespace Go.Proofs.YtdcofoaihmongaaGreat
open Go Go.RowKit
theorem SliceAt.front {w:World} {a:Addr} {k n c i:Nat} {cs:List Value} (h:SliceAt w (.slice (some a) n c) k n cs) (hi:i≤n):SliceAt w (.slice (some a) i c) k i (cs.take (i*k)):=by
 obtain⟨h1,h2,h3,⟨h4,h5⟩ | ⟨a',c',h4,h5,h6⟩⟩:=h
 ·cases h4
 ·cases h4
  refine⟨?_,by omega,fun u hu=>h3 u (List.mem_of_mem_take hu),.inr ⟨a,c,rfl,by omega,fun j u hj=>?_⟩⟩
  ·rw[List.length_take,h1]
   exact Nat.min_eq_left (Nat.mul_le_mul_right k hi)
  ·rw[List.getElem?_take] at hj
   split at hj
   ·exact h6 j u hj
   ·cases hj
theorem strs_take (l:List ByteArray) (i:Nat):(l.flatMap strCell).take (i*1)=(l.take i).flatMap strCell:=by
 rw[Nat.mul_one]
 induction l generalizing i with
 | nil=>simp
 | cons x l ih =>
  cases i with
  | zero=>simp
  | succ i=>simp[strCell,List.flatMap_cons,ih]
theorem StrsAt.front {w:World} {a:Addr} {n c i:Nat} {l:List ByteArray} (h:StrsAt w (.slice (some a) n c) l) (hn:n=l.length) (hi:i≤n):StrsAt w (.slice (some a) i c) (l.take i):=by
 subst hn
 have h1:=SliceAt.front h hi
 rw[strs_take] at h1
 unfold StrsAt
 rw[List.length_take,Nat.min_eq_left hi]
 exact h1
theorem StrsAt.open {w:World} {v:Value} {l:List ByteArray} (h:StrsAt w v l):∃ a c,v=.slice a l.length c∧l.length≤c∧l.length≤9223372036854775807∧∀ i s,l[i]?=some s→∃ b off,a=some ⟨b,off,none⟩∧w.cell? ⟨b,off+i,none⟩=some (.string s):=by
 obtain⟨a,c,h1,h2,h3,h4⟩:=SliceAt.form h (by decide)
 refine⟨a,c,h1,h2,h3,fun i s hs=>?_⟩
 have hi:=(List.getElem?_eq_some_iff.1 hs).1
 obtain⟨b,off,ha,hc⟩:=h4 i hi
 have h5:=hc 0 (.string s) (by rw[flat_at strCell_len hs 0 (by decide)];rfl)
 simp only[Nat.mul_one,Nat.add_zero] at h5
 exact⟨b,off,ha,h5⟩
def hasS (l:List ByteArray) (s:ByteArray) (i:Nat):Bool:=match l[i]? with
 | some x=>decide (x.toList=s.toList)
 | none=>false
def hasB (l:List ByteArray) (s:ByteArray):Bool:=someAt (hasS l s) l.length 0
theorem hasS_at {l:List ByteArray} {s x:ByteArray} {i:Nat} (h:l[i]?=some x):hasS l s i=decide (x.toList=s.toList):=by unfold hasS;rw[h]
set_option maxRecDepth 100000 in
set_option maxHeartbeats 4000000 in
theorem hasB_any (w:World) (s:ByteArray) (v:Value) (l:List ByteArray) (h:StrsAt w v l):Calls Tryz.prog 193 #[.string s,v] w fun e w'=>e=.returned (.bool (hasB l s))∧w=w':=by
 obtain⟨a,c,rfl,hc,hm,hcell⟩:=h.open
 obtain⟨n,hn⟩:∃ n,n=l.length:=⟨_,rfl⟩
 have HN:=Lib.hid hn
 have HC:=Lib.hid hcell
 unfold hasB
 rw[← hn] at hc hm ⊢
 clear hcell h hn
 go_enter Tryz.func193,Tryz.ntmps193
 go_wp2_with fail
 go_loopw [5] (fun i wr=>wr=w∧∃ k:Nat,k≤n∧i=.int .i64 k∧Hid (someAt (hasS l s) n 0=someAt (hasS l s) (n-k) k)) (fun i _=>n-(intOf i).toNat)
 case atStart=>exact⟨rfl,0,Nat.zero_le _,rfl,Lib.hid (by rw[Nat.sub_zero])⟩
 case round =>
  obtain⟨rfl,k,hk,rfl,hinv⟩:=hrel
  by_cases hlt:k<n
  ·obtain⟨x,hx⟩:∃ x,l[k]?=some x:=⟨_,List.getElem?_eq_getElem (by rw[← HN.out];exact hlt)⟩
   have HX:=Lib.hid hx
   obtain⟨b,off,rfl,k0⟩:=HC.out k x hx
   clear hx
   by_cases he:x.toList=s.toList
   ·have HB:=Lib.hid (show hasS l s k=true by rw[hasS_at HX.out];simp[he])
    go_wp2_with fail
    go_ret
    exact⟨ret_bool (by rw[hinv.out,someAt_hit hlt HB.out]),rfl⟩
   ·have HB:=Lib.hid (show hasS l s k=false by rw[hasS_at HX.out];simp[he])
    have hb1:(x.toList == s.toList)=false:=by simp[he]
    go_wp2_with fail
    go_roundw
    case rel=>exact⟨by first | trivial | rfl,k+1,by omega,by go_num,Lib.hid (hinv.out.trans (someAt_next hlt HB.out))⟩
    case measure=>simp[intOf];omega
  ·obtain rfl:k=n:=by omega
   go_wp2_with fail
   go_ret
   exact⟨ret_bool (by rw[hinv.out,someAt_stop]),rfl⟩
def namesF (l o:List ByteArray) (i:Nat):Int:=match l[i]? with
 | some s=>if identB s=true then (if hasB (l.take i) s=true then 12 else if hasB o s=true then 12 else 0) else 10
 | none=>0
def namesM (l o:List ByteArray):Int:=firstE (namesF l o) l.length 0
theorem namesF_at {l o:List ByteArray} {s:ByteArray} {i:Nat} (h:l[i]?=some s):namesF l o i=if identB s=true then (if hasB (l.take i) s=true then 12 else if hasB o s=true then 12 else 0) else 10:=by unfold namesF;rw[h]
set_option maxRecDepth 100000 in
set_option maxHeartbeats 4000000 in
theorem names_any (w:World) (v v':Value) (l o:List ByteArray) (h:StrsAt w v l) (ho:StrsAt w v' o) (hok:∀ s∈l,StrOk s):Calls Tryz.prog 101 #[v,v'] w fun e w'=>e=.returned (.int .i64 (namesM l o))∧RowKit.Below w.heap.size w w':=by
 obtain⟨a,c,rfl,hc,hm,hcell⟩:=h.open
 obtain⟨n,hn⟩:∃ n,n=l.length:=⟨_,rfl⟩
 have HN:=Lib.hid hn
 have HC:=Lib.hid hcell
 have HOK:=Lib.hid hok
 have HL0:=Lib.hid h
 have HO0:=Lib.hid ho
 unfold namesM
 rw[← hn] at hc hm HL0 ⊢
 clear hcell h hn ho hok
 go_enter Tryz.func101,Tryz.ntmps101
 go_wp2_with fail
 go_loopw [5] (fun i wr=>∃ k:Nat,k≤n∧i=.int .i64 k∧Hid (firstE (namesF l o) n 0=firstE (namesF l o) (n-k) k)∧RowKit.Below w.heap.size w wr) (fun i _=>n-(intOf i).toNat)
 case atStart=>exact⟨0,Nat.zero_le _,rfl,Lib.hid (by rw[Nat.sub_zero]),Below.refl _ _⟩
 case round =>
  obtain⟨k,hk,rfl,hinv,hbr⟩:=hrel
  have HBR:=Lib.hid hbr
  clear hbr
  by_cases hlt:k<n
  ·obtain⟨s,hs⟩:∃ s,l[k]?=some s:=⟨_,List.getElem?_eq_getElem (by rw[← HN.out];exact hlt)⟩
   have HS:=Lib.hid hs
   have HSO:=Lib.hid (HOK.out s (List.mem_of_getElem? hs))
   obtain⟨b,off,rfl,kc⟩:=HC.out k s hs
   have k0:wr.cell? ⟨b,off+k,none⟩=some (.string s):=cell_later HBR.out kc
   have HK0:=Lib.hid k0
   have HL:=Lib.hid (StrsAt.keep HL0.out HBR.out)
   have HO:=Lib.hid (StrsAt.keep HO0.out HBR.out)
   have HFE:=Lib.hid (namesF_at (o:=o) hs)
   clear hs kc
   cases hi:identB s with
   | false =>
    have HI:=Lib.hid hi
    have HF:=Lib.hid (show namesF l o k=10 by rw[HFE.out,hi];rfl)
    clear hi HFE
    go_wp2_with (have hZ:=HI;clear hZ;go_at_call 192;go_must (refine(show Calls Tryz.prog 192 _ _ (fun e w'=>e=.returned (.bool false)∧wr=w') from by have h:=identifier_any wr s HSO.out;rw[HI.out] at h;exact h).mono ?_;rintro e w' ⟨rfl,rfl⟩;clear HI))
    go_ret
    exact⟨ret_int (by rw[hinv.out,firstE_at hlt (by rw[HF.out];decide),HF.out]),HBR.out⟩
   | true =>
    have HID:=Lib.hid hi
    cases h1:hasB (l.take k) s with
    | true =>
     have H1:=Lib.hid h1
     have HF:=Lib.hid (show namesF l o k=12 by rw[HFE.out,hi,h1];rfl)
     clear hi h1 HFE
     go_upto_region 6 with(have hZ:=HID;clear hZ;go_at_call 192;go_must (refine(show Calls Tryz.prog 192 _ _ (fun e w'=>e=.returned (.bool true)∧wr=w') from by have h:=identifier_any wr s HSO.out;rw[HID.out] at h;exact h).mono ?_;rintro e w' ⟨rfl,rfl⟩;clear HID))
     clear k0
     refine wp_region_goods [some 20,some 21,some 22,some 23,some 24,some 25,some 26,some 27,some 28,some 29,some 30,some 31,some 32,some 33,some 34,some 35] [isW (.slice (some ⟨b,off,none⟩) n c),isW (.int .i64 (k:Int)),isW (.pointer (some ⟨b,off+k,none⟩)),isW (.string s),isW (.slice (some ⟨b,off,none⟩) n c),isW (.int .i64 (k:Int)),isW (.slice (some ⟨b,off,none⟩) k c),isW (.bool true),isW (.bool true),isW (undef),isW (undef),isW (undef),isW (undef),isW (undef),isW (undef),isW (.bool true)] (fun _ w'=>RowKit.Below wr.heap.size wr w') [] (by kernel_rfl) (by kernel_rfl) (by kernel_rfl) rfl (by decide) rfl rfl ((Below.refl _ _).drew) ⟨lastsW_is _,lastsW_is _,lastsW_is _,lastsW_is _,lastsW_is _,lastsW_is _,lastsW_is _,lastsW_is _,lastsW_is _,lastsW_is _,lastsW_is _,lastsW_is _,lastsW_is _,lastsW_is _,lastsW_is _,lastsW_is _,trivial⟩ ⟨?_,?_,?_,?_,?_,?_,?_,?_,?_,?_,?_,?_,?_,?_,?_,?_,?_⟩
     ·intro L a wy Q' hL hi H F hK
      try dsimp only at hi
      have h0:a.tmps[0]?=some (.slice (some ⟨b,off,none⟩) n c):=F 0 rfl
      have HI:=Lib.hid hi
      clear H F hi hL
      go_wp2_with fail
      exact hK _ _ (Below.refl _ _) HI.out rfl
     ·intro L a wy Q' hL hi H F hK
      try dsimp only at hi
      have h5:a.tmps[5]?=some (.int .i64 (k:Int)):=F 5 rfl
      have HI:=Lib.hid hi
      clear H F hi hL
      go_wp2_with fail
      exact hK _ _ (Below.refl _ _) HI.out rfl
     ·intro L a wy Q' hL hi H F hK
      try dsimp only at hi
      obtain⟨_,h20,rfl⟩:=H 0 ⟨.data,by simp,rfl⟩ _ rfl
      replace h20:=h20 _ rfl
      obtain⟨_,h21,rfl⟩:=H 1 ⟨.data,by simp,rfl⟩ _ rfl
      replace h21:=h21 _ rfl
      have HI:=Lib.hid hi
      clear H F hi hL
      go_wp2_with fail
      exact hK _ _ (Below.refl _ _) HI.out rfl
     ·intro L a wy Q' hL hi H F hK
      try dsimp only at hi
      obtain⟨_,h22,rfl⟩:=H 2 ⟨.data,by simp,rfl⟩ _ rfl
      replace h22:=h22 _ rfl
      have HI:=Lib.hid hi
      clear H F hi hL
      have kk:wy.cell? ⟨b,off+k,none⟩=some (.string s):=cell_later HI.out HK0.out
      go_wp2_with fail
      exact hK _ _ (Below.refl _ _) HI.out rfl
     ·intro L a wy Q' hL hi H F hK
      try dsimp only at hi
      have h0:a.tmps[0]?=some (.slice (some ⟨b,off,none⟩) n c):=F 0 rfl
      have HI:=Lib.hid hi
      clear H F hi hL
      go_wp2_with fail
      exact hK _ _ (Below.refl _ _) HI.out rfl
     ·intro L a wy Q' hL hi H F hK
      try dsimp only at hi
      have h5:a.tmps[5]?=some (.int .i64 (k:Int)):=F 5 rfl
      have HI:=Lib.hid hi
      clear H F hi hL
      go_wp2_with fail
      exact hK _ _ (Below.refl _ _) HI.out rfl
     ·intro L a wy Q' hL hi H F hK
      try dsimp only at hi
      obtain⟨_,h24,rfl⟩:=H 4 ⟨.data,by simp,rfl⟩ _ rfl
      replace h24:=h24 _ rfl
      obtain⟨_,h25,rfl⟩:=H 5 ⟨.data,by simp,rfl⟩ _ rfl
      replace h25:=h25 _ rfl
      have HI:=Lib.hid hi
      clear H F hi hL
      go_wp2_with fail
      exact hK _ _ (Below.refl _ _) HI.out rfl
     ·intro L a wy Q' hL hi H F hK
      try dsimp only at hi
      obtain⟨_,h23,rfl⟩:=H 3 ⟨.data,by simp,rfl⟩ _ rfl
      replace h23:=h23 _ rfl
      obtain⟨_,h26,rfl⟩:=H 6 ⟨.data,by simp,rfl⟩ _ rfl
      replace h26:=h26 _ rfl
      have HI:=Lib.hid hi
      clear H F hi hL
      have HK:=Lib.hid hK
      clear hK
      go_wp2_with (go_at_call 193;go_must (refine(show Calls Tryz.prog 193 _ _ (fun e w'=>e=.returned (.bool true)∧wy=w') from by have h:=hasB_any wy s _ _ ((StrsAt.front HL.out HN.out (Nat.le_of_lt hlt)).keep HI.out);rw[H1.out] at h;exact h).mono ?_;rintro e w1 ⟨rfl,rfl⟩))
      exact HK.out _ _ (Below.refl _ _) HI.out rfl
     ·intro L a wy Q' hL hi H F hK
      try dsimp only at hi
      obtain⟨_,h27,rfl⟩:=H 7 ⟨.data,by simp,rfl⟩ _ rfl
      replace h27:=h27 _ rfl
      have HI:=Lib.hid hi
      clear H F hi hL
      go_wp2_with fail
      exact hK _ _ (Below.refl _ _) HI.out rfl
     ·intro L a wy Q' hL hi H F hK
      try dsimp only at hi
      obtain⟨_,h28,rfl⟩:=H 8 ⟨.guard,by simp,rfl⟩ _ rfl
      replace h28:=h28 _ rfl
      have h0:a.tmps[0]?=some (.slice (some ⟨b,off,none⟩) n c):=F 0 rfl
      have HI:=Lib.hid hi
      clear H F hi hL
      refine wpList_skip (by simp[Region.wanted,yielded,h28]) ?_
      exact hK _ _ (Below.refl _ _) HI.out rfl
     ·intro L a wy Q' hL hi H F hK
      try dsimp only at hi
      obtain⟨_,h28,rfl⟩:=H 8 ⟨.guard,by simp,rfl⟩ _ rfl
      replace h28:=h28 _ rfl
      have h5:a.tmps[5]?=some (.int .i64 (k:Int)):=F 5 rfl
      have HI:=Lib.hid hi
      clear H F hi hL
      refine wpList_skip (by simp[Region.wanted,yielded,h28]) ?_
      exact hK _ _ (Below.refl _ _) HI.out rfl
     ·intro L a wy Q' hL hi H F hK
      try dsimp only at hi
      obtain⟨_,h29,rfl⟩:=H 9 ⟨.data,by simp,rfl⟩ _ rfl
      replace h29:=h29 _ rfl
      obtain⟨_,h30,rfl⟩:=H 10 ⟨.data,by simp,rfl⟩ _ rfl
      replace h30:=h30 _ rfl
      obtain⟨_,h28,rfl⟩:=H 8 ⟨.guard,by simp,rfl⟩ _ rfl
      replace h28:=h28 _ rfl
      have HI:=Lib.hid hi
      clear H F hi hL
      refine wpList_skip (by simp[Region.wanted,yielded,h28]) ?_
      exact hK _ _ (Below.refl _ _) HI.out rfl
     ·intro L a wy Q' hL hi H F hK
      try dsimp only at hi
      obtain⟨_,h31,rfl⟩:=H 11 ⟨.data,by simp,rfl⟩ _ rfl
      replace h31:=h31 _ rfl
      obtain⟨_,h28,rfl⟩:=H 8 ⟨.guard,by simp,rfl⟩ _ rfl
      replace h28:=h28 _ rfl
      have HI:=Lib.hid hi
      clear H F hi hL
      refine wpList_skip (by simp[Region.wanted,yielded,h28]) ?_
      exact hK _ _ (Below.refl _ _) HI.out rfl
     ·intro L a wy Q' hL hi H F hK
      try dsimp only at hi
      obtain⟨_,h28,rfl⟩:=H 8 ⟨.guard,by simp,rfl⟩ _ rfl
      replace h28:=h28 _ rfl
      have h1:a.tmps[1]?=some (v'):=F 1 rfl
      have HI:=Lib.hid hi
      clear H F hi hL
      refine wpList_skip (by simp[Region.wanted,yielded,h28]) ?_
      exact hK _ _ (Below.refl _ _) HI.out rfl
     ·intro L a wy Q' hL hi H F hK
      try dsimp only at hi
      obtain⟨_,h32,rfl⟩:=H 12 ⟨.data,by simp,rfl⟩ _ rfl
      replace h32:=h32 _ rfl
      obtain⟨_,h33,rfl⟩:=H 13 ⟨.data,by simp,rfl⟩ _ rfl
      replace h33:=h33 _ rfl
      obtain⟨_,h28,rfl⟩:=H 8 ⟨.guard,by simp,rfl⟩ _ rfl
      replace h28:=h28 _ rfl
      have HI:=Lib.hid hi
      clear H F hi hL
      refine wpList_skip (by simp[Region.wanted,yielded,h28]) ?_
      exact hK _ _ (Below.refl _ _) HI.out rfl
     ·intro L a wy Q' hL hi H F hK
      try dsimp only at hi
      obtain⟨_,h28,rfl⟩:=H 8 ⟨.data,by simp,rfl⟩ _ rfl
      replace h28:=h28 _ rfl
      obtain⟨_,h34,rfl⟩:=H 14 ⟨.data,by simp,rfl⟩ _ rfl
      replace h34:=h34 _ rfl
      have HI:=Lib.hid hi
      clear H F hi hL
      go_wp2_with fail
      exact hK _ _ (Below.refl _ _) HI.out rfl
     ·intro a wy L hl hi hL Q' hK
      try dsimp only at hi
      have HB:=Lib.hid hi
      clear hi hL
      obtain⟨_,rfl,_,rfl,_,rfl,_,rfl,_,rfl,_,rfl,_,rfl,_,rfl,_,rfl,_,rfl,_,rfl,_,rfl,_,rfl,_,rfl,_,rfl,_,rfl,rfl⟩:=hl
      simp only[List.setIfInBounds_toArray,List.set_cons_zero,List.set_cons_succ]
      go_wp2_with fail
      go_ret
      exact⟨ret_int (by rw[hinv.out,firstE_at hlt (by rw[HF.out];decide),HF.out]),HBR.out.trans (HB.out.mono HBR.out.size)⟩
    | false =>
     have H1:=Lib.hid h1
     cases h2:hasB o s with
     | true =>
      have H2:=Lib.hid h2
      have HF:=Lib.hid (show namesF l o k=12 by rw[HFE.out,hi,h1,h2];rfl)
      clear hi h1 h2 HFE
      go_upto_region 6 with(have hZ:=HID;clear hZ;go_at_call 192;go_must (refine(show Calls Tryz.prog 192 _ _ (fun e w'=>e=.returned (.bool true)∧wr=w') from by have h:=identifier_any wr s HSO.out;rw[HID.out] at h;exact h).mono ?_;rintro e w' ⟨rfl,rfl⟩;clear HID))
      clear k0
      refine wp_region_goods [some 20,some 21,some 22,some 23,some 24,some 25,some 26,some 27,some 28,some 29,some 30,some 31,some 32,some 33,some 34,some 35] [isW (.slice (some ⟨b,off,none⟩) n c),isW (.int .i64 (k:Int)),isW (.pointer (some ⟨b,off+k,none⟩)),isW (.string s),isW (.slice (some ⟨b,off,none⟩) n c),isW (.int .i64 (k:Int)),isW (.slice (some ⟨b,off,none⟩) k c),isW (.bool false),isW (.bool false),isW (.slice (some ⟨b,off,none⟩) n c),isW (.int .i64 (k:Int)),isW (.pointer (some ⟨b,off+k,none⟩)),isW (.string s),isW (v'),isW (.bool true),isW (.bool true)] (fun _ w'=>RowKit.Below wr.heap.size wr w') [] (by kernel_rfl) (by kernel_rfl) (by kernel_rfl) rfl (by decide) rfl rfl ((Below.refl _ _).drew) ⟨lastsW_is _,lastsW_is _,lastsW_is _,lastsW_is _,lastsW_is _,lastsW_is _,lastsW_is _,lastsW_is _,lastsW_is _,lastsW_is _,lastsW_is _,lastsW_is _,lastsW_is _,lastsW_is _,lastsW_is _,lastsW_is _,trivial⟩ ⟨?_,?_,?_,?_,?_,?_,?_,?_,?_,?_,?_,?_,?_,?_,?_,?_,?_⟩
      ·intro L a wy Q' hL hi H F hK
       try dsimp only at hi
       have h0:a.tmps[0]?=some (.slice (some ⟨b,off,none⟩) n c):=F 0 rfl
       have HI:=Lib.hid hi
       clear H F hi hL
       go_wp2_with fail
       exact hK _ _ (Below.refl _ _) HI.out rfl
      ·intro L a wy Q' hL hi H F hK
       try dsimp only at hi
       have h5:a.tmps[5]?=some (.int .i64 (k:Int)):=F 5 rfl
       have HI:=Lib.hid hi
       clear H F hi hL
       go_wp2_with fail
       exact hK _ _ (Below.refl _ _) HI.out rfl
      ·intro L a wy Q' hL hi H F hK
       try dsimp only at hi
       obtain⟨_,h20,rfl⟩:=H 0 ⟨.data,by simp,rfl⟩ _ rfl
       replace h20:=h20 _ rfl
       obtain⟨_,h21,rfl⟩:=H 1 ⟨.data,by simp,rfl⟩ _ rfl
       replace h21:=h21 _ rfl
       have HI:=Lib.hid hi
       clear H F hi hL
       go_wp2_with fail
       exact hK _ _ (Below.refl _ _) HI.out rfl
      ·intro L a wy Q' hL hi H F hK
       try dsimp only at hi
       obtain⟨_,h22,rfl⟩:=H 2 ⟨.data,by simp,rfl⟩ _ rfl
       replace h22:=h22 _ rfl
       have HI:=Lib.hid hi
       clear H F hi hL
       have kk:wy.cell? ⟨b,off+k,none⟩=some (.string s):=cell_later HI.out HK0.out
       go_wp2_with fail
       exact hK _ _ (Below.refl _ _) HI.out rfl
      ·intro L a wy Q' hL hi H F hK
       try dsimp only at hi
       have h0:a.tmps[0]?=some (.slice (some ⟨b,off,none⟩) n c):=F 0 rfl
       have HI:=Lib.hid hi
       clear H F hi hL
       go_wp2_with fail
       exact hK _ _ (Below.refl _ _) HI.out rfl
      ·intro L a wy Q' hL hi H F hK
       try dsimp only at hi
       have h5:a.tmps[5]?=some (.int .i64 (k:Int)):=F 5 rfl
       have HI:=Lib.hid hi
       clear H F hi hL
       go_wp2_with fail
       exact hK _ _ (Below.refl _ _) HI.out rfl
      ·intro L a wy Q' hL hi H F hK
       try dsimp only at hi
       obtain⟨_,h24,rfl⟩:=H 4 ⟨.data,by simp,rfl⟩ _ rfl
       replace h24:=h24 _ rfl
       obtain⟨_,h25,rfl⟩:=H 5 ⟨.data,by simp,rfl⟩ _ rfl
       replace h25:=h25 _ rfl
       have HI:=Lib.hid hi
       clear H F hi hL
       go_wp2_with fail
       exact hK _ _ (Below.refl _ _) HI.out rfl
      ·intro L a wy Q' hL hi H F hK
       try dsimp only at hi
       obtain⟨_,h23,rfl⟩:=H 3 ⟨.data,by simp,rfl⟩ _ rfl
       replace h23:=h23 _ rfl
       obtain⟨_,h26,rfl⟩:=H 6 ⟨.data,by simp,rfl⟩ _ rfl
       replace h26:=h26 _ rfl
       have HI:=Lib.hid hi
       clear H F hi hL
       have HK:=Lib.hid hK
       clear hK
       go_wp2_with (go_at_call 193;go_must (refine(show Calls Tryz.prog 193 _ _ (fun e w'=>e=.returned (.bool false)∧wy=w') from by have h:=hasB_any wy s _ _ ((StrsAt.front HL.out HN.out (Nat.le_of_lt hlt)).keep HI.out);rw[H1.out] at h;exact h).mono ?_;rintro e w1 ⟨rfl,rfl⟩))
       exact HK.out _ _ (Below.refl _ _) HI.out rfl
      ·intro L a wy Q' hL hi H F hK
       try dsimp only at hi
       obtain⟨_,h27,rfl⟩:=H 7 ⟨.data,by simp,rfl⟩ _ rfl
       replace h27:=h27 _ rfl
       have HI:=Lib.hid hi
       clear H F hi hL
       go_wp2_with fail
       exact hK _ _ (Below.refl _ _) HI.out rfl
      ·intro L a wy Q' hL hi H F hK
       try dsimp only at hi
       obtain⟨_,h28,rfl⟩:=H 8 ⟨.guard,by simp,rfl⟩ _ rfl
       replace h28:=h28 _ rfl
       have h0:a.tmps[0]?=some (.slice (some ⟨b,off,none⟩) n c):=F 0 rfl
       have HI:=Lib.hid hi
       clear H F hi hL
       go_wp2_with fail
       exact hK _ _ (Below.refl _ _) HI.out rfl
      ·intro L a wy Q' hL hi H F hK
       try dsimp only at hi
       obtain⟨_,h28,rfl⟩:=H 8 ⟨.guard,by simp,rfl⟩ _ rfl
       replace h28:=h28 _ rfl
       have h5:a.tmps[5]?=some (.int .i64 (k:Int)):=F 5 rfl
       have HI:=Lib.hid hi
       clear H F hi hL
       go_wp2_with fail
       exact hK _ _ (Below.refl _ _) HI.out rfl
      ·intro L a wy Q' hL hi H F hK
       try dsimp only at hi
       obtain⟨_,h29,rfl⟩:=H 9 ⟨.data,by simp,rfl⟩ _ rfl
       replace h29:=h29 _ rfl
       obtain⟨_,h30,rfl⟩:=H 10 ⟨.data,by simp,rfl⟩ _ rfl
       replace h30:=h30 _ rfl
       obtain⟨_,h28,rfl⟩:=H 8 ⟨.guard,by simp,rfl⟩ _ rfl
       replace h28:=h28 _ rfl
       have HI:=Lib.hid hi
       clear H F hi hL
       go_wp2_with fail
       exact hK _ _ (Below.refl _ _) HI.out rfl
      ·intro L a wy Q' hL hi H F hK
       try dsimp only at hi
       obtain⟨_,h31,rfl⟩:=H 11 ⟨.data,by simp,rfl⟩ _ rfl
       replace h31:=h31 _ rfl
       obtain⟨_,h28,rfl⟩:=H 8 ⟨.guard,by simp,rfl⟩ _ rfl
       replace h28:=h28 _ rfl
       have HI:=Lib.hid hi
       clear H F hi hL
       have kk:wy.cell? ⟨b,off+k,none⟩=some (.string s):=cell_later HI.out HK0.out
       go_wp2_with fail
       exact hK _ _ (Below.refl _ _) HI.out rfl
      ·intro L a wy Q' hL hi H F hK
       try dsimp only at hi
       obtain⟨_,h28,rfl⟩:=H 8 ⟨.guard,by simp,rfl⟩ _ rfl
       replace h28:=h28 _ rfl
       have h1:a.tmps[1]?=some (v'):=F 1 rfl
       have HI:=Lib.hid hi
       clear H F hi hL
       go_wp2_with fail
       exact hK _ _ (Below.refl _ _) HI.out rfl
      ·intro L a wy Q' hL hi H F hK
       try dsimp only at hi
       obtain⟨_,h32,rfl⟩:=H 12 ⟨.data,by simp,rfl⟩ _ rfl
       replace h32:=h32 _ rfl
       obtain⟨_,h33,rfl⟩:=H 13 ⟨.data,by simp,rfl⟩ _ rfl
       replace h33:=h33 _ rfl
       obtain⟨_,h28,rfl⟩:=H 8 ⟨.guard,by simp,rfl⟩ _ rfl
       replace h28:=h28 _ rfl
       have HI:=Lib.hid hi
       clear H F hi hL
       have HK:=Lib.hid hK
       clear hK
       go_wp2_with (go_at_call 193;go_must (refine(show Calls Tryz.prog 193 _ _ (fun e w'=>e=.returned (.bool true)∧wy=w') from by have h:=hasB_any wy s _ _ (HO.out.keep HI.out);rw[H2.out] at h;exact h).mono ?_;rintro e w1 ⟨rfl,rfl⟩))
       exact HK.out _ _ (Below.refl _ _) HI.out rfl
      ·intro L a wy Q' hL hi H F hK
       try dsimp only at hi
       obtain⟨_,h28,rfl⟩:=H 8 ⟨.data,by simp,rfl⟩ _ rfl
       replace h28:=h28 _ rfl
       obtain⟨_,h34,rfl⟩:=H 14 ⟨.data,by simp,rfl⟩ _ rfl
       replace h34:=h34 _ rfl
       have HI:=Lib.hid hi
       clear H F hi hL
       go_wp2_with fail
       exact hK _ _ (Below.refl _ _) HI.out rfl
      ·intro a wy L hl hi hL Q' hK
       try dsimp only at hi
       have HB:=Lib.hid hi
       clear hi hL
       obtain⟨_,rfl,_,rfl,_,rfl,_,rfl,_,rfl,_,rfl,_,rfl,_,rfl,_,rfl,_,rfl,_,rfl,_,rfl,_,rfl,_,rfl,_,rfl,_,rfl,rfl⟩:=hl
       simp only[List.setIfInBounds_toArray,List.set_cons_zero,List.set_cons_succ]
       go_wp2_with fail
       go_ret
       exact⟨ret_int (by rw[hinv.out,firstE_at hlt (by rw[HF.out];decide),HF.out]),HBR.out.trans (HB.out.mono HBR.out.size)⟩
     | false =>
      have H2:=Lib.hid h2
      have HF:=Lib.hid (show namesF l o k=0 by rw[HFE.out,hi,h1,h2];rfl)
      clear hi h1 h2 HFE
      go_upto_region 6 with(have hZ:=HID;clear hZ;go_at_call 192;go_must (refine(show Calls Tryz.prog 192 _ _ (fun e w'=>e=.returned (.bool true)∧wr=w') from by have h:=identifier_any wr s HSO.out;rw[HID.out] at h;exact h).mono ?_;rintro e w' ⟨rfl,rfl⟩;clear HID))
      clear k0
      refine wp_region_goods [some 20,some 21,some 22,some 23,some 24,some 25,some 26,some 27,some 28,some 29,some 30,some 31,some 32,some 33,some 34,some 35] [isW (.slice (some ⟨b,off,none⟩) n c),isW (.int .i64 (k:Int)),isW (.pointer (some ⟨b,off+k,none⟩)),isW (.string s),isW (.slice (some ⟨b,off,none⟩) n c),isW (.int .i64 (k:Int)),isW (.slice (some ⟨b,off,none⟩) k c),isW (.bool false),isW (.bool false),isW (.slice (some ⟨b,off,none⟩) n c),isW (.int .i64 (k:Int)),isW (.pointer (some ⟨b,off+k,none⟩)),isW (.string s),isW (v'),isW (.bool false),isW (.bool false)] (fun _ w'=>RowKit.Below wr.heap.size wr w') [] (by kernel_rfl) (by kernel_rfl) (by kernel_rfl) rfl (by decide) rfl rfl ((Below.refl _ _).drew) ⟨lastsW_is _,lastsW_is _,lastsW_is _,lastsW_is _,lastsW_is _,lastsW_is _,lastsW_is _,lastsW_is _,lastsW_is _,lastsW_is _,lastsW_is _,lastsW_is _,lastsW_is _,lastsW_is _,lastsW_is _,lastsW_is _,trivial⟩ ⟨?_,?_,?_,?_,?_,?_,?_,?_,?_,?_,?_,?_,?_,?_,?_,?_,?_⟩
      ·intro L a wy Q' hL hi H F hK
       try dsimp only at hi
       have h0:a.tmps[0]?=some (.slice (some ⟨b,off,none⟩) n c):=F 0 rfl
       have HI:=Lib.hid hi
       clear H F hi hL
       go_wp2_with fail
       exact hK _ _ (Below.refl _ _) HI.out rfl
      ·intro L a wy Q' hL hi H F hK
       try dsimp only at hi
       have h5:a.tmps[5]?=some (.int .i64 (k:Int)):=F 5 rfl
       have HI:=Lib.hid hi
       clear H F hi hL
       go_wp2_with fail
       exact hK _ _ (Below.refl _ _) HI.out rfl
      ·intro L a wy Q' hL hi H F hK
       try dsimp only at hi
       obtain⟨_,h20,rfl⟩:=H 0 ⟨.data,by simp,rfl⟩ _ rfl
       replace h20:=h20 _ rfl
       obtain⟨_,h21,rfl⟩:=H 1 ⟨.data,by simp,rfl⟩ _ rfl
       replace h21:=h21 _ rfl
       have HI:=Lib.hid hi
       clear H F hi hL
       go_wp2_with fail
       exact hK _ _ (Below.refl _ _) HI.out rfl
      ·intro L a wy Q' hL hi H F hK
       try dsimp only at hi
       obtain⟨_,h22,rfl⟩:=H 2 ⟨.data,by simp,rfl⟩ _ rfl
       replace h22:=h22 _ rfl
       have HI:=Lib.hid hi
       clear H F hi hL
       have kk:wy.cell? ⟨b,off+k,none⟩=some (.string s):=cell_later HI.out HK0.out
       go_wp2_with fail
       exact hK _ _ (Below.refl _ _) HI.out rfl
      ·intro L a wy Q' hL hi H F hK
       try dsimp only at hi
       have h0:a.tmps[0]?=some (.slice (some ⟨b,off,none⟩) n c):=F 0 rfl
       have HI:=Lib.hid hi
       clear H F hi hL
       go_wp2_with fail
       exact hK _ _ (Below.refl _ _) HI.out rfl
      ·intro L a wy Q' hL hi H F hK
       try dsimp only at hi
       have h5:a.tmps[5]?=some (.int .i64 (k:Int)):=F 5 rfl
       have HI:=Lib.hid hi
       clear H F hi hL
       go_wp2_with fail
       exact hK _ _ (Below.refl _ _) HI.out rfl
      ·intro L a wy Q' hL hi H F hK
       try dsimp only at hi
       obtain⟨_,h24,rfl⟩:=H 4 ⟨.data,by simp,rfl⟩ _ rfl
       replace h24:=h24 _ rfl
       obtain⟨_,h25,rfl⟩:=H 5 ⟨.data,by simp,rfl⟩ _ rfl
       replace h25:=h25 _ rfl
       have HI:=Lib.hid hi
       clear H F hi hL
       go_wp2_with fail
       exact hK _ _ (Below.refl _ _) HI.out rfl
      ·intro L a wy Q' hL hi H F hK
       try dsimp only at hi
       obtain⟨_,h23,rfl⟩:=H 3 ⟨.data,by simp,rfl⟩ _ rfl
       replace h23:=h23 _ rfl
       obtain⟨_,h26,rfl⟩:=H 6 ⟨.data,by simp,rfl⟩ _ rfl
       replace h26:=h26 _ rfl
       have HI:=Lib.hid hi
       clear H F hi hL
       have HK:=Lib.hid hK
       clear hK
       go_wp2_with (go_at_call 193;go_must (refine(show Calls Tryz.prog 193 _ _ (fun e w'=>e=.returned (.bool false)∧wy=w') from by have h:=hasB_any wy s _ _ ((StrsAt.front HL.out HN.out (Nat.le_of_lt hlt)).keep HI.out);rw[H1.out] at h;exact h).mono ?_;rintro e w1 ⟨rfl,rfl⟩))
       exact HK.out _ _ (Below.refl _ _) HI.out rfl
      ·intro L a wy Q' hL hi H F hK
       try dsimp only at hi
       obtain⟨_,h27,rfl⟩:=H 7 ⟨.data,by simp,rfl⟩ _ rfl
       replace h27:=h27 _ rfl
       have HI:=Lib.hid hi
       clear H F hi hL
       go_wp2_with fail
       exact hK _ _ (Below.refl _ _) HI.out rfl
      ·intro L a wy Q' hL hi H F hK
       try dsimp only at hi
       obtain⟨_,h28,rfl⟩:=H 8 ⟨.guard,by simp,rfl⟩ _ rfl
       replace h28:=h28 _ rfl
       have h0:a.tmps[0]?=some (.slice (some ⟨b,off,none⟩) n c):=F 0 rfl
       have HI:=Lib.hid hi
       clear H F hi hL
       go_wp2_with fail
       exact hK _ _ (Below.refl _ _) HI.out rfl
      ·intro L a wy Q' hL hi H F hK
       try dsimp only at hi
       obtain⟨_,h28,rfl⟩:=H 8 ⟨.guard,by simp,rfl⟩ _ rfl
       replace h28:=h28 _ rfl
       have h5:a.tmps[5]?=some (.int .i64 (k:Int)):=F 5 rfl
       have HI:=Lib.hid hi
       clear H F hi hL
       go_wp2_with fail
       exact hK _ _ (Below.refl _ _) HI.out rfl
      ·intro L a wy Q' hL hi H F hK
       try dsimp only at hi
       obtain⟨_,h29,rfl⟩:=H 9 ⟨.data,by simp,rfl⟩ _ rfl
       replace h29:=h29 _ rfl
       obtain⟨_,h30,rfl⟩:=H 10 ⟨.data,by simp,rfl⟩ _ rfl
       replace h30:=h30 _ rfl
       obtain⟨_,h28,rfl⟩:=H 8 ⟨.guard,by simp,rfl⟩ _ rfl
       replace h28:=h28 _ rfl
       have HI:=Lib.hid hi
       clear H F hi hL
       go_wp2_with fail
       exact hK _ _ (Below.refl _ _) HI.out rfl
      ·intro L a wy Q' hL hi H F hK
       try dsimp only at hi
       obtain⟨_,h31,rfl⟩:=H 11 ⟨.data,by simp,rfl⟩ _ rfl
       replace h31:=h31 _ rfl
       obtain⟨_,h28,rfl⟩:=H 8 ⟨.guard,by simp,rfl⟩ _ rfl
       replace h28:=h28 _ rfl
       have HI:=Lib.hid hi
       clear H F hi hL
       have kk:wy.cell? ⟨b,off+k,none⟩=some (.string s):=cell_later HI.out HK0.out
       go_wp2_with fail
       exact hK _ _ (Below.refl _ _) HI.out rfl
      ·intro L a wy Q' hL hi H F hK
       try dsimp only at hi
       obtain⟨_,h28,rfl⟩:=H 8 ⟨.guard,by simp,rfl⟩ _ rfl
       replace h28:=h28 _ rfl
       have h1:a.tmps[1]?=some (v'):=F 1 rfl
       have HI:=Lib.hid hi
       clear H F hi hL
       go_wp2_with fail
       exact hK _ _ (Below.refl _ _) HI.out rfl
      ·intro L a wy Q' hL hi H F hK
       try dsimp only at hi
       obtain⟨_,h32,rfl⟩:=H 12 ⟨.data,by simp,rfl⟩ _ rfl
       replace h32:=h32 _ rfl
       obtain⟨_,h33,rfl⟩:=H 13 ⟨.data,by simp,rfl⟩ _ rfl
       replace h33:=h33 _ rfl
       obtain⟨_,h28,rfl⟩:=H 8 ⟨.guard,by simp,rfl⟩ _ rfl
       replace h28:=h28 _ rfl
       have HI:=Lib.hid hi
       clear H F hi hL
       have HK:=Lib.hid hK
       clear hK
       go_wp2_with (go_at_call 193;go_must (refine(show Calls Tryz.prog 193 _ _ (fun e w'=>e=.returned (.bool false)∧wy=w') from by have h:=hasB_any wy s _ _ (HO.out.keep HI.out);rw[H2.out] at h;exact h).mono ?_;rintro e w1 ⟨rfl,rfl⟩))
       exact HK.out _ _ (Below.refl _ _) HI.out rfl
      ·intro L a wy Q' hL hi H F hK
       try dsimp only at hi
       obtain⟨_,h28,rfl⟩:=H 8 ⟨.data,by simp,rfl⟩ _ rfl
       replace h28:=h28 _ rfl
       obtain⟨_,h34,rfl⟩:=H 14 ⟨.data,by simp,rfl⟩ _ rfl
       replace h34:=h34 _ rfl
       have HI:=Lib.hid hi
       clear H F hi hL
       go_wp2_with fail
       exact hK _ _ (Below.refl _ _) HI.out rfl
      ·intro a wy L hl hi hL Q' hK
       try dsimp only at hi
       have HB:=Lib.hid hi
       clear hi hL
       obtain⟨_,rfl,_,rfl,_,rfl,_,rfl,_,rfl,_,rfl,_,rfl,_,rfl,_,rfl,_,rfl,_,rfl,_,rfl,_,rfl,_,rfl,_,rfl,_,rfl,rfl⟩:=hl
       simp only[List.setIfInBounds_toArray,List.set_cons_zero,List.set_cons_succ]
       go_wp2_with fail
       go_roundw
       case rel=>exact⟨k+1,by omega,by go_num,Lib.hid (hinv.out.trans (firstE_next hlt HF.out)),HBR.out.trans (HB.out.mono HBR.out.size)⟩
       case measure=>simp[intOf];omega
  ·obtain rfl:k=n:=by omega
   go_wp2_with fail
   go_ret
   exact⟨ret_int (by rw[hinv.out,firstE_stop]),HBR.out⟩
end Go.Proofs.YtdcofoaihmongaaGreat
namespace Go.Proofs.YtdcofoaihmongaaGreat
open Go Go.RowKit
theorem size39:(Tryz.prog.info? 39).map (·.size)=some 17:=by kernel_rfl
theorem size56:(Tryz.prog.info? 56).map (·.size)=some 13:=by kernel_rfl
theorem size89:(Tryz.prog.info? 89).map (·.size)=some 10:=by kernel_rfl
theorem size91:(Tryz.prog.info? 91).map (·.size)=some 13:=by kernel_rfl
theorem size129:(Tryz.prog.info? 129).map (·.size)=some 10:=by kernel_rfl
theorem all_ok (n:Nat):(ASet.all n).Ok:=allN_ok _
def someB (s:ASet):Bool:=!(decide (s=ASet.zero))
set_option maxRecDepth 100000 in
set_option maxHeartbeats 4000000 in
theorem some_any (w:World) (s:ASet) (hs:s.Ok) (n:Nat) (hn:n≤140737488355328):Calls Tryz.prog 103 #[.agg #[.int .u64 s.a,.int .u64 s.b,.int .u64 s.c,.int .u64 s.d],.int .i64 (n:Int)] w fun e w'=>e=.returned (.tuple #[.bool (someB s),.bool (s.within (ASet.all n))])∧RowKit.Below w.heap.size w w':=by
 have HOK:=Lib.hid hs
 clear hs
 obtain⟨b1,hb1⟩:∃ b1,b1=someB s:=⟨_,rfl⟩
 obtain⟨b2,hb2⟩:∃ b2,b2=s.within (ASet.all n):=⟨_,rfl⟩
 have HB2:=Lib.hid hb2
 obtain⟨q,hq⟩:∃ q,q=decide (s=ASet.zero):=⟨_,rfl⟩
 have HQ:=Lib.hid (show ∀ W,(Op.equalIn 10000 54 (.agg #[.int .u64 s.a,.int .u64 s.b,.int .u64 s.c,.int .u64 s.d]) (.agg #[.int .u64 0,.int .u64 0,.int .u64 0,.int .u64 0])).run Tryz.prog W=.ok q W from by rw[hq];exact within_eq s)
 have HB1:=Lib.hid (show b1=(!q) by rw[hb1,hq];rfl)
 rw[← hb1,← hb2]
 clear hb1 hb2 hq
 obtain⟨wo,hwo⟩:∃ wo,wo=(w).alloc (.cells #[.int .u64 s.a,.int .u64 s.b,.int .u64 s.c,.int .u64 s.d] 54):=⟨_,rfl⟩
 have W0:=Lib.hid (show Whole wo w.heap.size 54 #[.int .u64 s.a,.int .u64 s.b,.int .u64 s.c,.int .u64 s.d] by rw[hwo];exact(Whole.new w 54 _))
 have HBO:=Lib.hid (show RowKit.Below w.heap.size w wo by rw[hwo];exact((Below.refl _ w).alloc (Nat.le_refl _) _))
 go_enter Tryz.func103,Tryz.ntmps103
 go_upto_region 1 with(fail)
 rw[← hwo]
 clear hwo
 refine wp_region_goods [some 6,some 7,some 8,some 9,some 10,some 11,some 12,some 4] [isW (.agg #[.int .u64 s.a,.int .u64 s.b,.int .u64 s.c,.int .u64 s.d]),isW (.agg #[.int .u64 0,.int .u64 0,.int .u64 0,.int .u64 0]),isW (.bool b1),isW (.agg #[.int .u64 s.a,.int .u64 s.b,.int .u64 s.c,.int .u64 s.d]),isW (.int .i64 (n:Int)),isW (.agg #[.int .u64 (ASet.all n).a,.int .u64 (ASet.all n).b,.int .u64 (ASet.all n).c,.int .u64 (ASet.all n).d]),isW (.bool b2),isW (.bool b1)] (fun _ w'=>RowKit.Below wo.heap.size wo w') [] (by kernel_rfl) (by kernel_rfl) (by kernel_rfl) rfl (by decide) rfl rfl ((Below.refl _ _).drew) ⟨lastsW_is _,lastsW_is _,lastsW_is _,lastsW_is _,lastsW_is _,lastsW_is _,lastsW_is _,lastsW_is _,trivial⟩ ⟨?_,?_,?_,?_,?_,?_,?_,?_,?_⟩
 ·intro L a wy Q' hL hi H F hK
  try dsimp only at hi
  have h2:a.tmps[2]?=some (.pointer (some ⟨w.heap.size,0,none⟩)):=F 2 rfl
  have HI:=Lib.hid hi
  clear H F hi hL
  have kq0:wy.cell? ⟨w.heap.size,0,none⟩=some (.int .u64 s.a):=(Whole.under HI.out W0.out (Whole.lt W0.out)).cell 0
  have kq1:wy.cell? ⟨w.heap.size,1,none⟩=some (.int .u64 s.b):=(Whole.under HI.out W0.out (Whole.lt W0.out)).cell 1
  have kq2:wy.cell? ⟨w.heap.size,2,none⟩=some (.int .u64 s.c):=(Whole.under HI.out W0.out (Whole.lt W0.out)).cell 2
  have kq3:wy.cell? ⟨w.heap.size,3,none⟩=some (.int .u64 s.d):=(Whole.under HI.out W0.out (Whole.lt W0.out)).cell 3
  go_wp2_with fail
  exact hK _ _ (Below.refl _ _) HI.out rfl
 ·intro L a wy Q' hL hi H F hK
  try dsimp only at hi
  have HI:=Lib.hid hi
  clear H F hi hL
  go_wp2_with fail
  exact hK _ _ (Below.refl _ _) HI.out rfl
 ·intro L a wy Q' hL hi H F hK
  try dsimp only at hi
  obtain⟨_,h6,rfl⟩:=H 0 ⟨.data,by simp,rfl⟩ _ rfl
  replace h6:=h6 _ rfl
  obtain⟨_,h7,rfl⟩:=H 1 ⟨.data,by simp,rfl⟩ _ rfl
  replace h7:=h7 _ rfl
  have HI:=Lib.hid hi
  clear H F hi hL
  have hq:=HQ.out
  go_wp2_with fail
  exact hK _ _ (Below.refl _ _) HI.out (congrArg Value.bool HB1.out)
 ·intro L a wy Q' hL hi H F hK
  try dsimp only at hi
  have h2:a.tmps[2]?=some (.pointer (some ⟨w.heap.size,0,none⟩)):=F 2 rfl
  have HI:=Lib.hid hi
  clear H F hi hL
  have kq0:wy.cell? ⟨w.heap.size,0,none⟩=some (.int .u64 s.a):=(Whole.under HI.out W0.out (Whole.lt W0.out)).cell 0
  have kq1:wy.cell? ⟨w.heap.size,1,none⟩=some (.int .u64 s.b):=(Whole.under HI.out W0.out (Whole.lt W0.out)).cell 1
  have kq2:wy.cell? ⟨w.heap.size,2,none⟩=some (.int .u64 s.c):=(Whole.under HI.out W0.out (Whole.lt W0.out)).cell 2
  have kq3:wy.cell? ⟨w.heap.size,3,none⟩=some (.int .u64 s.d):=(Whole.under HI.out W0.out (Whole.lt W0.out)).cell 3
  go_wp2_with fail
  exact hK _ _ (Below.refl _ _) HI.out rfl
 ·intro L a wy Q' hL hi H F hK
  try dsimp only at hi
  have h1:a.tmps[1]?=some (.int .i64 (n:Int)):=F 1 rfl
  have HI:=Lib.hid hi
  clear H F hi hL
  go_wp2_with fail
  exact hK _ _ (Below.refl _ _) HI.out rfl
 ·intro L a wy Q' hL hi H F hK
  try dsimp only at hi
  obtain⟨_,h10,rfl⟩:=H 4 ⟨.data,by simp,rfl⟩ _ rfl
  replace h10:=h10 _ rfl
  have HI:=Lib.hid hi
  clear H F hi hL
  have HK:=Lib.hid hK
  clear hK
  go_wp2_with (go_at_call 104;go_must (refine(rall_any wy n hn).mono ?_;rintro e w1 ⟨rfl,hb1⟩))
  exact HK.out _ _ hb1 (HI.out.trans (hb1.mono HI.out.size)) rfl
 ·intro L a wy Q' hL hi H F hK
  try dsimp only at hi
  obtain⟨_,h9,rfl⟩:=H 3 ⟨.data,by simp,rfl⟩ _ rfl
  replace h9:=h9 _ rfl
  obtain⟨_,h11,rfl⟩:=H 5 ⟨.data,by simp,rfl⟩ _ rfl
  replace h11:=h11 _ rfl
  have HI:=Lib.hid hi
  clear H F hi hL
  have HK:=Lib.hid hK
  clear hK
  go_wp2_with (go_at_call 105;go_must (refine(show Calls Tryz.prog 105 _ _ (fun e w'=>e=.returned (.bool b2)∧RowKit.Below wy.heap.size wy w') from by rw[HB2.out];exact rwithin_any wy s (ASet.all n) HOK.out (all_ok n)).mono ?_;rintro e w1 ⟨rfl,hb1⟩))
  exact HK.out _ _ hb1 (HI.out.trans (hb1.mono HI.out.size)) rfl
 ·intro L a wy Q' hL hi H F hK
  try dsimp only at hi
  obtain⟨_,h8,rfl⟩:=H 2 ⟨.data,by simp,rfl⟩ _ rfl
  replace h8:=h8 _ rfl
  have HI:=Lib.hid hi
  clear H F hi hL
  go_wp2_with fail
  exact hK _ _ (Below.refl _ _) HI.out rfl
 ·intro a wy L hl hi hL Q' hK
  try dsimp only at hi
  have HB:=Lib.hid hi
  clear hi hL
  obtain⟨_,rfl,_,rfl,_,rfl,_,rfl,_,rfl,_,rfl,_,rfl,_,rfl,rfl⟩:=hl
  simp only[List.setIfInBounds_toArray,List.set_cons_zero,List.set_cons_succ]
  go_wp2_with fail
  refine bodyPost_ret (v:=.tuple #[.bool b1,.bool b2]) ?_ rfl ⟨rfl,HBO.out.trans (HB.out.mono HBO.out.size)⟩
  simp[results,Tryz.results103,go_sem]
def rolesB (n:Nat) (s:ASet):Bool:=s.within (ASet.all n).unit
set_option maxRecDepth 100000 in
set_option maxHeartbeats 4000000 in
theorem processRoles_any (w:World) (c0 c1 c2 c3 c4 c5 c6 c7 c8 c9 c10 c11 c12 c13 c14 c15 c16:Value) (p:APol) (hp:PolAt w c0 c1 c2 c3 c4 c5 c6 c7 c8 c9 c10 c11 c12 c13 c14 c15 c16 p) (hok:p.Ok) (s:ASet) (hs:s.Ok):Calls Tryz.prog 106 #[.agg #[c0,c1,c2,c3,c4,c5,c6,c7,c8,c9,c10,c11,c12,c13,c14,c15,c16],.agg #[.int .u64 s.a,.int .u64 s.b,.int .u64 s.c,.int .u64 s.d]] w fun e w'=>e=.returned (.bool (rolesB p.roles.length s))∧RowKit.Below w.heap.size w w':=by
 have HOK:=Lib.hid hs
 have hn3:p.roles.length≤140737488355328:=hok.rolesL
 clear hs hok
 obtain⟨a3,k3,rfl,hk3,hm3⟩:=PolAt.f3 hp
 obtain⟨n3,hn3'⟩:∃ n,n=p.roles.length:=⟨_,rfl⟩
 have N3:=Lib.hid hn3'
 rw[← hn3'] at hk3 hm3 hn3 ⊢
 clear hn3'
 have HN3:=Lib.hid hn3
 clear hp
 unfold rolesB
 obtain⟨b,hb⟩:∃ b,b=s.within (ASet.all n3).unit:=⟨_,rfl⟩
 have HB1:=Lib.hid hb
 rw[← hb]
 clear hb
 obtain⟨wo,hwo⟩:∃ wo,wo=((w).alloc (.cells #[c0,c1,c2,.slice a3 n3 k3,c4,c5,c6,c7,c8,c9,c10,c11,c12,c13,c14,c15,c16] 39)).alloc (.cells #[.int .u64 s.a,.int .u64 s.b,.int .u64 s.c,.int .u64 s.d] 54):=⟨_,rfl⟩
 have W0:=Lib.hid (show Whole wo w.heap.size 39 #[c0,c1,c2,.slice a3 n3 k3,c4,c5,c6,c7,c8,c9,c10,c11,c12,c13,c14,c15,c16] by rw[hwo];exact((show Whole _ w.heap.size 39 #[c0,c1,c2,.slice a3 n3 k3,c4,c5,c6,c7,c8,c9,c10,c11,c12,c13,c14,c15,c16] from Whole.new w 39 _).alloc _))
 have W1:=Lib.hid (show Whole wo (w.heap.size+1) 54 #[.int .u64 s.a,.int .u64 s.b,.int .u64 s.c,.int .u64 s.d] by rw[hwo];exact(whole_two w _ _ _))
 have HBO:=Lib.hid (show RowKit.Below w.heap.size w wo by rw[hwo];exact(((Below.refl _ w).alloc (Nat.le_refl _) _).alloc (by simp) _))
 go_enter Tryz.func106,Tryz.ntmps106
 go_upto_region 1 with(fail)
 rw[← hwo]
 clear hwo
 refine wp_region_goods [some 5,some 6,some 7,some 8,some 9,some 10,some 11] [isW (.agg #[.int .u64 s.a,.int .u64 s.b,.int .u64 s.c,.int .u64 s.d]),isW (.pointer (some ⟨w.heap.size,3,none⟩)),isW (.slice a3 n3 k3),isW (.int .i64 (n3:Int)),isW (.agg #[.int .u64 (ASet.all n3).a,.int .u64 (ASet.all n3).b,.int .u64 (ASet.all n3).c,.int .u64 (ASet.all n3).d]),isW (.agg #[.int .u64 (ASet.all n3).unit.a,.int .u64 (ASet.all n3).unit.b,.int .u64 (ASet.all n3).unit.c,.int .u64 (ASet.all n3).unit.d]),isW (.bool b)] (fun _ w'=>RowKit.Below wo.heap.size wo w') [] (by kernel_rfl) (by kernel_rfl) (by kernel_rfl) rfl (by decide) rfl rfl ((Below.refl _ _).drew) ⟨lastsW_is _,lastsW_is _,lastsW_is _,lastsW_is _,lastsW_is _,lastsW_is _,lastsW_is _,trivial⟩ ⟨?_,?_,?_,?_,?_,?_,?_,?_⟩
 ·intro L a wy Q' hL hi H F hK
  try dsimp only at hi
  have h3:a.tmps[3]?=some (.pointer (some ⟨w.heap.size+1,0,none⟩)):=F 3 rfl
  have HI:=Lib.hid hi
  clear H F hi hL
  have kq0:wy.cell? ⟨w.heap.size+1,0,none⟩=some (.int .u64 s.a):=(Whole.under HI.out W1.out (Whole.lt W1.out)).cell 0
  have kq1:wy.cell? ⟨w.heap.size+1,1,none⟩=some (.int .u64 s.b):=(Whole.under HI.out W1.out (Whole.lt W1.out)).cell 1
  have kq2:wy.cell? ⟨w.heap.size+1,2,none⟩=some (.int .u64 s.c):=(Whole.under HI.out W1.out (Whole.lt W1.out)).cell 2
  have kq3:wy.cell? ⟨w.heap.size+1,3,none⟩=some (.int .u64 s.d):=(Whole.under HI.out W1.out (Whole.lt W1.out)).cell 3
  go_wp2_with fail
  exact hK _ _ (Below.refl _ _) HI.out rfl
 ·intro L a wy Q' hL hi H F hK
  try dsimp only at hi
  have h2:a.tmps[2]?=some (.pointer (some ⟨w.heap.size,0,none⟩)):=F 2 rfl
  have HI:=Lib.hid hi
  clear H F hi hL
  go_wp2_with fail
  exact hK _ _ (Below.refl _ _) HI.out rfl
 ·intro L a wy Q' hL hi H F hK
  try dsimp only at hi
  obtain⟨_,h6,rfl⟩:=H 1 ⟨.data,by simp,rfl⟩ _ rfl
  replace h6:=h6 _ rfl
  have HI:=Lib.hid hi
  clear H F hi hL
  have kq0:wy.cell? ⟨w.heap.size,3,none⟩=some (.slice a3 n3 k3):=(Whole.under HI.out W0.out (Whole.lt W0.out)).cell 3
  go_wp2_with fail
  exact hK _ _ (Below.refl _ _) HI.out rfl
 ·intro L a wy Q' hL hi H F hK
  try dsimp only at hi
  obtain⟨_,h7,rfl⟩:=H 2 ⟨.data,by simp,rfl⟩ _ rfl
  replace h7:=h7 _ rfl
  have HI:=Lib.hid hi
  clear H F hi hL
  go_wp2_with fail
  exact hK _ _ (Below.refl _ _) HI.out rfl
 ·intro L a wy Q' hL hi H F hK
  try dsimp only at hi
  obtain⟨_,h8,rfl⟩:=H 3 ⟨.data,by simp,rfl⟩ _ rfl
  replace h8:=h8 _ rfl
  have HI:=Lib.hid hi
  clear H F hi hL
  have HK:=Lib.hid hK
  clear hK
  go_wp2_with (go_at_call 104;go_must (refine(rall_any wy n3 HN3.out).mono ?_;rintro e w1 ⟨rfl,hb1⟩))
  exact HK.out _ _ hb1 (HI.out.trans (hb1.mono HI.out.size)) rfl
 ·intro L a wy Q' hL hi H F hK
  try dsimp only at hi
  obtain⟨_,h9,rfl⟩:=H 4 ⟨.data,by simp,rfl⟩ _ rfl
  replace h9:=h9 _ rfl
  have HI:=Lib.hid hi
  clear H F hi hL
  have HK:=Lib.hid hK
  clear hK
  go_wp2_with (go_at_call 195;go_must (refine(rwithout_zero wy (ASet.all n3) (all_ok n3)).mono ?_;rintro e w1 ⟨rfl,hb1⟩))
  exact HK.out _ _ hb1 (HI.out.trans (hb1.mono HI.out.size)) rfl
 ·intro L a wy Q' hL hi H F hK
  try dsimp only at hi
  obtain⟨_,h5,rfl⟩:=H 0 ⟨.data,by simp,rfl⟩ _ rfl
  replace h5:=h5 _ rfl
  obtain⟨_,h10,rfl⟩:=H 5 ⟨.data,by simp,rfl⟩ _ rfl
  replace h10:=h10 _ rfl
  have HI:=Lib.hid hi
  clear H F hi hL
  have HK:=Lib.hid hK
  clear hK
  go_wp2_with (go_at_call 105;go_must (refine(show Calls Tryz.prog 105 _ _ (fun e w'=>e=.returned (.bool b)∧RowKit.Below wy.heap.size wy w') from by rw[HB1.out];exact rwithin_any wy s (ASet.all n3).unit HOK.out (ASet.unit_ok (all_ok n3))).mono ?_;rintro e w1 ⟨rfl,hb1⟩))
  exact HK.out _ _ hb1 (HI.out.trans (hb1.mono HI.out.size)) rfl
 ·intro a wy L hl hi hL Q' hK
  try dsimp only at hi
  have HB:=Lib.hid hi
  clear hi hL
  obtain⟨_,rfl,_,rfl,_,rfl,_,rfl,_,rfl,_,rfl,_,rfl,rfl⟩:=hl
  simp only[List.setIfInBounds_toArray,List.set_cons_zero,List.set_cons_succ]
  go_wp2_with fail
  go_ret
  exact⟨rfl,HBO.out.trans (HB.out.mono HBO.out.size)⟩
def levelB (nS nC:Nat) (l:ALev):Bool:=belowB l.sens (nS:Int)&&(decide ((64:Int)≤(nC:Int))||decide ((l.cats:Int)/2^nC=0))
set_option maxRecDepth 100000 in
set_option maxHeartbeats 4000000 in
theorem level_any (w:World) (c0 c1 c2 c3 c4 c5 c6 c7 c8 c9 c10 c11 c12 c13 c14 c15 c16:Value) (p:APol) (hp:PolAt w c0 c1 c2 c3 c4 c5 c6 c7 c8 c9 c10 c11 c12 c13 c14 c15 c16 p) (l:ALev) (hl:l.Ok):Calls Tryz.prog 108 #[.agg #[c0,c1,c2,c3,c4,c5,c6,c7,c8,c9,c10,c11,c12,c13,c14,c15,c16],.agg #[.int .i64 l.sens,.int .u64 l.cats]] w fun e w'=>e=.returned (.bool (levelB p.sens.length p.cats.length l))∧RowKit.Below w.heap.size w w':=by
 obtain⟨a6,k6,rfl,hk6,hm6⟩:=PolAt.f6 hp
 obtain⟨n6,hn6⟩:∃ n,n=p.sens.length:=⟨_,rfl⟩
 have N6:=Lib.hid hn6
 rw[← hn6] at hk6 hm6 ⊢
 clear hn6
 obtain⟨a7,k7,rfl,hk7,hm7⟩:=PolAt.f7 hp
 obtain⟨n7,hn7⟩:∃ n,n=p.cats.length:=⟨_,rfl⟩
 have N7:=Lib.hid hn7
 rw[← hn7] at hk7 hm7 ⊢
 clear hn7
 have hcl:l.cats<18446744073709551616:=hl.cats
 clear hp hl
 obtain⟨wo,hwo⟩:∃ wo,wo=((w).alloc (.cells #[c0,c1,c2,c3,c4,c5,.slice a6 n6 k6,.slice a7 n7 k7,c8,c9,c10,c11,c12,c13,c14,c15,c16] 39)).alloc (.cells #[.int .i64 l.sens,.int .u64 l.cats] 70):=⟨_,rfl⟩
 have W0:=Lib.hid (show Whole wo w.heap.size 39 #[c0,c1,c2,c3,c4,c5,.slice a6 n6 k6,.slice a7 n7 k7,c8,c9,c10,c11,c12,c13,c14,c15,c16] by rw[hwo];exact((show Whole _ w.heap.size 39 #[c0,c1,c2,c3,c4,c5,.slice a6 n6 k6,.slice a7 n7 k7,c8,c9,c10,c11,c12,c13,c14,c15,c16] from Whole.new w 39 _).alloc _))
 have W1:=Lib.hid (show Whole wo (w.heap.size+1) 70 #[.int .i64 l.sens,.int .u64 l.cats] by rw[hwo];exact(whole_two w _ _ _))
 have HBO:=Lib.hid (show RowKit.Below w.heap.size w wo by rw[hwo];exact(((Below.refl _ w).alloc (Nat.le_refl _) _).alloc (by simp) _))
 have ka6:wo.cell? ⟨w.heap.size,6,none⟩=some (.slice a6 n6 k6):=W0.out.cell 6
 have ka7:wo.cell? ⟨w.heap.size,7,none⟩=some (.slice a7 n7 k7):=W0.out.cell 7
 have kb0:wo.cell? ⟨w.heap.size+1,0,none⟩=some (.int .i64 l.sens):=W1.out.cell 0
 have kb1:wo.cell? ⟨w.heap.size+1,1,none⟩=some (.int .u64 l.cats):=W1.out.cell 1
 unfold levelB
 cases hb:belowB l.sens (n6:Int) with
 | false =>
  have H1:=Lib.hid hb
  clear hb
  go_enter Tryz.func108,Tryz.ntmps108
  go_upto_region 1 with(fail)
  rw[← hwo]
  clear hwo
  go_wp2_with (have hZ:=H1;clear hZ;go_at_call 113;go_must (refine(show Calls Tryz.prog 113 _ _ (fun e w'=>e=.returned (.bool false)∧wo=w') from by have h:=below_any wo l.sens (n6:Int);rw[H1.out] at h;exact h).mono ?_;rintro e w' ⟨rfl,rfl⟩;clear H1))
  go_ret
  exact⟨rfl,HBO.out⟩
 | true =>
  have H1:=Lib.hid hb
  clear hb
  by_cases h64:(64:Int)≤(n7:Int)
  ·have d1:decide ((64:Int)≤(n7:Int))=true:=by simp;omega
   rw[d1]
   go_enter Tryz.func108,Tryz.ntmps108
   go_upto_region 1 with(fail)
   rw[← hwo]
   clear hwo
   go_wp2_with (have hZ:=H1;clear hZ;go_at_call 113;go_must (refine(show Calls Tryz.prog 113 _ _ (fun e w'=>e=.returned (.bool true)∧wo=w') from by have h:=below_any wo l.sens (n6:Int);rw[H1.out] at h;exact h).mono ?_;rintro e w' ⟨rfl,rfl⟩;clear H1))
   go_ret
   exact⟨rfl,HBO.out⟩
  ·have d1:decide ((64:Int)≤(n7:Int))=false:=by simp;omega
   rw[d1]
   have h7:n7<64:=by omega
   go_enter Tryz.func108,Tryz.ntmps108
   go_upto_region 1 with(fail)
   rw[← hwo]
   clear hwo
   go_wp2_with (have hZ:=H1;clear hZ;go_at_call 113;go_must (refine(show Calls Tryz.prog 113 _ _ (fun e w'=>e=.returned (.bool true)∧wo=w') from by have h:=below_any wo l.sens (n6:Int);rw[H1.out] at h;exact h).mono ?_;rintro e w' ⟨rfl,rfl⟩;clear H1))
   go_ret
   exact⟨ret_bool (by first | rfl | (simp<;>rfl)),HBO.out⟩
def rangeB (nS nC:Nat) (r:ARng):Bool:=levelB nS nC r.low&&levelB nS nC r.high&&domB r.high r.low
set_option maxRecDepth 100000 in
set_option maxHeartbeats 4000000 in
theorem range_any (w:World) (c0 c1 c2 c3 c4 c5 c6 c7 c8 c9 c10 c11 c12 c13 c14 c15 c16:Value) (p:APol) (hp:PolAt w c0 c1 c2 c3 c4 c5 c6 c7 c8 c9 c10 c11 c12 c13 c14 c15 c16 p) (r:ARng) (hr:r.Ok):Calls Tryz.prog 107 #[.agg #[c0,c1,c2,c3,c4,c5,c6,c7,c8,c9,c10,c11,c12,c13,c14,c15,c16],.agg #[.int .i64 r.low.sens,.int .u64 r.low.cats,.int .i64 r.high.sens,.int .u64 r.high.cats]] w fun e w'=>e=.returned (.bool (rangeB p.sens.length p.cats.length r))∧RowKit.Below w.heap.size w w':=by
 have HP:=Lib.hid hp
 have HOK:=Lib.hid hr
 clear hp hr
 obtain⟨wo,hwo⟩:∃ wo,wo=((w).alloc (.cells #[c0,c1,c2,c3,c4,c5,c6,c7,c8,c9,c10,c11,c12,c13,c14,c15,c16] 39)).alloc (.cells #[.int .i64 r.low.sens,.int .u64 r.low.cats,.int .i64 r.high.sens,.int .u64 r.high.cats] 72):=⟨_,rfl⟩
 have W0a:=Lib.hid (show Whole wo w.heap.size 39 #[c0,c1,c2,c3,c4,c5,c6,c7,c8,c9,c10,c11,c12,c13,c14,c15,c16] by rw[hwo];exact((show Whole _ w.heap.size 39 #[c0,c1,c2,c3,c4,c5,c6,c7,c8,c9,c10,c11,c12,c13,c14,c15,c16] from Whole.new w 39 _).alloc _))
 have W1a:=Lib.hid (show Whole wo (w.heap.size+1) 72 #[.int .i64 r.low.sens,.int .u64 r.low.cats,.int .i64 r.high.sens,.int .u64 r.high.cats] by rw[hwo];exact(whole_two w _ _ _))
 have HBO:=Lib.hid (show RowKit.Below w.heap.size w wo by rw[hwo];exact(((Below.refl _ w).alloc (Nat.le_refl _) _).alloc (by simp) _))
 have wo_0:wo.cell? ⟨w.heap.size+1,0,none⟩=some (.int .i64 r.low.sens):=W1a.out.cell 0
 have wo_1:wo.cell? ⟨w.heap.size+1,1,none⟩=some (.int .u64 r.low.cats):=W1a.out.cell 1
 have wo_2:wo.cell? ⟨w.heap.size+1,2,none⟩=some (.int .i64 r.high.sens):=W1a.out.cell 2
 have wo_3:wo.cell? ⟨w.heap.size+1,3,none⟩=some (.int .u64 r.high.cats):=W1a.out.cell 3
 unfold rangeB
 cases ha:levelB p.sens.length p.cats.length r.low with
 | false =>
  have HA:=Lib.hid ha
  clear ha
  go_enter Tryz.func107,Tryz.ntmps107
  go_upto_region 1 with(fail)
  rw[← hwo]
  clear hwo
  go_wp2_with (first | (refine wpList_load_row rfl 39 _ rfl (w.heap.size) rfl 39 _ (0,0) _ W0a.out Tryz.underlying39 rfl size39 ?_) | (refine wpList_load_row_g rfl 39 _ rfl (w.heap.size) rfl 39 _ (0,0) _ W0b.out Tryz.underlying39 rfl size39 ?_) | (have hZ:=HA;clear hZ;go_at_call 108;go_must (refine(show Calls Tryz.prog 108 _ _ (fun e w'=>e=.returned (.bool false)∧RowKit.Below wo.heap.size wo w') from by have h:=level_any wo c0 c1 c2 c3 c4 c5 c6 c7 c8 c9 c10 c11 c12 c13 c14 c15 c16 p (HP.out.keep HBO.out) r.low HOK.out.low;rw[HA.out] at h;exact h).mono ?_;rintro e w1 ⟨rfl,hb⟩;have HB1:=Lib.hid hb;clear hb HA;have W0b:=Lib.hid (Whole.under HB1.out W0a.out (Whole.lt W0a.out));have W1b:=Lib.hid (Whole.under HB1.out W1a.out (Whole.lt W1a.out));have w1_0:w1.cell? ⟨w.heap.size+1,0,none⟩=some (.int .i64 r.low.sens):=W1b.out.cell 0;have w1_1:w1.cell? ⟨w.heap.size+1,1,none⟩=some (.int .u64 r.low.cats):=W1b.out.cell 1;have w1_2:w1.cell? ⟨w.heap.size+1,2,none⟩=some (.int .i64 r.high.sens):=W1b.out.cell 2;have w1_3:w1.cell? ⟨w.heap.size+1,3,none⟩=some (.int .u64 r.high.cats):=W1b.out.cell 3)))
  go_ret
  exact⟨rfl,HBO.out.trans (HB1.out.mono HBO.out.size)⟩
 | true =>
  have HA:=Lib.hid ha
  cases ha2:levelB p.sens.length p.cats.length r.high with
  | false =>
   have HA2:=Lib.hid ha2
   clear ha ha2
   go_enter Tryz.func107,Tryz.ntmps107
   go_upto_region 1 with(fail)
   rw[← hwo]
   clear hwo
   go_wp2_with (first | (refine wpList_load_row rfl 39 _ rfl (w.heap.size) rfl 39 _ (0,0) _ W0a.out Tryz.underlying39 rfl size39 ?_) | (refine wpList_load_row_g rfl 39 _ rfl (w.heap.size) rfl 39 _ (0,0) _ W0b.out Tryz.underlying39 rfl size39 ?_) | (have hZ:=HA;clear hZ;go_at_call 108;go_must (refine(show Calls Tryz.prog 108 _ _ (fun e w'=>e=.returned (.bool true)∧RowKit.Below wo.heap.size wo w') from by have h:=level_any wo c0 c1 c2 c3 c4 c5 c6 c7 c8 c9 c10 c11 c12 c13 c14 c15 c16 p (HP.out.keep HBO.out) r.low HOK.out.low;rw[HA.out] at h;exact h).mono ?_;rintro e w1 ⟨rfl,hb⟩;have HB1:=Lib.hid hb;clear hb HA;have W0b:=Lib.hid (Whole.under HB1.out W0a.out (Whole.lt W0a.out));have W1b:=Lib.hid (Whole.under HB1.out W1a.out (Whole.lt W1a.out));have w1_0:w1.cell? ⟨w.heap.size+1,0,none⟩=some (.int .i64 r.low.sens):=W1b.out.cell 0;have w1_1:w1.cell? ⟨w.heap.size+1,1,none⟩=some (.int .u64 r.low.cats):=W1b.out.cell 1;have w1_2:w1.cell? ⟨w.heap.size+1,2,none⟩=some (.int .i64 r.high.sens):=W1b.out.cell 2;have w1_3:w1.cell? ⟨w.heap.size+1,3,none⟩=some (.int .u64 r.high.cats):=W1b.out.cell 3)) | (have hZ:=HA2;clear hZ;go_at_call 108;go_must (refine(show Calls Tryz.prog 108 _ _ (fun e w'=>e=.returned (.bool false)∧RowKit.Below w1.heap.size w1 w') from by have h:=level_any w1 c0 c1 c2 c3 c4 c5 c6 c7 c8 c9 c10 c11 c12 c13 c14 c15 c16 p (HP.out.keep (HBO.out.trans (HB1.out.mono HBO.out.size))) r.high HOK.out.high;rw[HA2.out] at h;exact h).mono ?_;rintro e w2 ⟨rfl,hb⟩;have HB2:=Lib.hid hb;clear hb HA2;have W0c:=Lib.hid (Whole.under HB2.out W0b.out (Whole.lt W0b.out));have W1c:=Lib.hid (Whole.under HB2.out W1b.out (Whole.lt W1b.out));have w2_0:w2.cell? ⟨w.heap.size+1,0,none⟩=some (.int .i64 r.low.sens):=W1c.out.cell 0;have w2_1:w2.cell? ⟨w.heap.size+1,1,none⟩=some (.int .u64 r.low.cats):=W1c.out.cell 1;have w2_2:w2.cell? ⟨w.heap.size+1,2,none⟩=some (.int .i64 r.high.sens):=W1c.out.cell 2;have w2_3:w2.cell? ⟨w.heap.size+1,3,none⟩=some (.int .u64 r.high.cats):=W1c.out.cell 3)))
   go_ret
   exact⟨rfl,(HBO.out.trans (HB1.out.mono HBO.out.size)).trans (HB2.out.mono (by have:=HBO.out.size;have:=HB1.out.size;omega))⟩
  | true =>
   have HA2:=Lib.hid ha2
   clear ha ha2
   go_enter Tryz.func107,Tryz.ntmps107
   go_upto_region 1 with(fail)
   rw[← hwo]
   clear hwo
   go_wp2_with (first | (refine wpList_load_row rfl 39 _ rfl (w.heap.size) rfl 39 _ (0,0) _ W0a.out Tryz.underlying39 rfl size39 ?_) | (refine wpList_load_row_g rfl 39 _ rfl (w.heap.size) rfl 39 _ (0,0) _ W0b.out Tryz.underlying39 rfl size39 ?_) | (have hZ:=HA;clear hZ;go_at_call 108;go_must (refine(show Calls Tryz.prog 108 _ _ (fun e w'=>e=.returned (.bool true)∧RowKit.Below wo.heap.size wo w') from by have h:=level_any wo c0 c1 c2 c3 c4 c5 c6 c7 c8 c9 c10 c11 c12 c13 c14 c15 c16 p (HP.out.keep HBO.out) r.low HOK.out.low;rw[HA.out] at h;exact h).mono ?_;rintro e w1 ⟨rfl,hb⟩;have HB1:=Lib.hid hb;clear hb HA;have W0b:=Lib.hid (Whole.under HB1.out W0a.out (Whole.lt W0a.out));have W1b:=Lib.hid (Whole.under HB1.out W1a.out (Whole.lt W1a.out));have w1_0:w1.cell? ⟨w.heap.size+1,0,none⟩=some (.int .i64 r.low.sens):=W1b.out.cell 0;have w1_1:w1.cell? ⟨w.heap.size+1,1,none⟩=some (.int .u64 r.low.cats):=W1b.out.cell 1;have w1_2:w1.cell? ⟨w.heap.size+1,2,none⟩=some (.int .i64 r.high.sens):=W1b.out.cell 2;have w1_3:w1.cell? ⟨w.heap.size+1,3,none⟩=some (.int .u64 r.high.cats):=W1b.out.cell 3)) | (have hZ:=HA2;clear hZ;go_at_call 108;go_must (refine(show Calls Tryz.prog 108 _ _ (fun e w'=>e=.returned (.bool true)∧RowKit.Below w1.heap.size w1 w') from by have h:=level_any w1 c0 c1 c2 c3 c4 c5 c6 c7 c8 c9 c10 c11 c12 c13 c14 c15 c16 p (HP.out.keep (HBO.out.trans (HB1.out.mono HBO.out.size))) r.high HOK.out.high;rw[HA2.out] at h;exact h).mono ?_;rintro e w2 ⟨rfl,hb⟩;have HB2:=Lib.hid hb;clear hb HA2;have W0c:=Lib.hid (Whole.under HB2.out W0b.out (Whole.lt W0b.out));have W1c:=Lib.hid (Whole.under HB2.out W1b.out (Whole.lt W1b.out));have w2_0:w2.cell? ⟨w.heap.size+1,0,none⟩=some (.int .i64 r.low.sens):=W1c.out.cell 0;have w2_1:w2.cell? ⟨w.heap.size+1,1,none⟩=some (.int .u64 r.low.cats):=W1c.out.cell 1;have w2_2:w2.cell? ⟨w.heap.size+1,2,none⟩=some (.int .i64 r.high.sens):=W1c.out.cell 2;have w2_3:w2.cell? ⟨w.heap.size+1,3,none⟩=some (.int .u64 r.high.cats):=W1c.out.cell 3)) | (go_at_call 109;go_must (refine(dom_any w2 r.high r.low HOK.out.high HOK.out.low).mono ?_;rintro e w3 ⟨rfl,hb⟩;have HB3:=Lib.hid hb;clear hb)))
   go_ret
   exact⟨rfl,((HBO.out.trans (HB1.out.mono HBO.out.size)).trans (HB2.out.mono (by have:=HBO.out.size;have:=HB1.out.size;omega))).trans (HB3.out.mono (by have:=HBO.out.size;have:=HB1.out.size;have:=HB2.out.size;omega))⟩
def vectorB (cl:List ACls) (c:Int) (v:Int):Bool:=match (if 0≤c then cl[c.toNat]? else none) with
 | some x=>decide ((32:Int)≤(x.perms.length:Int))||decide (v/2^x.perms.length=0)
 | none=>false
theorem vectorB_out {cl:List ACls} {c v:Int} (h:belowB c (cl.length:Int)=false):vectorB cl c v=false:=by
 unfold vectorB
 by_cases h0:0≤c
 ·rw[if_pos h0,List.getElem?_eq_none (by unfold belowB at h;simp[h0] at h;omega)]
 ·rw[if_neg h0]
set_option maxRecDepth 100000 in
set_option maxHeartbeats 4000000 in
theorem vector_any (w:World) (c0 c1 c2 c3 c4 c5 c6 c7 c8 c9 c10 c11 c12 c13 c14 c15 c16:Value) (p:APol) (hp:PolAt w c0 c1 c2 c3 c4 c5 c6 c7 c8 c9 c10 c11 c12 c13 c14 c15 c16 p) (c v:Int) (hv:U32 v):Calls Tryz.prog 111 #[.agg #[c0,c1,c2,c3,c4,c5,c6,c7,c8,c9,c10,c11,c12,c13,c14,c15,c16],.int .i64 c,.int .u32 v] w fun e w'=>e=.returned (.bool (vectorB p.classes c v))∧RowKit.Below w.heap.size w w':=by
 obtain⟨a0,k0,rfl,hk0,hm0,hcell⟩:=RowsAt.form hp.classes (by decide)
 obtain⟨n0,hn0⟩:∃ n,n=p.classes.length:=⟨_,rfl⟩
 have N0:=Lib.hid hn0
 have HC:=Lib.hid hcell
 rw[← hn0] at hk0 hm0 ⊢
 have hv':0≤v∧v<4294967296:=hv
 clear hn0 hcell hp hv
 obtain⟨wo,hwo⟩:∃ wo,wo=(w).alloc (.cells #[.slice a0 n0 k0,c1,c2,c3,c4,c5,c6,c7,c8,c9,c10,c11,c12,c13,c14,c15,c16] 39):=⟨_,rfl⟩
 have W0:=Lib.hid (show Whole wo w.heap.size 39 #[.slice a0 n0 k0,c1,c2,c3,c4,c5,c6,c7,c8,c9,c10,c11,c12,c13,c14,c15,c16] by rw[hwo];exact(Whole.new w 39 _))
 have HBO:=Lib.hid (show RowKit.Below w.heap.size w wo by rw[hwo];exact((Below.refl _ w).alloc (Nat.le_refl _) _))
 have ka0:wo.cell? ⟨w.heap.size,0,none⟩=some (.slice a0 n0 k0):=W0.out.cell 0
 cases hb:belowB c (n0:Int) with
 | false =>
  have H1:=Lib.hid hb
  rw[vectorB_out (by rw[← N0.out];exact hb)]
  clear hb
  go_enter Tryz.func111,Tryz.ntmps111
  go_upto_region 1 with(fail)
  rw[← hwo]
  clear hwo
  go_wp2_with (have hZ:=H1;clear hZ;go_at_call 113;go_must (refine(show Calls Tryz.prog 113 _ _ (fun e w'=>e=.returned (.bool false)∧wo=w') from by have h:=below_any wo c (n0:Int);rw[H1.out] at h;exact h).mono ?_;rintro e w' ⟨rfl,rfl⟩;clear H1))
  go_ret
  exact⟨rfl,HBO.out⟩
 | true =>
  have H1:=Lib.hid hb
  obtain⟨hc0,hcn⟩:0≤c∧c<(n0:Int):=by unfold belowB at hb;simpa using hb
  obtain⟨i,rfl⟩:∃ i:Nat,c=i:=⟨c.toNat,by omega⟩
  obtain⟨x,hx⟩:∃ x,p.classes[i]?=some x:=⟨_,List.getElem?_eq_getElem (by have:=N0.out;omega)⟩
  have hval:vectorB p.classes (i:Int) v=(decide ((32:Int)≤(x.perms.length:Int))||decide (v/2^x.perms.length=0)):=by
   unfold vectorB
   rw[if_pos hc0]
   simp only[Int.toNat_natCast,hx]
  rw[hval]
  obtain⟨b,off,cs,rfl,hrow,hlen,hcc⟩:=HC.out i x hx
  obtain⟨pv,rfl,hst⟩:=hrow
  obtain⟨a1,k1,rfl,hk1,hm1,-⟩:=hst.open
  have kx:wo.cell? ⟨b,off+i*2+1,none⟩=some (.slice a1 x.perms.length k1):=cell_later HBO.out (hcc 1 _ rfl)
  obtain⟨m,hm⟩:∃ m,m=x.perms.length:=⟨_,rfl⟩
  rw[← hm] at kx hm1 hk1 ⊢
  clear hb hval hx hst hcc hm
  by_cases h32:(32:Int)≤(m:Int)
  ·have d1:decide ((32:Int)≤(m:Int))=true:=by simp;omega
   rw[d1]
   go_enter Tryz.func111,Tryz.ntmps111
   go_upto_region 1 with(fail)
   rw[← hwo]
   clear hwo
   go_wp2_with (have hZ:=H1;clear hZ;go_at_call 113;go_must (refine(show Calls Tryz.prog 113 _ _ (fun e w'=>e=.returned (.bool true)∧wo=w') from by have h:=below_any wo (i:Int) (n0:Int);rw[H1.out] at h;exact h).mono ?_;rintro e w' ⟨rfl,rfl⟩;clear H1))
   go_ret
   exact⟨rfl,HBO.out⟩
  ·have d1:decide ((32:Int)≤(m:Int))=false:=by simp;omega
   rw[d1]
   have h7:m<32:=by omega
   go_enter Tryz.func111,Tryz.ntmps111
   go_upto_region 1 with(fail)
   rw[← hwo]
   clear hwo
   go_wp2_with (have hZ:=H1;clear hZ;go_at_call 113;go_must (refine(show Calls Tryz.prog 113 _ _ (fun e w'=>e=.returned (.bool true)∧wo=w') from by have h:=below_any wo (i:Int) (n0:Int);rw[H1.out] at h;exact h).mono ?_;rintro e w' ⟨rfl,rfl⟩;clear H1))
   go_ret
   exact⟨ret_bool (by first | rfl | (simp<;>rfl)),HBO.out⟩
end Go.Proofs.YtdcofoaihmongaaGreat
namespace Go.Proofs.YtdcofoaihmongaaGreat
open Go Go.WideMaps Go.RowKit Go.Sort
theorem size111:(Tryz.prog.info? 111).map (·.size)=some 2:=by kernel_rfl
structure ARule.Wf (r:ARule):Prop where
 ok:r.Ok
 kind:I64 r.kind
 cls:I64 r.cls
 cond:I64 r.cond
 perms:U32 r.perms
def pkey (r:ARule) (p:Nat×Nat):Key4:=⟨p.1,p.2,r.cls,r.cond⟩
def ruleKV (r:ARule) (P:List (Nat×Nat)):List (Key4×AVec):=P.map fun p=>(pkey r p,vecOf r.kind r.perms)
def kvR (l:List ARule):List (Key4×AVec):=l.flatMap fun r=>ruleKV r r.pairs
theorem kvR_take {l:List ARule} {i:Nat} {r:ARule} (h:l[i]?=some r):kvR (l.take (i+1))=kvR (l.take i)++ruleKV r r.pairs:=by
 unfold kvR
 rw[take_snoc h,List.flatMap_append,List.flatMap_singleton]
theorem pairs_lt {r:ARule} {p:Nat×Nat} (h:p∈r.pairs):p.1<256∧p.2<256:=by
 unfold ARule.pairs ARule.pairsTo at h
 obtain⟨s,hs,hp⟩:=List.mem_flatMap.1 h
 obtain⟨t,ht,rfl⟩:=List.mem_map.1 hp
 simp[elems,elemsTo] at hs ht
 exact⟨hs.1,ht.1⟩
theorem elems_len (s:ASet):(elems s).length≤256:=elemsTo_len s 256
theorem pairs_len (r:ARule):r.pairs.length≤65536:=by
 have h1:=pairs_small r (elems r.src)
 have h2:=elems_len r.src
 unfold ARule.pairs
 omega
theorem kvR_len (l:List ARule):(kvR l).length≤l.length*65536:=by
 induction l with
 | nil=>simp[kvR]
 | cons r l ih =>
  have e:kvR (r::l)=ruleKV r r.pairs++kvR l:=by simp[kvR]
  have:=pairs_len r
  rw[e,List.length_append,List.length_cons]
  unfold ruleKV
  rw[List.length_map]
  omega
theorem ARule.Wf.key {r:ARule} (h:r.Wf) {p:Nat×Nat} (hp:p∈r.pairs):(pkey r p).Ok:=by
 have:=pairs_lt hp
 exact⟨⟨by show _≤(p.1:Int);omega,by show(p.1:Int)<_;omega⟩,⟨by show _≤(p.2:Int);omega,by show(p.2:Int)<_;omega⟩,h.cls,h.cond⟩
theorem ARule.Wf.vec {r:ARule} (h:r.Wf):(vecOf r.kind r.perms).Ok:=by
 have h0:U32 0:=⟨by decide,by decide⟩
 unfold vecOf
 split
 ·exact⟨h.perms,h0,h0⟩
 ·split
  ·exact⟨h0,h.perms,h0⟩
  ·split
   ·exact⟨h0,h0,h.perms⟩
   ·exact⟨h0,h0,h0⟩
theorem MapK.more {w:World} {mb n m:Nat} {f:Key4→AVec} (h:MapK w mb n f) (hm:n≤m):MapK w mb m f:=by
 obtain⟨D,h1,h2,h3,h4⟩:=h.ex
 exact⟨D,h1,h2,h3,by omega⟩
theorem accum_skip {L M:List (Key4×AVec)} (hM:∀ p∈M,p.2=AVec.zero) (hL:∀ k,(accum L k).Ok):accum (L++M)=accum L:=by
 induction M generalizing L with
 | nil=>simp
 | cons p M ih =>
  have e:L++p::M=(L++[p])++M:=by simp
  have h1:accum (L++[p])=accum L:=by
   rw[accum_snoc]
   funext x
   unfold updV
   split
   ·rename_i hx
    subst hx
    rw[hM p (by simp),AVec.or_zero (hL _)]
   ·rfl
  rw[e,ih (fun q hq=>hM q (by simp[hq])) (by rw[h1];exact hL),h1]
theorem accum_next (L:List (Key4×AVec)) (k:Key4) (v:AVec):accum (L++[(k,v)])=fun x=>if x=k then (accum L k).or v else accum L x:=by rw[accum_snoc];rfl
theorem cell_lt {w:World} {b o:Nat} {u:Value} (h:w.cell? ⟨b,o,none⟩=some u):b<w.heap.size:=by
 obtain⟨c,e,fr,h1,-⟩:=cells_of_cell? h
 exact(Array.getElem?_eq_some_iff.1 h1).1
structure Expand (w wr:World) (mb:Nat) (M:List (Key4×AVec)):Prop where
 map:MapK wr mb M.length (accum M)
 blw:RowKit.Below w.heap.size w wr
 new:w.heap.size≤mb
theorem Expand.keep {w wr w':World} {mb:Nat} {M:List (Key4×AVec)} (h:Expand w wr mb M) (hb:RowKit.Below wr.heap.size wr w'):Expand w w' mb M :=
 ⟨h.map.kept (hb.block _ h.map.lt),h.blw.trans (hb.mono h.blw.size),h.new⟩
theorem Expand.skip {w wr w':World} {mb i:Nat} {l:List ARule} {r:ARule} (h:Expand w wr mb (kvR (l.take i))) (hr:l[i]?=some r) (hz:vecOf r.kind r.perms=AVec.zero) (hb:RowKit.Below wr.heap.size wr w'):Expand w w' mb (kvR (l.take (i+1))):=by
 obtain⟨h1,h2,h3⟩:=h.keep hb
 refine⟨?_,h2,h3⟩
 rw[kvR_take hr,accum_skip (fun p hp=>?_) (fun k=>h1.val k)]
 ·exact h1.more (by simp)
 ·obtain⟨q,-,rfl⟩:=List.mem_map.1 hp
  exact hz
structure ExpIn (w wr:World) (mb rb vb:Nat) (r:ARule) (V:AVec) (pa:Option Addr) (pn pc:Nat) (L:List (Key4×AVec)) (j:Nat):Prop where
 exp:Expand w wr mb (L++ruleKV r (r.pairs.take j))
 rule:Whole wr rb 56 #[.int .i64 r.kind,.int .u64 r.src.a,.int .u64 r.src.b,.int .u64 r.src.c,.int .u64 r.src.d,.int .u64 r.tgt.a,.int .u64 r.tgt.b,.int .u64 r.tgt.c,.int .u64 r.tgt.d,.bool r.self,.int .i64 r.cls,.int .u32 r.perms,.int .i64 r.cond]
 vec:Whole wr vb 107 #[.int .u32 V.allow,.int .u32 V.audit,.int .u32 V.dont]
 cell:∀ i,i<r.pairs.length→∃ b off,pa=some ⟨b,off,none⟩∧∀ j u,(pcells r.pairs)[i*2+j]?=some u→wr.cell? ⟨b,off+i*2+j,none⟩=some u
 rne:rb≠mb
 vne:vb≠mb
 pne:∀ b off,pa=some ⟨b,off,none⟩→b≠mb
theorem ExpIn.step {w wq w6 wx w7:World} {mb rb vb m:Nat} {r:ARule} {V:AVec} {pa:Option Addr} {pn pc:Nat} {L:List (Key4×AVec)} {j:Nat} {y:Nat×Nat} {f:Key4→AVec} (h:ExpIn w wq mb rb vb r V pa pn pc L j) (hf:f=accum (L++ruleKV r (r.pairs.take j))∧V=vecOf r.kind r.perms) (hm:m=(L++ruleKV r (r.pairs.take j)).length)
 (hb:RowKit.Below wq.heap.size wq w6) (hb2:RowKit.Below w6.heap.size w6 wx) (hM:MapK w7 mb (m+1) (fun x=>if x=pkey r y then (f (pkey r y)).or V else f x)) (hg:wx.grownBy w7 (some mb)) (hs:w7.heap.size=wx.heap.size) (hy:r.pairs[j]?=some y):ExpIn w w7 mb rb vb r V pa pn pc L (j+1):=by
 obtain⟨rfl,rfl⟩:=hf
 have hb3:RowKit.Below wq.heap.size wq wx:=hb.trans (hb2.mono hb.size)
 have e:L++ruleKV r (r.pairs.take (j+1))=(L++ruleKV r (r.pairs.take j))++[(pkey r y,vecOf r.kind r.perms)]:=by
  unfold ruleKV
  rw[take_snoc hy,List.map_append,List.map_singleton,List.append_assoc]
 have k:=h.exp.keep hb3
 refine⟨⟨?_,?_,k.new⟩,?_,?_,?_,h.rne,h.vne,h.pne⟩
 ·rw[e,accum_next,List.length_append,List.length_singleton,← hm]
  exact hM
 ·exact k.blw.trans (Below.of_iter hg k.new k.blw.size hs)
 ·exact(Whole.under hb3 h.rule h.rule.lt).grown hg (fun e=>h.rne (by cases e;rfl))
 ·exact(Whole.under hb3 h.vec h.vec.lt).grown hg (fun e=>h.vne (by cases e;rfl))
 ·intro i hi
  obtain⟨b,off,hpa,hc⟩:=h.cell i hi
  refine⟨b,off,hpa,fun j u hu=>?_⟩
  have h1:=cell_later hb3 (hc j u hu)
  have hlt:=cell_lt (hc j u hu)
  rw[← h1]
  exact World.cell?_of_block (hg.block b (by have:=hb3.size;exact Nat.lt_of_lt_of_le hlt this) (fun e=>h.pne b off hpa (by cases e;rfl)))
theorem ent_b3 {wr w1 w2 w3:World} {o o2:Obj} (h1:Sto (wr.alloc o) w1 wr.heap.size) (h2:RowKit.Below w1.heap.size w1 w2) (h3:Sto (w2.alloc o2) w3 w2.heap.size):RowKit.Below wr.heap.size wr w3:=by
 have a:RowKit.Below wr.heap.size wr w1:=((Below.refl _ wr).alloc (Nat.le_refl _) _).trans (h1.below (Nat.le_refl _))
 have b:=a.trans (h2.mono a.size)
 exact(b.alloc b.size _).trans (h3.below (by have:=b.size;omega))
theorem ent_b6 {wq w5 w6:World} {o o2:Obj} (h1:Sto (wq.alloc o) w5 wq.heap.size) (h3:Sto (w5.alloc o2) w6 w5.heap.size):RowKit.Below wq.heap.size wq w6:=by
 have a:RowKit.Below wq.heap.size wq w5:=((Below.refl _ wq).alloc (Nat.le_refl _) _).trans (h1.below (Nat.le_refl _))
 exact(a.alloc a.size _).trans (h3.below (by have:=a.size;omega))
set_option maxRecDepth 100000 in
set_option maxHeartbeats 8000000 in
theorem expEntries_any (w:World) (a0 a1 a2 a3 a4 a5 a6 a7 a8 v a10 a11 a12 a13 a14 a15 a16:Value) (l:List ARule) (h:SliceAt w v 13 l.length (l.flatMap ARule.cells)) (hok:∀ r∈l,r.Wf) (hlen:l.length≤1000) :
 Calls Tryz.prog 15 #[.agg #[a0,a1,a2,a3,a4,a5,a6,a7,a8,v,a10,a11,a12,a13,a14,a15,a16]] w fun e w'=>∃ v' l',e=.returned v'∧Canon (accum (kvR l)) l'∧(∀ x∈l',x.Ok)∧l'.length≤65536000∧SliceAt w' v' 7 l'.length (l'.flatMap AEntry.cells)∧RowKit.Below w.heap.size w w':=by
 obtain⟨n,hn⟩:∃ n,n=l.length:=⟨_,rfl⟩
 obtain⟨a,c,rfl,hc,hmx,hcell⟩:=h.form (by decide)
 have HL:=Lib.hid hn
 have HC:=Lib.hid (And.intro hcell hc)
 have HOK:=Lib.hid hok
 rw[← hn] at hlen hmx hc
 simp only[← hn]
 clear hn hcell h hok
 obtain⟨wo,hwo⟩:∃ wo,wo=w.alloc (.cells #[a0,a1,a2,a3,a4,a5,a6,a7,a8,.slice a n c,a10,a11,a12,a13,a14,a15,a16] 39):=⟨_,rfl⟩
 have HWO:=Lib.hid (show RowKit.Below w.heap.size w wo by rw[hwo];exact(Below.refl _ w).alloc (Nat.le_refl _) _)
 have k9:(wo.alloc (.map #[] 0)).cell? ⟨w.heap.size,9,none⟩=some (.slice a n c):=by rw[hwo];exact((Whole.new w 39 _).alloc _).cell 9
 have q1:(Instr.makeMap 105 none).run Tryz.prog wo=.ok (.map (some wo.heap.size)) (wo.alloc (.map #[] 0)):=rfl
 go_enter Tryz.func15,Tryz.ntmps15
 go_upto_region 1 with fail
 rw[← hwo]
 clear hwo
 go_wp2
 obtain⟨mb,hmb⟩:∃ mb,mb=wo.heap.size:=⟨_,rfl⟩
 have HR0:=Lib.hid (show Expand w (wo.alloc (.map #[] 0)) mb (kvR (l.take 0)) from⟨by rw[hmb];simpa[kvR,accum_nil] using MapK.made wo,HWO.out.alloc HWO.out.size _,by rw[hmb];exact HWO.out.size⟩)
 obtain⟨wm,hwm⟩:∃ wm,wm=wo.alloc (.map #[] 0):=⟨_,rfl⟩
 rw[← hwm] at HR0
 rw[← hmb,← hwm]
 clear hwm hmb q1 k9
 go_loopw [14] (fun i wr=>∃ k:Nat,k≤n∧i=.int .i64 k∧Expand w wr mb (kvR (l.take k))) (fun i _=>n-(intOf i).toNat)
 case atStart=>exact⟨0,Nat.zero_le _,rfl,HR0.out⟩
 case round =>
  clear HR0
  obtain⟨wz,rfl⟩:∃ wz:World,wz=wr:=⟨_,rfl⟩
  obtain⟨i,hi,rfl,hR⟩:=hrel
  have HR:=Lib.hid hR
  clear hR
  by_cases hlt:i<n
  ·have hln:i<l.length:=by rw[← HL.out];exact hlt
   obtain⟨r,hr⟩:∃ r,l[i]?=some r:=⟨_,List.getElem?_eq_getElem hln⟩
   have HRI:=Lib.hid hr
   have HRK:=Lib.hid (HOK.out r (List.mem_of_getElem? hr))
   obtain⟨b,off,rfl,hcl⟩:=HC.out.1 i hln
   have e0:wz.cell? ⟨b,off+i*13,none⟩=some (.int .i64 r.kind):=cell_later HR.out.blw (hcl 0 _ (by rw[flat_at rule_len hr 0 (by decide)];rfl))
   have e1:wz.cell? ⟨b,off+i*13+1,none⟩=some (.int .u64 r.src.a):=cell_later HR.out.blw (hcl 1 _ (by rw[flat_at rule_len hr 1 (by decide)];rfl))
   have e2:wz.cell? ⟨b,off+i*13+2,none⟩=some (.int .u64 r.src.b):=cell_later HR.out.blw (hcl 2 _ (by rw[flat_at rule_len hr 2 (by decide)];rfl))
   have e3:wz.cell? ⟨b,off+i*13+3,none⟩=some (.int .u64 r.src.c):=cell_later HR.out.blw (hcl 3 _ (by rw[flat_at rule_len hr 3 (by decide)];rfl))
   have e4:wz.cell? ⟨b,off+i*13+4,none⟩=some (.int .u64 r.src.d):=cell_later HR.out.blw (hcl 4 _ (by rw[flat_at rule_len hr 4 (by decide)];rfl))
   have e5:wz.cell? ⟨b,off+i*13+5,none⟩=some (.int .u64 r.tgt.a):=cell_later HR.out.blw (hcl 5 _ (by rw[flat_at rule_len hr 5 (by decide)];rfl))
   have e6:wz.cell? ⟨b,off+i*13+6,none⟩=some (.int .u64 r.tgt.b):=cell_later HR.out.blw (hcl 6 _ (by rw[flat_at rule_len hr 6 (by decide)];rfl))
   have e7:wz.cell? ⟨b,off+i*13+7,none⟩=some (.int .u64 r.tgt.c):=cell_later HR.out.blw (hcl 7 _ (by rw[flat_at rule_len hr 7 (by decide)];rfl))
   have e8:wz.cell? ⟨b,off+i*13+8,none⟩=some (.int .u64 r.tgt.d):=cell_later HR.out.blw (hcl 8 _ (by rw[flat_at rule_len hr 8 (by decide)];rfl))
   have e9:wz.cell? ⟨b,off+i*13+9,none⟩=some (.bool r.self):=cell_later HR.out.blw (hcl 9 _ (by rw[flat_at rule_len hr 9 (by decide)];rfl))
   have e10:wz.cell? ⟨b,off+i*13+10,none⟩=some (.int .i64 r.cls):=cell_later HR.out.blw (hcl 10 _ (by rw[flat_at rule_len hr 10 (by decide)];rfl))
   have e11:wz.cell? ⟨b,off+i*13+11,none⟩=some (.int .u32 r.perms):=cell_later HR.out.blw (hcl 11 _ (by rw[flat_at rule_len hr 11 (by decide)];rfl))
   have e12:wz.cell? ⟨b,off+i*13+12,none⟩=some (.int .i64 r.cond):=cell_later HR.out.blw (hcl 12 _ (by rw[flat_at rule_len hr 12 (by decide)];rfl))
   clear hr hcl hln
   obtain⟨V,hV⟩:∃ V,V=vecOf r.kind r.perms:=⟨_,rfl⟩
   have HV:=Lib.hid hV
   clear hV
   have HCV:=Lib.hid (show ∀ W,Calls Tryz.prog 58 #[.int .i64 r.kind,.int .u32 r.perms] W fun e w'=>e=.returned (.agg #[.int .u32 V.allow,.int .u32 V.audit,.int .u32 V.dont])∧RowKit.Below W.heap.size W w' from fun W=>by rw[HV.out];exact of_vec W r.kind r.perms)
   by_cases hv:V=AVec.zero
   ·have q:∀ W:World,(Op.equalIn 10000 107 (.agg #[.int .u32 V.allow,.int .u32 V.audit,.int .u32 V.dont]) (.agg #[.int .u32 0,.int .u32 0,.int .u32 0])).run Tryz.prog W=.ok true W:=fun W=>by rw[eq_vec0];simp[hv]
    have HVZ:=Lib.hid hv
    clear hv
    go_wp2_with (first | (refine wpList_store_blk rfl 56 _ _ rfl wz.heap.size 0 (.agg #[.int .i64 r.kind,.int .u64 r.src.a,.int .u64 r.src.b,.int .u64 r.src.c,.int .u64 r.src.d,.int .u64 r.tgt.a,.int .u64 r.tgt.b,.int .u64 r.tgt.c,.int .u64 r.tgt.d,.bool r.self,.int .i64 r.cls,.int .u32 r.perms,.int .i64 r.cond]) rfl rfl 56 _ (Whole.new wz 56 _) (by simp[Value.cells]) size56 rfl ?_;intro w1 SE1 WE1;rw[splice_all _ _ (by rfl)] at WE1;have HSE1:=Lib.hid SE1;have HE1:=Lib.hid (show Whole w1 wz.heap.size 56 #[.int .i64 r.kind,.int .u64 r.src.a,.int .u64 r.src.b,.int .u64 r.src.c,.int .u64 r.src.d,.int .u64 r.tgt.a,.int .u64 r.tgt.b,.int .u64 r.tgt.c,.int .u64 r.tgt.d,.bool r.self,.int .i64 r.cls,.int .u32 r.perms,.int .i64 r.cond] from WE1);clear SE1 WE1 e0 e1 e2 e3 e4 e5 e6 e7 e8 e9 e10 e11 e12;have k0:w1.cell? ⟨wz.heap.size,0,none⟩=some (.int .i64 r.kind):=HE1.out.cell 0;have k11:w1.cell? ⟨wz.heap.size,11,none⟩=some (.int .u32 r.perms):=HE1.out.cell 11) | (go_at_call 58;go_must (refine(HCV.out _).mono ?_;rintro e w2 ⟨rfl,hb2⟩;have HB2:=Lib.hid hb2;clear hb2 k0 k11)) | (refine wpList_store_blk rfl 107 _ _ rfl w2.heap.size 0 (.agg #[.int .u32 V.allow,.int .u32 V.audit,.int .u32 V.dont]) rfl rfl 107 _ (Whole.new w2 107 _) (by simp[Value.cells]) size107 rfl ?_;intro w3 SE3 WE3;rw[splice_all _ _ (by rfl)] at WE3;have HSE3:=Lib.hid SE3;have HE3:=Lib.hid (show Whole w3 w2.heap.size 107 #[.int .u32 V.allow,.int .u32 V.audit,.int .u32 V.dont] from WE3);clear SE3 WE3 ;have HB3:=Lib.hid (ent_b3 HSE1.out HB2.out HSE3.out);have HR3:=Lib.hid (Whole.under (((Below.refl _ w2).alloc (Nat.le_refl _) _).trans (HSE3.out.below (Nat.le_refl _))) (Whole.under HB2.out HE1.out HE1.out.lt) (by have:=HB2.out.size;have:=HE1.out.lt;omega));have HBV:=Lib.hid (show wz.heap.size≤w2.heap.size from Nat.le_trans (by have:=HSE1.out.size;simp at this;omega) HB2.out.size);clear HSE1 HB2 HSE3 HE1) | (refine wpList_load_row rfl 107 _ rfl w2.heap.size rfl 107 _ (0,0) _ HE3.out Tryz.underlying107 rfl size107 ?_))
    go_roundw
    case rel=>exact⟨i+1,by omega,by go_num,HR.out.skip HRI.out (by rw[← HV.out];exact HVZ.out) HB3.out⟩
    case measure=>simp[intOf];omega
   ·have q:∀ W:World,(Op.equalIn 10000 107 (.agg #[.int .u32 V.allow,.int .u32 V.audit,.int .u32 V.dont]) (.agg #[.int .u32 0,.int .u32 0,.int .u32 0])).run Tryz.prog W=.ok false W:=fun W=>by rw[eq_vec0];simp[hv]
    clear hv
    obtain⟨pn,hpn⟩:∃ pn,pn=r.pairs.length:=⟨_,rfl⟩
    have HPN:=Lib.hid hpn
    have hpl:pn≤65536:=by rw[hpn];exact pairs_len r
    clear hpn
    go_wp2_with (first | (refine wpList_store_blk rfl 56 _ _ rfl wz.heap.size 0 (.agg #[.int .i64 r.kind,.int .u64 r.src.a,.int .u64 r.src.b,.int .u64 r.src.c,.int .u64 r.src.d,.int .u64 r.tgt.a,.int .u64 r.tgt.b,.int .u64 r.tgt.c,.int .u64 r.tgt.d,.bool r.self,.int .i64 r.cls,.int .u32 r.perms,.int .i64 r.cond]) rfl rfl 56 _ (Whole.new wz 56 _) (by simp[Value.cells]) size56 rfl ?_;intro w1 SE1 WE1;rw[splice_all _ _ (by rfl)] at WE1;have HSE1:=Lib.hid SE1;have HE1:=Lib.hid (show Whole w1 wz.heap.size 56 #[.int .i64 r.kind,.int .u64 r.src.a,.int .u64 r.src.b,.int .u64 r.src.c,.int .u64 r.src.d,.int .u64 r.tgt.a,.int .u64 r.tgt.b,.int .u64 r.tgt.c,.int .u64 r.tgt.d,.bool r.self,.int .i64 r.cls,.int .u32 r.perms,.int .i64 r.cond] from WE1);clear SE1 WE1 e0 e1 e2 e3 e4 e5 e6 e7 e8 e9 e10 e11 e12;have k0:w1.cell? ⟨wz.heap.size,0,none⟩=some (.int .i64 r.kind):=HE1.out.cell 0;have k11:w1.cell? ⟨wz.heap.size,11,none⟩=some (.int .u32 r.perms):=HE1.out.cell 11) | (go_at_call 58;go_must (refine(HCV.out _).mono ?_;rintro e w2 ⟨rfl,hb2⟩;have HB2:=Lib.hid hb2;clear hb2 k0 k11)) | (refine wpList_store_blk rfl 107 _ _ rfl w2.heap.size 0 (.agg #[.int .u32 V.allow,.int .u32 V.audit,.int .u32 V.dont]) rfl rfl 107 _ (Whole.new w2 107 _) (by simp[Value.cells]) size107 rfl ?_;intro w3 SE3 WE3;rw[splice_all _ _ (by rfl)] at WE3;have HSE3:=Lib.hid SE3;have HE3:=Lib.hid (show Whole w3 w2.heap.size 107 #[.int .u32 V.allow,.int .u32 V.audit,.int .u32 V.dont] from WE3);clear SE3 WE3 ;have HB3:=Lib.hid (ent_b3 HSE1.out HB2.out HSE3.out);have HR3:=Lib.hid (Whole.under (((Below.refl _ w2).alloc (Nat.le_refl _) _).trans (HSE3.out.below (Nat.le_refl _))) (Whole.under HB2.out HE1.out HE1.out.lt) (by have:=HB2.out.size;have:=HE1.out.lt;omega));have HBV:=Lib.hid (show wz.heap.size≤w2.heap.size from Nat.le_trans (by have:=HSE1.out.size;simp at this;omega) HB2.out.size);clear HSE1 HB2 HSE3 HE1) | (refine wpList_load_row rfl 107 _ rfl w2.heap.size rfl 107 _ (0,0) _ HE3.out Tryz.underlying107 rfl size107 ?_) | (have hZ:=HR3;clear hZ;refine wpList_load_row rfl 56 _ rfl wz.heap.size rfl 56 _ (0,0) _ HR3.out Tryz.underlying56 rfl size56 ?_) | (go_at_call 59;go_must (refine(rule_any _ r HRK.out.ok).mono ?_;rintro e w4 ⟨v4,rfl,ho4,hb4⟩;obtain⟨pa,pc,rfl,hpc,-,hpcell⟩:=(SliceAt.of_own ho4 (pcells_one _)).form (by decide);have HO4:=Lib.hid ho4;rw[← HPN.out] at hpc ⊢;have HPL:=Lib.hid (And.intro hpcell hpc);have HB4:=Lib.hid (HB3.out.trans (hb4.mono HB3.out.size));have HR4:=Lib.hid (Whole.under hb4 HR3.out HR3.out.lt);have HV4:=Lib.hid (Whole.under hb4 HE3.out HE3.out.lt);clear ho4 hb4 hpcell HR3 HE3)))
    have hmz:=HR.out.map.lt
    have HIN:=Lib.hid (show ExpIn w w4 mb wz.heap.size w2.heap.size r V pa pn pc (kvR (l.take i)) 0 from
     ⟨by simpa[ruleKV] using HR.out.keep HB4.out,HR4.out,HV4.out,HPL.out.1,by omega,by have:=HBV.out;omega,fun b off e=>by
      subst e
      have h1:=(HO4.out.lt b rfl).1
      have h2:=HB3.out.size
      omega⟩)
    clear HB4 HR4 HV4 HO4 HB3 HBV HPL hmz
    go_loopw [29] (fun u wq=>∃ j:Nat,j≤pn∧u=.int .i64 j∧ExpIn w wq mb wz.heap.size w2.heap.size r V pa pn pc (kvR (l.take i)) j) (fun u _=>pn-(intOf u).toNat)
    case atStart=>exact⟨0,Nat.zero_le _,rfl,HIN.out⟩
    case round =>
     clear HIN
     obtain⟨j,hj,rfl,hI⟩:=hrel
     have HI:=Lib.hid hI
     clear hI
     by_cases hjl:j<pn
     ·have hjp:j<r.pairs.length:=by rw[← HPN.out];exact hjl
      obtain⟨y,hy⟩:∃ y,r.pairs[j]?=some y:=⟨_,List.getElem?_eq_getElem hjp⟩
      have HY:=Lib.hid hy
      have HYK:=Lib.hid (HRK.out.key (List.mem_of_getElem? hy))
      obtain⟨b2,off2,rfl,hcl2⟩:=HI.out.cell j hjp
      have p0:wr.cell? ⟨b2,off2+j*2,none⟩=some (.int .i64 (y.1:Int)):=hcl2 0 _ (by unfold pcells;rw[flat_at (f:=pcell) (fun _=>rfl) hy 0 (by decide)];rfl)
      have p1:wr.cell? ⟨b2,off2+j*2+1,none⟩=some (.int .i64 (y.2:Int)):=hcl2 1 _ (by unfold pcells;rw[flat_at (f:=pcell) (fun _=>rfl) hy 1 (by decide)];rfl)
      clear hy hcl2 hjp
      obtain⟨f,hf⟩:∃ f,f=accum (kvR (l.take i)++ruleKV r (r.pairs.take j)):=⟨_,rfl⟩
      obtain⟨m,hm⟩:∃ m,m=(kvR (l.take i)++ruleKV r (r.pairs.take j)).length:=⟨_,rfl⟩
      have HFJ:=Lib.hid (And.intro hf HV.out)
      have HMJ:=Lib.hid hm
      clear hf hm
      go_upto_region 11 with(first | (refine wpList_store_blk rfl 111 _ _ rfl wr.heap.size 0 (.agg #[.int .i64 (y.1:Int),.int .i64 (y.2:Int)]) rfl rfl 111 _ (Whole.new wr 111 _) (by simp[Value.cells]) size111 rfl ?_;intro w5 SF1 WF1;rw[splice_all _ _ (by rfl)] at WF1;have HSF1:=Lib.hid SF1;have HF1:=Lib.hid (show Whole w5 wr.heap.size 111 #[.int .i64 (y.1:Int),.int .i64 (y.2:Int)] from WF1);have HR5:=Lib.hid (HSF1.out.whole (HI.out.rule.alloc _) (by have:=HI.out.rule.lt;omega));clear SF1 WF1 p0 p1;have q0:w5.cell? ⟨wr.heap.size,0,none⟩=some (.int .i64 (y.1:Int)):=HF1.out.cell 0;have q1:w5.cell? ⟨wr.heap.size,1,none⟩=some (.int .i64 (y.2:Int)):=HF1.out.cell 1;have k10:w5.cell? ⟨wz.heap.size,10,none⟩=some (.int .i64 r.cls):=HR5.out.cell 10;have k12:w5.cell? ⟨wz.heap.size,12,none⟩=some (.int .i64 r.cond):=HR5.out.cell 12) | (refine wpList_store_blk rfl 113 _ _ rfl w5.heap.size 0 (.agg #[.int .i64 (y.1:Int),.int .i64 (y.2:Int),.int .i64 r.cls,.int .i64 r.cond]) rfl rfl 113 _ (Whole.new w5 113 _) (by simp[Value.cells]) size113 rfl ?_;intro w6 SF2 WF2;rw[splice_all _ _ (by rfl)] at WF2;have HSF2:=Lib.hid SF2;have HF2:=Lib.hid (show Whole w6 w5.heap.size 113 #[.int .i64 (y.1:Int),.int .i64 (y.2:Int),.int .i64 r.cls,.int .i64 r.cond] from WF2);clear SF2 WF2 q0 q1 k10 k12;have HB6:=Lib.hid (ent_b6 HSF1.out HSF2.out)))
      have HM6:=Lib.hid (show MapK w6 mb m f by rw[HFJ.out.1,HMJ.out];exact HI.out.exp.map.kept (HB6.out.block _ HI.out.exp.map.lt))
      have HV6:=Lib.hid (Whole.under HB6.out HI.out.vec HI.out.vec.lt)
      have HIO:=HI
      clear HSF1 HF1 HSF2 HR5 HI
      refine wp_region_last (fun w w'=>Below w.heap.size w w') [some 42,some 43,some 44,some 45,some 46,some 47,some 48] [isV (.map (some mb)),isV (.agg #[.int .i64 (y.1:Int),.int .i64 (y.2:Int),.int .i64 r.cls,.int .i64 r.cond]),isV (.map (some mb)),isV (.agg #[.int .i64 (y.1:Int),.int .i64 (y.2:Int),.int .i64 r.cls,.int .i64 r.cond]),isV (.agg #[.int .u32 (f (pkey r y)).allow,.int .u32 (f (pkey r y)).audit,.int .u32 (f (pkey r y)).dont]),isV (.agg #[.int .u32 V.allow,.int .u32 V.audit,.int .u32 V.dont]),isV (.agg #[.int .u32 ((f (pkey r y)).or V).allow,.int .u32 ((f (pkey r y)).or V).audit,.int .u32 ((f (pkey r y)).or V).dont])] (fun _ w'=>RowKit.Below w6.heap.size w6 w') 7 (by kernel_rfl) (by kernel_rfl) (by kernel_rfl) rfl (by decide) rfl rfl ((Below.refl _ _).drew) ⟨lasts_is _,lasts_is _,lasts_is _,lasts_is _,lasts_is _,lasts_is _,lasts_is _,trivial⟩ ⟨(fun _=>lastsR_is _),(fun _=>lastsR_is _),(fun _=>lastsR_is _),(fun _=>lastsR_is _),(fun _=>lastsR_is _),(fun _=>lastsR_is _),(fun _=>lastsR_is _),trivial⟩ ⟨?_,?_,?_,?_,?_,?_,?_,?_⟩
      ·intro L a wx Q' hL hi H F hK
       try dsimp only at hi
       have h3:a.tmps[3]?=some (.map (some mb)):=F 3 rfl
       have HI:=Lib.hid hi
       clear H F hi hL
       go_wp2_with fail
       exact hK _ _ (Below.refl _ _) HI.out rfl
      ·intro L a wx Q' hL hi H F hK
       try dsimp only at hi
       have h9:a.tmps[9]?=some (.pointer (some ⟨w5.heap.size,0,none⟩)):=F 9 rfl
       have HI:=Lib.hid hi
       clear H F hi hL
       have kq0:wx.cell? ⟨w5.heap.size,0,none⟩=some (.int .i64 (y.1:Int)):=(Whole.under HI.out HF2.out (Whole.lt HF2.out)).cell 0
       have kq1:wx.cell? ⟨w5.heap.size,1,none⟩=some (.int .i64 (y.2:Int)):=(Whole.under HI.out HF2.out (Whole.lt HF2.out)).cell 1
       have kq2:wx.cell? ⟨w5.heap.size,2,none⟩=some (.int .i64 r.cls):=(Whole.under HI.out HF2.out (Whole.lt HF2.out)).cell 2
       have kq3:wx.cell? ⟨w5.heap.size,3,none⟩=some (.int .i64 r.cond):=(Whole.under HI.out HF2.out (Whole.lt HF2.out)).cell 3
       go_wp2_with fail
       exact hK _ _ (Below.refl _ _) HI.out rfl
      ·intro L a wx Q' hL hi H F hK
       try dsimp only at hi
       have h3:a.tmps[3]?=some (.map (some mb)):=F 3 rfl
       have HI:=Lib.hid hi
       clear H F hi hL
       go_wp2_with fail
       exact hK _ _ (Below.refl _ _) HI.out rfl
      ·intro L a wx Q' hL hi H F hK
       try dsimp only at hi
       have h9:a.tmps[9]?=some (.pointer (some ⟨w5.heap.size,0,none⟩)):=F 9 rfl
       have HI:=Lib.hid hi
       clear H F hi hL
       have kq0:wx.cell? ⟨w5.heap.size,0,none⟩=some (.int .i64 (y.1:Int)):=(Whole.under HI.out HF2.out (Whole.lt HF2.out)).cell 0
       have kq1:wx.cell? ⟨w5.heap.size,1,none⟩=some (.int .i64 (y.2:Int)):=(Whole.under HI.out HF2.out (Whole.lt HF2.out)).cell 1
       have kq2:wx.cell? ⟨w5.heap.size,2,none⟩=some (.int .i64 r.cls):=(Whole.under HI.out HF2.out (Whole.lt HF2.out)).cell 2
       have kq3:wx.cell? ⟨w5.heap.size,3,none⟩=some (.int .i64 r.cond):=(Whole.under HI.out HF2.out (Whole.lt HF2.out)).cell 3
       go_wp2_with fail
       exact hK _ _ (Below.refl _ _) HI.out rfl
      ·intro L a wx Q' hL hi H F hK
       try dsimp only at hi
       obtain⟨_,h44,rfl⟩:=H 2 ⟨.data,by simp,rfl⟩ _ rfl
       replace h44:=h44 _ rfl
       obtain⟨_,h45,rfl⟩:=H 3 ⟨.data,by simp,rfl⟩ _ rfl
       replace h45:=h45 _ rfl
       have HI:=Lib.hid hi
       clear H F hi hL
       have q:(Instr.lookup 105 (.map (some mb)) (.agg #[.int .i64 (y.1:Int),.int .i64 (y.2:Int),.int .i64 r.cls,.int .i64 r.cond]) false).run Tryz.prog wx=.ok (.agg #[.int .u32 (f (pkey r y)).allow,.int .u32 (f (pkey r y)).audit,.int .u32 (f (pkey r y)).dont]) wx:=(MapK.kept HM6.out (HI.out.block _ HM6.out.lt)).look HYK.out
       go_wp2_with fail
       exact hK _ _ (Below.refl _ _) HI.out rfl
      ·intro L a wx Q' hL hi H F hK
       try dsimp only at hi
       have h6:a.tmps[6]?=some (.pointer (some ⟨w2.heap.size,0,none⟩)):=F 6 rfl
       have HI:=Lib.hid hi
       clear H F hi hL
       have kq0:wx.cell? ⟨w2.heap.size,0,none⟩=some (.int .u32 V.allow):=(Whole.under HI.out HV6.out (Whole.lt HV6.out)).cell 0
       have kq1:wx.cell? ⟨w2.heap.size,1,none⟩=some (.int .u32 V.audit):=(Whole.under HI.out HV6.out (Whole.lt HV6.out)).cell 1
       have kq2:wx.cell? ⟨w2.heap.size,2,none⟩=some (.int .u32 V.dont):=(Whole.under HI.out HV6.out (Whole.lt HV6.out)).cell 2
       go_wp2_with fail
       exact hK _ _ (Below.refl _ _) HI.out rfl
      ·intro L a wx Q' hL hi H F hK
       try dsimp only at hi
       obtain⟨_,h46,rfl⟩:=H 4 ⟨.data,by simp,rfl⟩ _ rfl
       replace h46:=h46 _ rfl
       obtain⟨_,h47,rfl⟩:=H 5 ⟨.data,by simp,rfl⟩ _ rfl
       replace h47:=h47 _ rfl
       have HI:=Lib.hid hi
       clear H F hi hL
       go_wp2_with (go_at_call 60;go_must (refine(vor_any wx (f (pkey r y)) V).mono ?_;rintro e w1 ⟨rfl,hb1⟩))
       exact hK _ _ hb1 (HI.out.trans (hb1.mono HI.out.size)) rfl
      ·intro a wx hl L hi hL Q' hK
       try dsimp only at hi
       have HB:=Lib.hid hi
       clear hi hL
       obtain⟨_,rfl,_,rfl,_,rfl,_,rfl,_,rfl,_,rfl,_,rfl,rfl⟩:=hl
       simp only[List.setIfInBounds_toArray,List.set_cons_zero,List.set_cons_succ]
       go_wp2_with (refine wpList_put _ rfl (.tmp 42) (.tmp 43) (.tmp 48) 105 rfl (.map (some mb)) (.agg #[.int .i64 (y.1:Int),.int .i64 (y.2:Int),.int .i64 r.cls,.int .i64 r.cond]) (.agg #[.int .u32 ((f (pkey r y)).or V).allow,.int .u32 ((f (pkey r y)).or V).audit,.int .u32 ((f (pkey r y)).or V).dont]) rfl rfl rfl (fun w'=>MapK w' mb (m+1) (fun x=>if x=(pkey r y) then ((f (pkey r y)).or V) else f x)∧wx.grownBy w' (some mb)∧w'.heap.size=wx.heap.size) ((MapK.kept HM6.out (HB.out.block _ HM6.out.lt)).put HYK.out (AVec.or_ok _ _)) ?_;intro w7 hp;have HP:=Lib.hid hp;clear hp)
       go_roundw
       case rel=>exact⟨j+1,by omega,by go_num,HIO.out.step HFJ.out HMJ.out HB6.out HB.out HP.out.1 HP.out.2.1 HP.out.2.2 HY.out⟩
       case measure=>simp[intOf];omega
     ·obtain rfl:j=pn:=by omega
      have HX:=Lib.hid (show Expand w wr mb (kvR (l.take (i+1))) by
       have h:=HI.out.exp
       rw[HPN.out,List.take_length] at h
       rw[kvR_take HRI.out]
       exact h)
      go_wp2_with fail
      go_roundw
      case rel=>exact⟨i+1,by omega,by go_num,HX.out⟩
      case measure=>simp[intOf];omega
  ·obtain rfl:i=n:=by omega
   have hML:(kvR (l.take i)).length≤65536000:=by have:=kvR_len (l.take i);have:=List.length_take_le i l;omega
   have HC1:=Lib.hid (entries_canon wz mb _ _ HR.out.map (Nat.le_trans hML (by decide)))
   have HML:=Lib.hid hML
   clear hlen hlt hi hmx hML
   go_wp2_with (go_at_call 61;go_must (refine HC1.out.mono ?_;rintro e w1 ⟨v1,l1,rfl,hq⟩;have HQ:=Lib.hid hq;clear hq))
   go_ret
   obtain⟨hc1,ho1,hl1,hs1,hb1⟩:=HQ.out
   refine⟨_,l1,rfl,?_,ho1,Nat.le_trans hl1 HML.out,hs1,HR.out.blw.trans (hb1.mono HR.out.blw.size)⟩
   rwa [HL.out,List.take_length] at hc1
end Go.Proofs.YtdcofoaihmongaaGreat
namespace Go.Proofs.YtdcofoaihmongaaGreat.V
open Go
structure AEntry where
 src:Int
 tgt:Int
 cls:Int
 cond:Int
 allow:Int
 audit:Int
 dont:Int
deriving DecidableEq
def AEntry.cells (x:AEntry):List Value:=[.int .i64 x.src,.int .i64 x.tgt,.int .i64 x.cls,.int .i64 x.cond,.int .u32 x.allow,.int .u32 x.audit,.int .u32 x.dont]
theorem entry_len (x:AEntry):x.cells.length=7:=rfl
theorem entry_one (x:AEntry):∀ v∈x.cells,v.oneCell'=true:=fun v hv=>by simp[AEntry.cells] at hv;rcases hv with rfl | rfl | rfl | rfl | rfl | rfl | rfl<;>rfl
theorem ecells_one (l:List AEntry):∀ v∈l.flatMap AEntry.cells,v.oneCell'=true:=fun v hv=>by
 obtain⟨x,-,hx⟩:=List.mem_flatMap.1 hv
 exact entry_one x v hx
structure AVec where
 allow:Int
 audit:Int
 dont:Int
deriving DecidableEq
def AVec.cells (v:AVec):List Value:=[.int .u32 v.allow,.int .u32 v.audit,.int .u32 v.dont]
def AVec.or (v x:AVec):AVec:=⟨bits .or .u32 v.allow x.allow,bits .or .u32 v.audit x.audit,bits .or .u32 v.dont x.dont⟩
structure Key4 where
 src:Int
 tgt:Int
 cls:Int
 cond:Int
deriving DecidableEq
def Key4.cells (k:Key4):List Value:=[.int .i64 k.src,.int .i64 k.tgt,.int .i64 k.cls,.int .i64 k.cond]
def AEntry.key (e:AEntry):Key4:=⟨e.src,e.tgt,e.cls,e.cond⟩
def AEntry.vecs (e:AEntry):AVec:=⟨e.allow,e.audit,e.dont⟩
def AVec.zero:AVec:=⟨0,0,0⟩
def mkE (k:Key4) (v:AVec):AEntry:=⟨k.src,k.tgt,k.cls,k.cond,v.allow,v.audit,v.dont⟩
theorem mkE_key (k:Key4) (v:AVec):(mkE k v).key=k:=rfl
theorem mkE_vecs (k:Key4) (v:AVec):(mkE k v).vecs=v:=rfl
theorem mkE_eta (e:AEntry):mkE e.key e.vecs=e:=rfl
theorem entry_ext {x y:AEntry} (h1:x.key=y.key) (h2:x.vecs=y.vecs):x=y:=by rw[← mkE_eta x,← mkE_eta y,h1,h2]
def I64 (a:Int):Prop:=-9223372036854775808≤a∧a<9223372036854775808
def U32 (a:Int):Prop:=0≤a∧a<4294967296
structure Key4.Ok (k:Key4):Prop where
 src:I64 k.src
 tgt:I64 k.tgt
 cls:I64 k.cls
 cond:I64 k.cond
structure AVec.Ok (v:AVec):Prop where
 allow:U32 v.allow
 audit:U32 v.audit
 dont:U32 v.dont
def AEntry.Ok (x:AEntry):Prop:=x.key.Ok∧x.vecs.Ok
def befB (x y:AEntry):Bool:=decide (x.src<y.src∨x.src=y.src∧(x.tgt<y.tgt∨x.tgt=y.tgt∧(x.cls<y.cls∨x.cls=y.cls∧x.cond<y.cond)))
def Bef (x y:AEntry):Prop:=befB x y=true
theorem befB_iff {x y:AEntry}:befB x y=true↔Bef x y:=Iff.rfl
theorem Bef.irrefl (x:AEntry):¬ Bef x x:=by unfold Bef befB;simp
theorem Bef.trans (x y z:AEntry):Bef x y→Bef y z→Bef x z:=by unfold Bef befB;simp only[decide_eq_true_eq];omega
theorem bef_total {x y:AEntry} (h:x.key≠y.key) (h2:befB y x=false):Bef x y:=by
 have h:¬ (x.src=y.src∧x.tgt=y.tgt∧x.cls=y.cls∧x.cond=y.cond):=fun⟨a,b,c,d⟩=>h (by unfold AEntry.key;rw[a,b,c,d])
 unfold Bef befB
 unfold befB at h2
 simp only[decide_eq_true_eq,decide_eq_false_iff_not] at *
 omega
def Leq (x y:AEntry):Prop:=befB y x=false
theorem leq_of_lt {x y:AEntry} (h:befB x y=true):Leq x y:=by
 unfold Leq befB
 unfold befB at h
 simp only[decide_eq_true_eq,decide_eq_false_iff_not] at *
 omega
theorem befB_key {x x' y y':AEntry} (h1:x.key=x'.key) (h2:y.key=y'.key):befB x y=befB x' y':=by
 simp only[AEntry.key,Key4.mk.injEq] at h1 h2
 unfold befB
 rw[h1.1,h1.2.1,h1.2.2.1,h1.2.2.2,h2.1,h2.2.1,h2.2.2.1,h2.2.2.2]
structure Canon (f:Key4→AVec) (l:List AEntry):Prop where
 ord:l.Pairwise Bef
 mem:∀ e,e∈l↔e.vecs=f e.key∧f e.key≠AVec.zero
def updV (f:Key4→AVec) (k:Key4) (v:AVec):Key4→AVec:=fun x=>if x=k then (f k).or v else f x
def accum (l:List (Key4×AVec)):Key4→AVec:=l.foldl (fun f p=>updV f p.1 p.2) fun _=>AVec.zero
theorem accum_snoc (l:List (Key4×AVec)) (p:Key4×AVec):accum (l++[p])=updV (accum l) p.1 p.2:=by simp[accum,List.foldl_append]
theorem accum_nil:accum []=fun _=>AVec.zero:=rfl
theorem wrap32 (n:Int):IntKind.u32.wrap n=n%4294967296:=by simp[IntKind.wrap,IntKind.signed,IntKind.bits]
theorem or_bv (a b:Int):bits .or .u32 a b=((BitVec.ofInt 32 a|||BitVec.ofInt 32 b).toNat:Int):=by
 show IntKind.u32.wrap ((BitVec.ofInt 32 a|||BitVec.ofInt 32 b).toNat:Int)=_
 have h:=(BitVec.ofInt 32 a|||BitVec.ofInt 32 b).isLt
 rw[wrap32]
 omega
theorem or_u32 (a b:Int):U32 (bits .or .u32 a b):=by
 rw[or_bv]
 have h:=(BitVec.ofInt 32 a|||BitVec.ofInt 32 b).isLt
 exact⟨by omega,by omega⟩
theorem bv_or (a b:Int):BitVec.ofInt 32 (bits .or .u32 a b)=BitVec.ofInt 32 a|||BitVec.ofInt 32 b:=by rw[or_bv,BitVec.ofInt_natCast,BitVec.ofNat_toNat];simp
theorem bv_self {a:Int} (h:U32 a):((BitVec.ofInt 32 a).toNat:Int)=a:=by
 obtain⟨n,rfl⟩:∃ n:Nat,a=n:=⟨a.toNat,by have:=h.1;omega⟩
 rw[BitVec.ofInt_natCast,BitVec.toNat_ofNat,Nat.mod_eq_of_lt (by have:=h.2;omega)]
theorem or_comm32 (a b:Int):bits .or .u32 a b=bits .or .u32 b a:=by rw[or_bv,or_bv,BitVec.or_comm]
theorem or_assoc32 (a b c:Int):bits .or .u32 (bits .or .u32 a b) c=bits .or .u32 a (bits .or .u32 b c):=by rw[or_bv,or_bv a (bits .or .u32 b c),bv_or,bv_or,BitVec.or_assoc]
theorem or_zero32 {a:Int} (h:U32 a):bits .or .u32 a 0=a:=by rw[or_bv,show BitVec.ofInt 32 0=0#32 from rfl,BitVec.or_zero,bv_self h]
theorem or_self32 {a:Int} (h:U32 a):bits .or .u32 a a=a:=by rw[or_bv,BitVec.or_self,bv_self h]
theorem or_eq_zero32 {a b:Int} (ha:U32 a) (hb:U32 b) (h:bits .or .u32 a b=0):a=0∧b=0:=by
 rw[or_bv] at h
 have h':BitVec.ofInt 32 a|||BitVec.ofInt 32 b=0#32:=by
  apply BitVec.eq_of_toNat_eq;simpa using h
 have h1:BitVec.ofInt 32 a=0#32:=(BitVec.or_eq_zero_iff.1 h').1
 have h2:BitVec.ofInt 32 b=0#32:=(BitVec.or_eq_zero_iff.1 h').2
 exact⟨by rw[← bv_self ha,h1];rfl,by rw[← bv_self hb,h2];rfl⟩
theorem AVec.or_ok (u v:AVec):(u.or v).Ok:=⟨or_u32 _ _,or_u32 _ _,or_u32 _ _⟩
theorem AVec.or_comm (u v:AVec):u.or v=v.or u:=by simp only[AVec.or,or_comm32 u.allow,or_comm32 u.audit,or_comm32 u.dont]
theorem AVec.or_assoc (u v x:AVec):(u.or v).or x=u.or (v.or x):=by simp only[AVec.or,or_assoc32]
theorem AVec.or_zero {u:AVec} (h:u.Ok):u.or AVec.zero=u:=by simp only[AVec.or,AVec.zero,or_zero32 h.allow,or_zero32 h.audit,or_zero32 h.dont]
theorem AVec.zero_or {u:AVec} (h:u.Ok):AVec.zero.or u=u:=by rw[AVec.or_comm,AVec.or_zero h]
theorem AVec.or_self {u:AVec} (h:u.Ok):u.or u=u:=by simp only[AVec.or,or_self32 h.allow,or_self32 h.audit,or_self32 h.dont]
theorem AVec.zero_ok:AVec.zero.Ok:=by constructor<;>exact⟨by decide,by decide⟩
theorem AVec.or_eq_zero {u v:AVec} (hu:u.Ok) (hv:v.Ok) (h:u.or v=AVec.zero):u=AVec.zero∧v=AVec.zero:=by
 simp only[AVec.or,AVec.zero,AVec.mk.injEq] at h
 have h1:=or_eq_zero32 hu.allow hv.allow h.1
 have h2:=or_eq_zero32 hu.audit hv.audit h.2.1
 have h3:=or_eq_zero32 hu.dont hv.dont h.2.2
 cases u;cases v
 simp only[AVec.zero,AVec.mk.injEq] at *
 exact⟨⟨h1.1,h2.1,h3.1⟩,h1.2,h2.2,h3.2⟩
def kvs (l:List AEntry):List (Key4×AVec):=l.map fun e=>(e.key,e.vecs)
def accE (l:List AEntry):Key4→AVec:=accum (kvs l)
theorem accum_next (L:List (Key4×AVec)) (k:Key4) (v:AVec):accum (L++[(k,v)])=fun x=>if x=k then (accum L k).or v else accum L x:=by rw[accum_snoc];rfl
structure UniL (L O:List AEntry):Prop where
 nod:(O.map AEntry.key).Nodup
 mem:∀ e,e∈O↔e.vecs=accE L e.key∧accE L e.key≠AVec.zero
theorem accE_snoc (L:List AEntry) (x:AEntry):accE (L++[x])=fun k=>if k=x.key then (accE L x.key).or x.vecs else accE L k:=by
 unfold accE kvs
 rw[List.map_append,List.map_singleton,accum_next]
theorem accE_val (L:List AEntry) (k:Key4):(accE L k).Ok:=by
 have:∀ (L:List (Key4×AVec)) (f:Key4→AVec),(∀ k,(f k).Ok)→∀ k,((L.foldl (fun f p=>updV f p.1 p.2) f) k).Ok:=by
  intro L
  induction L with
  | nil=>intro f hf k;exact hf k
  | cons p L ih =>
   intro f hf k
   rw[List.foldl_cons]
   refine ih _ (fun x=>?_) k
   unfold updV
   split
   ·exact AVec.or_ok _ _
   ·exact hf x
 exact this _ _ (fun _=>AVec.zero_ok) k
theorem UniL.nil:UniL [] []:=⟨by simp,fun e=>by simp[accE,kvs,accum]⟩
theorem UniL.skip {L O:List AEntry} {x:AEntry} (h:UniL L O) (hx:x.vecs=AVec.zero):UniL (L++[x]) O:=by
 have e:accE (L++[x])=accE L:=by
  rw[accE_snoc]
  funext k
  split
  ·rename_i hk
   rw[hk,hx,AVec.or_zero (accE_val _ _)]
  ·rfl
 exact⟨h.nod,fun y=>by rw[e];exact h.mem y⟩
theorem UniL.no {L O:List AEntry} (h:UniL L O) {k:Key4} (hk:k∉O.map AEntry.key):accE L k=AVec.zero:=by
 apply Classical.byContradiction
 intro hne
 exact hk (List.mem_map.2 ⟨mkE k (accE L k),(h.mem _).2 ⟨rfl,hne⟩,rfl⟩)
theorem UniL.new {L O:List AEntry} {x:AEntry} (h:UniL L O) (hok:x.Ok) (hx:x.vecs≠AVec.zero) (hk:x.key∉O.map AEntry.key):UniL (L++[x]) (O++[x]):=by
 have hz:=h.no hk
 refine⟨?_,fun e=>?_⟩
 ·rw[List.map_append,List.map_singleton,List.nodup_append]
  refine⟨h.nod,by simp,fun a ha b hb e=>?_⟩
  simp at hb
  subst hb
  subst e
  exact hk ha
 ·rw[List.mem_append,List.mem_singleton,accE_snoc]
  by_cases he:e.key=x.key
  ·simp only[if_pos he,hz,AVec.zero_or hok.2]
   constructor
   ·rintro(h1 | rfl)
    ·exact absurd (he▸List.mem_map.2 ⟨e,h1,rfl⟩) hk
    ·exact⟨rfl,hx⟩
   ·rintro⟨h1,_⟩
    exact .inr (entry_ext he h1)
  ·simp only[if_neg he]
   rw[← h.mem]
   constructor
   ·rintro(h1 | rfl)
    ·exact h1
    ·exact absurd rfl he
   ·exact .inl
theorem UniL.join {L O:List AEntry} {x y:AEntry} {j:Nat} (h:UniL L O) (hy:O[j]?=some y) (hyk:y.key=x.key) (hok:x.Ok) (hx:x.vecs≠AVec.zero):UniL (L++[x]) (O.set j (mkE y.key (y.vecs.or x.vecs))):=by
 have hyo:y∈O:=List.mem_of_getElem? hy
 have hv:=(h.mem y).1 hyo
 have hjl:=(List.getElem?_eq_some_iff.1 hy).1
 have hkeys:(O.set j (mkE y.key (y.vecs.or x.vecs))).map AEntry.key=O.map AEntry.key:=by
  rw[List.map_set]
  refine List.ext_getElem? fun i=>?_
  rw[List.getElem?_set]
  by_cases e:j=i
  ·subst e
   rw[if_pos rfl,if_pos (by simpa using hjl),List.getElem?_map,hy]
   rfl
  ·rw[if_neg e]
 refine⟨by rw[hkeys];exact h.nod,fun e=>?_⟩
 rw[accE_snoc]
 have hor:(y.vecs.or x.vecs)=(accE L x.key).or x.vecs:=by rw[hv.1,hyk]
 have hne:(accE L x.key).or x.vecs≠AVec.zero:=fun h0=>hx (AVec.or_eq_zero (accE_val _ _) hok.2 h0).2
 by_cases he:e.key=x.key
 ·simp only[if_pos he]
  constructor
  ·intro hm
   obtain⟨i,hi⟩:=List.getElem?_of_mem hm
   rw[List.getElem?_set] at hi
   by_cases e1:j=i
   ·subst e1
    rw[if_pos rfl,if_pos hjl] at hi
    cases hi
    exact⟨hor,hne⟩
   ·rw[if_neg e1] at hi
    exfalso
    have hn:=List.nodup_iff_pairwise_ne.1 h.nod
    have hi1:(O.map AEntry.key)[i]?=some x.key:=by rw[List.getElem?_map,hi];simp[he]
    have hj1:(O.map AEntry.key)[j]?=some x.key:=by rw[List.getElem?_map,hy];simp[hyk]
    obtain⟨a1,a2⟩:=List.getElem?_eq_some_iff.1 hi1
    obtain⟨b1,b2⟩:=List.getElem?_eq_some_iff.1 hj1
    have hp:=List.pairwise_iff_getElem.1 hn
    rcases Nat.lt_trichotomy i j with hlt | hlt | hlt
    ·exact hp i j a1 b1 hlt (a2.trans b2.symm)
    ·exact e1 hlt.symm
    ·exact hp j i b1 a1 hlt (b2.trans a2.symm)
  ·rintro⟨h1,_⟩
   have:e=mkE y.key (y.vecs.or x.vecs):=entry_ext (he.trans hyk.symm) (h1.trans hor.symm)
   rw[this]
   exact List.mem_of_getElem? (i:=j) (by rw[List.getElem?_set,if_pos rfl,if_pos hjl])
 ·simp only[if_neg he]
  rw[← h.mem]
  constructor
  ·intro hm
   rcases List.mem_or_eq_of_mem_set hm with h1 | rfl
   ·exact h1
   ·exact absurd hyk he
  ·intro hm
   obtain⟨i,hi⟩:=List.getElem?_of_mem hm
   refine List.mem_of_getElem? (i:=i) ?_
   rw[List.getElem?_set,if_neg]
   ·exact hi
   ·intro e1
    subst e1
    rw[hy] at hi
    cases hi
    exact he hyk
theorem UniL.canon {L O R:List AEntry} (h:UniL L O) (hp:R.Perm O) (hs:R.Pairwise Leq):Canon (accE L) R:=by
 refine⟨?_,fun e=>(hp.mem_iff).trans (h.mem e)⟩
 have hnd:(R.map AEntry.key).Nodup:=(hp.map AEntry.key).nodup_iff.2 h.nod
 have hnd':R.Pairwise fun x y=>x.key≠y.key:=List.pairwise_map.1 hnd
 exact(hs.and hnd').imp fun {a b} hab=>bef_total hab.2 hab.1
def joinE (y x:AEntry):AEntry:=mkE y.key (y.vecs.or x.vecs)
def ins (x:AEntry):List AEntry→List AEntry
 | []=>[x]
 | y::l=>if befB x y then x::y::l else if befB y x then y::ins x l else joinE y x::l
theorem befB_asymm {x y:AEntry} (h:befB x y=true):befB y x=false:=by
 cases e:befB y x with
 | false=>rfl
 | true=>exact absurd (Bef.trans _ _ _ (befB_iff.1 h) (befB_iff.1 e)) (Bef.irrefl x)
theorem key_of_not {x y:AEntry} (h1:befB x y=false) (h2:befB y x=false):x.key=y.key:=by
 apply Classical.byContradiction
 intro hne
 have h:=bef_total hne h2
 rw[← befB_iff] at h
 rw[h] at h1
 cases h1
theorem not_of_key {x y:AEntry} (h:x.key=y.key):befB x y=false:=by
 rw[befB_key h (rfl:y.key=y.key)]
 cases e:befB y y with
 | false=>rfl
 | true=>exact absurd (befB_iff.1 e) (Bef.irrefl y)
theorem ins_key {x z:AEntry}:∀ {l:List AEntry},z∈ins x l→z.key=x.key∨z∈l
 | [],h=>by simp[ins] at h;exact .inl (by rw[h])
 | y::l,h=>by
  rw[ins] at h
  split at h
  ·rcases List.mem_cons.1 h with rfl | h
   ·exact .inl rfl
   ·exact .inr h
  ·split at h
   ·rcases List.mem_cons.1 h with rfl | h
    ·exact .inr (by simp)
    ·rcases ins_key h with e | e
     ·exact .inl e
     ·exact .inr (by simp[e])
   ·rename_i h1 h2
    rcases List.mem_cons.1 h with rfl | h
    ·exact .inl (show y.key=x.key from(key_of_not (x:=x) (y:=y) (by simpa using h1) (by simpa using h2)).symm)
    ·exact .inr (by simp[h])
theorem ins_sorted {x:AEntry}:∀ {l:List AEntry},l.Pairwise Bef→(ins x l).Pairwise Bef
 | [],_=>by simp[ins]
 | y::l,h=>by
  have h':=List.pairwise_cons.1 h
  rw[ins]
  split
  ·rename_i h1
   refine List.pairwise_cons.2 ⟨fun z hz=>?_,h⟩
   rcases List.mem_cons.1 hz with rfl | hz
   ·exact befB_iff.1 h1
   ·exact Bef.trans _ _ _ (befB_iff.1 h1) (h'.1 z hz)
  ·split
   ·rename_i h1 h2
    refine List.pairwise_cons.2 ⟨fun z hz=>?_,ins_sorted h'.2⟩
    rcases ins_key hz with e | e
    ·rw[← befB_iff,befB_key (rfl:y.key=y.key) e];exact h2
    ·exact h'.1 z e
   ·refine List.pairwise_cons.2 ⟨fun z hz=>?_,h'.2⟩
    rw[← befB_iff,befB_key (show(joinE y x).key=y.key from rfl) (rfl:z.key=z.key)]
    exact befB_iff.2 (h'.1 z hz)
theorem ins_new {x:AEntry}:∀ {l:List AEntry},x.key∉l.map AEntry.key→(ins x l).Perm (l++[x])
 | [],_=>by simp[ins]
 | y::l,h=>by
  have hk:x.key≠y.key:=fun e=>h (by simp[e])
  have hl:x.key∉l.map AEntry.key:=fun e=>h (by simp at e ⊢;exact .inr e)
  rw[ins]
  split
  ·exact(List.perm_append_singleton x (y::l)).symm
  ·split
   ·exact(ins_new hl).cons y
   ·rename_i h1 h2
    exact absurd (key_of_not (by simpa using h1) (by simpa using h2)) hk
theorem ins_old {x:AEntry}:∀ {l:List AEntry},l.Pairwise Bef→x.key∈l.map AEntry.key→∃ j y,l[j]?=some y∧y.key=x.key∧ins x l=l.set j (joinE y x)
 | [],_,h=>by simp at h
 | y::l,hs,h=>by
  have h':=List.pairwise_cons.1 hs
  rw[ins]
  by_cases hk:y.key=x.key
  ·refine⟨0,y,rfl,hk,?_⟩
   rw[if_neg (by rw[not_of_key hk.symm];simp),if_neg (by rw[not_of_key hk];simp)]
   rfl
  ·have hm:x.key∈l.map AEntry.key:=by
    rcases List.mem_cons.1 (by simpa using h:x.key∈y.key::l.map AEntry.key) with e | e
    ·exact absurd e.symm hk
    ·exact e
   obtain⟨j,z,h1,h2,h3⟩:=ins_old h'.2 hm
   have hyz:befB y z=true:=befB_iff.2 (h'.1 z (List.mem_of_getElem? h1))
   have hyx:befB y x=true:=by rw[befB_key (rfl:y.key=y.key) h2.symm];exact hyz
   refine⟨j+1,z,by simpa using h1,h2,?_⟩
   rw[if_neg (by rw[befB_asymm hyx];simp),if_pos hyx,h3]
   rfl
theorem canon_uni {L l:List AEntry} (h:Canon (accE L) l):UniL L l:=by
 refine⟨?_,h.mem⟩
 rw[List.nodup_iff_pairwise_ne,List.pairwise_map]
 exact h.ord.imp fun {a b} hab e=>by
  have:=not_of_key e
  rw[befB_iff.2 hab] at this
  cases this
theorem canon_ins {L l:List AEntry} {x:AEntry} (h:Canon (accE L) l) (hok:x.Ok) (hx:x.vecs≠AVec.zero):Canon (accE (L++[x])) (ins x l):=by
 have hu:=canon_uni h
 have hs:=ins_sorted (x:=x) h.ord
 have hle:(ins x l).Pairwise Leq:=hs.imp fun {a b} hab=>leq_of_lt hab
 by_cases hk:x.key∈l.map AEntry.key
 ·obtain⟨j,y,h1,h2,h3⟩:=ins_old h.ord hk
  rw[h3] at hle ⊢
  exact(hu.join h1 h2 hok hx).canon (List.Perm.refl _) hle
 ·exact(hu.new hok hx hk).canon (ins_new hk) hle
theorem canon_skip {L l:List AEntry} {x:AEntry} (h:Canon (accE L) l) (hx:x.vecs=AVec.zero):Canon (accE (L++[x])) l :=
 ⟨h.ord,((canon_uni h).skip hx).mem⟩
def addR (l:List AEntry) (x:AEntry):List AEntry:=if x.vecs=AVec.zero then l else ins x l
theorem canon_addR {L l:List AEntry} {x:AEntry} (h:Canon (accE L) l) (hok:x.Ok):Canon (accE (L++[x])) (addR l x):=by
 unfold addR
 split
 ·rename_i hx
  exact canon_skip h hx
 ·rename_i hx
  exact canon_ins h hok hx
theorem canon_none:Canon (accE []) []:=⟨List.Pairwise.nil,fun e=>by simp[accE,kvs,accum]⟩
def joinL (l:List AEntry):List AEntry:=l.foldl addR []
theorem joinL_snoc (l:List AEntry) (x:AEntry):joinL (l++[x])=addR (joinL l) x:=by simp[joinL,List.foldl_append]
theorem joinL_from:∀ (l L I:List AEntry),Canon (accE L) I→(∀ x∈l,x.Ok)→Canon (accE (L++l)) (l.foldl addR I)
 | [],L,I,h,_=>by simpa using h
 | x::l,L,I,h,hok=>by
  rw[List.foldl_cons,List.append_cons]
  exact joinL_from l _ _ (canon_addR h (hok x (by simp))) fun y hy=>hok y (by simp[hy])
theorem joinL_canon {l:List AEntry} (hok:∀ x∈l,x.Ok):Canon (accE l) (joinL l):=by
 have:=joinL_from l [] [] canon_none hok
 rwa [List.nil_append] at this
theorem vle_trans {u v x:AVec} (h1:u.or v=v) (h2:v.or x=x):u.or x=x:=by
 rw[← h2,← AVec.or_assoc,h1]
theorem vle_antisymm {u v:AVec} (h1:u.or v=v) (h2:v.or u=u):u=v:=by
 rw[← h1,AVec.or_comm,h2]
theorem fold_le {k:Key4} {V:AVec}:∀ (L:List (Key4×AVec)) (f:Key4→AVec),(f k).or V=V→(∀ p∈L,p.1=k→p.2.or V=V)→((L.foldl (fun f p=>updV f p.1 p.2) f) k).or V=V
 | [],_,hf,_=>hf
 | p::L,f,hf,h=>by
  rw[List.foldl_cons]
  refine fold_le L _ ?_ fun q hq=>h q (List.mem_cons_of_mem _ hq)
  unfold updV
  split
  ·rename_i e
   subst e
   rw[AVec.or_assoc,h p (by simp) rfl,hf]
  ·exact hf
theorem accum_le {L:List (Key4×AVec)} {k:Key4} {V:AVec} (hV:V.Ok) (h:∀ p∈L,p.1=k→p.2.or V=V):(accum L k).or V=V:=fold_le L _ (AVec.zero_or hV) h
theorem fold_ok:∀ (L:List (Key4×AVec)) (f:Key4→AVec),(∀ k,(f k).Ok)→∀ k,((L.foldl (fun f p=>updV f p.1 p.2) f) k).Ok
 | [],_,hf,k=>hf k
 | p::L,f,hf,k=>by
  rw[List.foldl_cons]
  refine fold_ok L _ (fun x=>?_) k
  unfold updV
  split
  ·exact AVec.or_ok _ _
  ·exact hf x
theorem accum_ok (L:List (Key4×AVec)) (k:Key4):(accum L k).Ok:=fold_ok L _ (fun _=>AVec.zero_ok) k
theorem fold_mono {k:Key4}:∀ (L:List (Key4×AVec)) (f:Key4→AVec),(∀ k,(f k).Ok)→(f k).or ((L.foldl (fun f p=>updV f p.1 p.2) f) k)=(L.foldl (fun f p=>updV f p.1 p.2) f) k
 | [],_,hf=>AVec.or_self (hf k)
 | p::L,f,hf=>by
  rw[List.foldl_cons]
  have hf':∀ x,(updV f p.1 p.2 x).Ok:=fun x=>by
   unfold updV
   split
   ·exact AVec.or_ok _ _
   ·exact hf x
  refine vle_trans ?_ (fold_mono L _ hf')
  unfold updV
  split
  ·rename_i e
   subst e
   rw[← AVec.or_assoc,AVec.or_self (hf _)]
  ·exact AVec.or_self (hf k)
theorem fold_has {p:Key4×AVec}:∀ (L:List (Key4×AVec)) (f:Key4→AVec),(∀ k,(f k).Ok)→p.2.Ok→p∈L→p.2.or ((L.foldl (fun f p=>updV f p.1 p.2) f) p.1)=(L.foldl (fun f p=>updV f p.1 p.2) f) p.1
 | q::L,f,hf,hp,hm=>by
  rw[List.foldl_cons]
  have hf':∀ x,(updV f q.1 q.2 x).Ok:=fun x=>by
   unfold updV
   split
   ·exact AVec.or_ok _ _
   ·exact hf x
  rcases List.mem_cons.1 hm with rfl | hm
  ·refine vle_trans ?_ (fold_mono L _ hf')
   unfold updV
   rw[if_pos rfl,AVec.or_comm (f p.1),← AVec.or_assoc,AVec.or_self hp]
  ·exact fold_has L _ hf' hp hm
theorem le_accum {L:List (Key4×AVec)} {p:Key4×AVec} (hp:p.2.Ok) (hm:p∈L):p.2.or (accum L p.1)=accum L p.1:=fold_has L _ (fun _=>AVec.zero_ok) hp hm
end Go.Proofs.YtdcofoaihmongaaGreat.V
namespace Go.Proofs.YtdcofoaihmongaaGreat.V
open Go Go.WideMaps Go.RowKit
theorem size102:(Tryz.prog.info? 102).map (·.size)=some 4:=by kernel_rfl
theorem size104:(Tryz.prog.info? 104).map (·.size)=some 3:=by kernel_rfl
theorem size94:(Tryz.prog.info? 94).map (·.size)=some 7:=by kernel_rfl
theorem size50:(Tryz.prog.info? 50).map (·.size)=some 1:=by kernel_rfl
theorem size97:(Tryz.prog.info? 97).map (·.size)=some 1:=by kernel_rfl
theorem size119:(Tryz.prog.info? 119).map (·.size)=some 1:=by kernel_rfl
theorem size40:(Tryz.prog.info? 40).map (·.size)=some 1:=by kernel_rfl
theorem info102:infoB (Tryz.prog.info? 102) 4 32=true:=by kernel_rfl
theorem info94:infoB (Tryz.prog.info? 94) 7 48=true:=by kernel_rfl
theorem info3:infoB (Tryz.prog.info? 3) 1 8=true:=by kernel_rfl
theorem info4:infoB (Tryz.prog.info? 4) 1 1=true:=by kernel_rfl
theorem arr60:ArrKey Tryz.prog 102 3 4:=⟨Tryz.underlying102,by kernel_rfl,by kernel_rfl,by kernel_rfl⟩
theorem keyed60:Maps.Keyed Tryz.prog 102:=Maps.Keyed.of_law arr60.law
theorem sizeT:∃ m,Tryz.prog.types.size=m+1:=⟨Tryz.prog.types.size-1,by have:0<Tryz.prog.types.size:=of_decide_eq_true (by kernel_rfl);omega⟩
theorem keyOf_quad {P:Program} {k e:TypeId} {q:IntKind} (A:ArrKey P k e 4) (he:P.underlying e=some (.int q)) (hsz:∃ m,P.types.size=m+1) {a b c d:Int} (wa:(Lit.int q a).wf=true) (wb:(Lit.int q b).wf=true) (wc:(Lit.int q c).wf=true) (wd:(Lit.int q d).wf=true) :
 keyOf P k (.agg #[.int q a,.int q b,.int q c,.int q d])=some (.string (keyBytes [.int q a,.int q b,.int q c,.int q d])):=by
 have hkt:=A.keyType hsz
 obtain⟨m,hm⟩:=hsz
 unfold keyOf
 simp only[A.hu]
 rw[if_pos (by simp[hkt,Value.formed,A.hu,A.size]),hm]
 unfold Program.keyLits
 simp only[A.hu,Value.cells]
 rw[if_pos (by rw[A.size];rfl),show List.range 4=[0,1,2,3] from rfl,List.mapM_cons,List.mapM_cons,List.mapM_cons,List.mapM_cons,List.mapM_nil]
 simp[A.one,Program.keyLits,he,wa,wb,wc,wd]
def kval (k:Key4):Value:=.agg #[.int .i64 k.src,.int .i64 k.tgt,.int .i64 k.cls,.int .i64 k.cond]
def vval (v:AVec):Value:=.agg #[.int .u32 v.allow,.int .u32 v.audit,.int .u32 v.dont]
theorem kval_inj {a b:Key4} (h:kval a=kval b):a=b:=by
 cases a;cases b;simpa[kval] using h
theorem i64_wf {a:Int} (h:I64 a):(Lit.int .i64 a).wf=true:=by
 have h1:(-9223372036854775808≤a∧a<9223372036854775808):=h
 simp[Lit.wf,IntKind.min,IntKind.max,IntKind.signed,IntKind.bits]
 omega
theorem key_ok {k:Key4} (h:k.Ok):∃ l,keyOf Tryz.prog 102 (kval k)=some l:=⟨_,keyOf_quad arr60 Tryz.underlying3 sizeT (i64_wf h.src) (i64_wf h.tgt) (i64_wf h.cls) (i64_wf h.cond)⟩
theorem zero62 (w:World):(zeroValue 104).run Tryz.prog w=.ok (vval AVec.zero) w:=by kernel_rfl
def cmpI (a b:Int):Int:=if a<b then -1 else if b<a then 1 else 0
theorem cmpI_zero {a b:Int}:cmpI a b=0↔a=b:=by
 unfold cmpI
 split
 ·constructor<;>intro h<;>omega
 ·split
  ·constructor<;>intro h<;>omega
  ·constructor<;>intro h<;>omega
theorem cmpI_neg {a b:Int}:cmpI a b<0↔a<b:=by
 unfold cmpI
 split
 ·constructor<;>intro h<;>omega
 ·split
  ·constructor<;>intro h<;>omega
  ·constructor<;>intro h<;>omega
theorem compare_0 (w:World) (a b:Int) (h:a<b):Calls Tryz.prog 210 #[.int .i64 a,.int .i64 b] w fun e w'=>e=.returned (.int .i64 (-1))∧w=w':=by
 go_enter Tryz.func210,Tryz.ntmps210
 go_wp2
 go_ret
 exact⟨rfl,rfl⟩
theorem compare_1 (w:World) (a b:Int) (h:b<a):Calls Tryz.prog 210 #[.int .i64 a,.int .i64 b] w fun e w'=>e=.returned (.int .i64 1)∧w=w':=by
 have h1:¬ a<b:=by omega
 go_enter Tryz.func210,Tryz.ntmps210
 go_wp2
 go_ret
 exact⟨rfl,rfl⟩
theorem compare_2 (w:World) (a b:Int) (h:a=b):Calls Tryz.prog 210 #[.int .i64 a,.int .i64 b] w fun e w'=>e=.returned (.int .i64 0)∧w=w':=by
 subst h
 go_enter Tryz.func210,Tryz.ntmps210
 go_wp2
 go_ret
 exact⟨rfl,rfl⟩
theorem compare_any (w:World) (a b:Int):Calls Tryz.prog 210 #[.int .i64 a,.int .i64 b] w fun e w'=>e=.returned (.int .i64 (cmpI a b))∧w=w':=by
 unfold cmpI
 by_cases h:a<b
 ·rw[if_pos h];exact compare_0 w a b h
 ·rw[if_neg h]
  by_cases h1:b<a
  ·rw[if_pos h1];exact compare_1 w a b h1
  ·rw[if_neg h1];exact compare_2 w a b (by omega)
def anInt (x:Int):Value:=.int .i64 x
def cmpL:List Int→List Int→Int
 | x::a,y::b=>if x=y then cmpL a b else cmpI x y
 | _,_=>0
theorem cmpL_skip:∀ (k:Nat) (a b:List Int),a.length=b.length→(∀ j,j<k→a[j]?=b[j]?)→cmpL a b=cmpL (a.drop k) (b.drop k)
 | 0,_,_,_,_=>rfl
 | k+1,[],[],_,_=>by simp
 | k+1,x::a,y::b,hl,h=>by
  have h0:=h 0 (by omega)
  simp at h0
  subst h0
  rw[List.drop_succ_cons,List.drop_succ_cons,← cmpL_skip k a b (by simpa using hl) fun j hj=>by have:=h (j+1) (by omega);simpa using this]
  simp[cmpL]
 | k+1,[],_::_,hl,_=>by simp at hl
 | k+1,_::_,[],hl,_=>by simp at hl
set_option maxHeartbeats 4000000 in
theorem sliceCompare_any (w:World) (v v':Value) (N:Nat) (la lb:List Int) (h:SliceAt w v 1 N (la.map anInt)) (h':SliceAt w v' 1 N (lb.map anInt)) (ha:la.length=N) (hb:lb.length=N):Calls Tryz.prog 251 #[v,v'] w fun e w'=>e=.returned (.int .i64 (cmpL la lb))∧w=w':=by
 obtain⟨a,c,rfl,hac,hmx,HA⟩:=h.form (by decide)
 obtain⟨a',c',rfl,hac',-,HA'⟩:=h'.form (by decide)
 have H1:=Lib.hid HA
 have H2:=Lib.hid HA'
 have HNA:=Lib.hid ha
 have HNB:=Lib.hid hb
 clear HA HA' h h' ha hb
 go_enter Tryz.func251,Tryz.ntmps251
 go_wp2
 go_loop [11] (fun i=>∃ n:Nat,n≤N∧i=.int .i64 n∧Hid (∀ j,j<n→la[j]?=lb[j]?)) (fun i=>N-(intOf i).toNat)
 case atStart=>exact⟨0,Nat.zero_le _,rfl,fun j hj=>by omega⟩
 case round =>
  obtain⟨n,hn,rfl,hpre⟩:=hrel
  by_cases hlt:n<N
  ·obtain⟨b,off,rfl,hc⟩:=H1.out n hlt
   obtain⟨b',off',rfl,hc'⟩:=H2.out n hlt
   obtain⟨x,hx⟩:∃ x,la[n]?=some x:=⟨_,List.getElem?_eq_getElem (by have:=HNA.out;omega)⟩
   obtain⟨y,hy⟩:∃ y,lb[n]?=some y:=⟨_,List.getElem?_eq_getElem (by have:=HNB.out;omega)⟩
   have c0:w.cell? ⟨b,off+n*1,none⟩=some (.int .i64 x):=hc 0 _ (by simp[hx,anInt])
   have d0:w.cell? ⟨b',off'+n*1,none⟩=some (.int .i64 y):=hc' 0 _ (by simp[hy,anInt])
   rw[Nat.mul_one] at c0 d0
   have HX:=Lib.hid hx
   have HY:=Lib.hid hy
   clear hx hy hc hc'
   by_cases h0:x=y
   ·subst h0
    have hz:((cmpI x x:Int) != 0)=false:=by simp[cmpI]
    obtain⟨z,hz'⟩:∃ z,z=cmpI x x:=⟨_,rfl⟩
    rw[← hz'] at hz
    have HZ:=Lib.hid hz'
    have HCM:=Lib.hid (show ∀ W,Calls Tryz.prog 210 #[.int .i64 x,.int .i64 x] W fun e w'=>e=.returned (.int .i64 z)∧W=w' from fun W=>by rw[hz'];exact compare_any W x x)
    clear hz'
    go_wp2_with (go_at_call 210;go_must (refine(HCM.out w).mono ?_;rintro e w1 ⟨rfl,rfl⟩))
    go_round
    case rel=>exact⟨n+1,by omega,by go_num,fun j hj=>by
     by_cases hjn:j=n
     ·subst hjn;exact HX.out.trans HY.out.symm
     ·exact hpre.out j (by omega)⟩
    case measure=>simp[intOf];omega
   ·have hne:cmpI x y≠0:=fun e=>h0 (cmpI_zero.1 e)
    have hz:((cmpI x y:Int) != 0)=true:=by simpa using hne
    obtain⟨z,hz'⟩:∃ z,z=cmpI x y:=⟨_,rfl⟩
    rw[← hz'] at hz
    have HZ:=Lib.hid (And.intro hz' h0)
    have HCM:=Lib.hid (show ∀ W,Calls Tryz.prog 210 #[.int .i64 x,.int .i64 y] W fun e w'=>e=.returned (.int .i64 z)∧W=w' from fun W=>by rw[hz'];exact compare_any W x y)
    clear hz' hne h0
    go_wp2_with (go_at_call 210;go_must (refine(HCM.out w).mono ?_;rintro e w1 ⟨rfl,rfl⟩))
    go_ret
    refine⟨ret_int ?_,rfl⟩
    rw[cmpL_skip n la lb (by rw[HNA.out,HNB.out]) hpre.out]
    have hl:n<la.length:=by have:=HNA.out;omega
    have hl':n<lb.length:=by have:=HNB.out;omega
    rw[List.drop_eq_getElem_cons hl,List.drop_eq_getElem_cons hl']
    have e:la[n]=x:=Option.some.inj ((List.getElem?_eq_getElem hl).symm.trans HX.out)
    have e':lb[n]=y:=Option.some.inj ((List.getElem?_eq_getElem hl').symm.trans HY.out)
    rw[e,e',cmpL,if_neg HZ.out.2,HZ.out.1]
  ·obtain rfl:n=N:=by omega
   go_wp2
   go_ret
   refine⟨ret_int ?_,rfl⟩
   rw[cmpL_skip n la lb (by rw[HNA.out,HNB.out]) hpre.out,List.drop_of_length_le (by rw[HNA.out];exact Nat.le_refl _),List.drop_of_length_le (by rw[HNB.out];exact Nat.le_refl _)]
   rfl
end Go.Proofs.YtdcofoaihmongaaGreat.V
namespace Go.Proofs.YtdcofoaihmongaaGreat.V
open Go Go.WideMaps Go.RowKit
def Key4.list (k:Key4):List Int:=[k.src,k.tgt,k.cls,k.cond]
def cmpK (a b:Key4):Int:=cmpL a.list b.list
theorem cmpK_neg (a b:AEntry):(cmpK a.key b.key<0)↔befB a b=true:=by
 unfold cmpK Key4.list AEntry.key befB
 simp only[cmpL,decide_eq_true_eq]
 by_cases h0:a.src=b.src
 ·by_cases h1:a.tgt=b.tgt
  ·by_cases h2:a.cls=b.cls
   ·by_cases h3:a.cond=b.cond
    ·simp[h0,h1,h2,h3]
    ·simp[h0,h1,h2,h3,cmpI_neg]
   ·simp[h0,h1,h2,cmpI_neg]
  ·simp[h0,h1,cmpI_neg]
 ·simp[h0,cmpI_neg]
theorem cmpK_zero (a b:Key4):cmpK a b=0↔a=b:=by
 obtain⟨a0,a1,a2,a3⟩:=a
 obtain⟨b0,b1,b2,b3⟩:=b
 unfold cmpK Key4.list
 simp only[cmpL,Key4.mk.injEq]
 by_cases h0:a0=b0
 ·by_cases h1:a1=b1
  ·by_cases h2:a2=b2
   ·by_cases h3:a3=b3
    ·simp[h0,h1,h2,h3]
    ·simp[h0,h1,h2,h3,cmpI_zero]
   ·simp[h0,h1,h2,cmpI_zero]
  ·simp[h0,h1,cmpI_zero]
 ·simp[h0,cmpI_zero]
theorem whole_slice {w:World} {g n:Nat} {t:TypeId} {cs:List Value} (h:Whole w g t cs.toArray) (hn:cs.length=n) (hm:n≤maxLen) (h1:∀ u∈cs,u.oneCell'=true):SliceAt w (.slice (some ⟨g,0,none⟩) n n) 1 n cs :=
 ⟨by omega,hm,h1,.inr ⟨_,n,rfl,Nat.le_refl _,fun j u hu=>by
  rw[Addr.add_mid,h.cell,Nat.zero_add]
  simpa using hu⟩⟩
theorem whole_two (w:World) (o:Obj) (cs:Array Value) (t:TypeId):Whole ((w.alloc o).alloc (.cells cs t)) (w.heap.size+1) t cs:=by
 have h:=Whole.new (w.alloc o) t cs
 have e:(w.alloc o).heap.size=w.heap.size+1:=by simp
 rwa [e] at h
theorem below_drewN {w w':World} {B:Nat} (h:Below B w w') (n:Nat):Below B w (w'.drewN n):=⟨h.os,h.tape,h.output,h.size,h.block⟩
theorem list_one (k:Key4):∀ u∈k.cells,u.oneCell'=true:=fun u hu=>by
 simp[Key4.cells] at hu
 rcases hu with rfl | rfl | rfl | rfl<;>rfl
set_option maxHeartbeats 4000000 in
theorem compareK_any (w:World) (a b:Key4):Calls Tryz.prog 204 #[.agg #[.int .i64 a.src,.int .i64 a.tgt,.int .i64 a.cls,.int .i64 a.cond],.agg #[.int .i64 b.src,.int .i64 b.tgt,.int .i64 b.cls,.int .i64 b.cond]] w fun e w'=>e=.returned (.int .i64 (cmpK a b))∧Below w.heap.size w w':=by
 obtain⟨wo,hwo⟩:∃ wo,wo=(w.alloc (.cells #[.int .i64 a.src,.int .i64 a.tgt,.int .i64 a.cls,.int .i64 a.cond] 102)).alloc (.cells #[.int .i64 b.src,.int .i64 b.tgt,.int .i64 b.cls,.int .i64 b.cond] 102):=⟨_,rfl⟩
 have HA:=Lib.hid (show Whole wo w.heap.size 102 a.cells.toArray by rw[hwo];exact(Whole.new w 102 _).alloc _)
 have HB:=Lib.hid (show Whole wo (w.heap.size+1) 102 b.cells.toArray by rw[hwo];exact whole_two w _ b.cells.toArray _)
 have HBO:=Lib.hid (show Below w.heap.size w wo by rw[hwo];exact((Below.refl _ w).alloc (Nat.le_refl _) _).alloc (by simp) _)
 have HSA:=Lib.hid (fun n=>(whole_slice (n:=4) HA.out rfl (by unfold maxLen;omega) (list_one a)).keep (below_drewN (Below.refl _ wo) n))
 have HSB:=Lib.hid (fun n=>(whole_slice (n:=4) HB.out rfl (by unfold maxLen;omega) (list_one b)).keep (below_drewN (Below.refl _ wo) n))
 go_enter Tryz.func204,Tryz.ntmps204
 go_upto_region 1 with fail
 rw[← hwo]
 clear hwo
 go_quiet ((go_at_call 251;exact Calls.quiet_of_same ((sliceCompare_any _ _ _ 4 a.list b.list (HSA.out _) (HSB.out _) rfl rfl).mono fun e w' ⟨h1,h2⟩=>⟨h1,h2.symm⟩)))
 go_wp2
 go_ret
 exact⟨rfl,below_drewN HBO.out _⟩
end Go.Proofs.YtdcofoaihmongaaGreat.V

import Derived.BigQuiet
import Derived.ChangeKeysEq
import Derived.Deep.DeepCutAuto
import Derived.DeepKeys4
import Derived.Handy
import Derived.Laws.Bits64b
import Derived.Laws.Entries
import Derived.Laws.MakeOwn
import Derived.Laws.StructEq
import Derived.Lib.Hide
import Derived.Shelf.SlSortCmp.Insertion
import Derived.Sort.Grow
import Derived.Sort.LotA
import Derived.Test.YtdcofoaihmongaaGreatRows
import Derived.WideKeyMaps
import Derived.WideKeyPair
import Derived.Test.YtdcofoaihmongaaGreatS0
open Bool renaming and_eq_true→asG
open Go renaming cell_later→asw,wpList_nil→asF
open Go.Lib renaming hid→asv
open Go.RowKit renaming Below→asD
open Go.Sem renaming run_bind→asA
open List renaming getElem?_eq_some_iff→asn,mem_cons→aso,all_eq_true→asq,mem_of_getElem?→asr,getElem?_map→asu,length_append→asx,mem_map→asy,mem_cons_of_mem→asB,mem_cons_self→asC,mem_singleton→asE,length_take→asH,getElem?_append_left→asK
open Nat renaming le_trans→asz,mul_le_mul_right→asI,eq_of_beq_eq_true→asJ
open Option.some renaming inj→asp
set_option maxRecDepth 100000
set_option maxHeartbeats 8000000
namespace Go.Proofs.YtdcofoaihmongaaGreat
open Go.RowKit
abbrev Gd:=(Nat→Bool)→Value→World→Prop
def yR(x:Value):Gd:=fun _ v _=>x=v
def Dd(L:Nat→Bool)(d:List Deferred)(w:World)(a:Act):List (Option Nat)→List Gd→Array Value→Prop
 | some s::ss,g::gs,t=>∃ u,g L u w∧Dd L d w a ss gs (t.setIfInBounds s u)
 | none::ss,g::gs,t=>∃ u,g L u w∧Dd L d w a ss gs t
 | _,_,t=>a=⟨t,d⟩
structure uD (slots:List (Option Nat)) (aF:List Gd) (inv:World→Prop) (t:Array Value) (d:List Deferred) (L:Nat→Bool) (a:Act) (w:World):Prop where
 defers:a.defers=d
 inv:inv w
 done:∀ i,L i=true→i<slots.length→∀ g,aF[i]?=some g→∃ v,(∀ s,slots[i]?=some (some s)→a.tmps[s]?=some v)∧g L v w
 rest:∀ j,slots.contains (some j)=false→a.tmps[j]?=t[j]?
 size:a.tmps.size=t.size
theorem Ac{L:Nat→Bool}{d:List Deferred}{w:World}{a:Act}(hd:a.defers=d):∀ (slots:List (Option Nat)) (aF:List Gd) (t:Array Value),slots.length=aF.length →
 (∀ (i:Nat) (g:Gd),aF[i]?=some g→∃ v,(∀ s,slots[i]?=some (some s)→a.tmps[s]?=some v)∧g L v w)→(∀ j,slots.contains (some j)=false→a.tmps[j]?=t[j]?)→a.tmps.size=t.size→Dd L d w a slots aF t
 | [],[],t,_,_,hr,_=>by
  show a=⟨t,d⟩;obtain⟨at',ad⟩:=a;have e1:at'=t:=Array.ext_getElem? fun j=>hr j rfl
  have e2:ad=d:=hd;rw[e1,e2]
 | none::ss,g::gs,t,hl,hg,hr,hs=>by
  obtain⟨u,_,Am⟩:=hg 0 g rfl;refine⟨u,Am,Ac hd ss gs _ (by simpa using hl) (fun i g' h2=>?_) (fun j hj=>hr j ?_) hs⟩
  ·obtain⟨v,h3,h4⟩:=hg (i+1) g' (by simpa using h2);exact⟨v,fun s' h1=>h3 s' (by simpa using h1),h4⟩
  ·simp only[List.contains_cons,hj,Bool.or_false];rfl
 | some s::ss,g::gs,t,hl,hg,hr,hs=>by
  obtain⟨u,hu,Am⟩:=hg 0 g rfl;have hu:=hu s rfl;refine⟨u,Am,Ac hd ss gs _ (by simpa using hl) (fun i g' h2=>?_) (fun j hj=>?_) (by rw[Array.size_setIfInBounds];exact hs)⟩
  ·obtain⟨v,h3,h4⟩:=hg (i+1) g' (by simpa using h2);exact⟨v,fun s' h1=>h3 s' (by simpa using h1),h4⟩
  ·by_cases h:s=j
   ·subst h;have hlt:s<a.tmps.size:=(Array.getElem?_eq_some_iff.1 hu).1;rw[hu,Array.getElem?_setIfInBounds_self_of_lt (by omega)]
   ·rw[Array.getElem?_setIfInBounds_ne h];refine hr j ?_;have h1:¬ j=s:=fun e=>h e.symm
    simp only[List.contains_cons,hj,Bool.or_false];simpa using h1
 | [],_::_,_,hl,_,_,_=>by simp at hl
 | _::_,[],_,hl,_,_,_=>by simp at hl
theorem uD.laid{slots:List (Option Nat)}{aF:List Gd}{inv:World→Prop}{t:Array Value}{d:List Deferred}{L:Nat→Bool}{a:Act}{w:World}(h:uD slots aF inv t d L a w)(hl:slots.length=aF.length)
 (hL:∀ i,i<slots.length→L i=true):Dd L d w a slots aF t:=
 Ac h.defers slots aF t hl (fun i g h2=>h.done i (hL i (by rw[hl];exact(asn.1 h2).1)) (by rw[hl];exact(asn.1 h2).1) g h2) h.rest h.size
def LP(ms:List Nat):List Gd→Prop
 | []=>True
 | g::r=>(∀ (L:Nat→Bool) (i:Nat) v w w',ms.contains i=false→g L v w→Below w.heap.size w w'→g (upd L i) v w')∧LP ms r
theorem Aa{ms:List Nat}:∀ {l:List Gd},LP ms l→∀ g∈l,∀ (L:Nat→Bool) (i:Nat) v w w',ms.contains i=false→g L v w→Below w.heap.size w w'→g (upd L i) v w'
 | [],_,_,h=>by cases h
 | x::r,h,g,hg=>by
  rcases aso.1 hg with rfl|hg
  ·exact h.1
  ·exact Aa h.2 g hg
theorem bI{ms:List Nat}(x:Value):∀ (L:Nat→Bool) (i:Nat) v w w',ms.contains i=false→yR x L v w→Below w.heap.size w w'→yR x (upd L i) v w':=fun _ _ _ _ _ _ h _=>h
def zi(slots:List (Option Nat))(L:Nat→Bool)(a:Act)(w w':World)(i:Nat):Nat→List Gd→Prop
 | _,[]=>True
 | j,g::r=>(j≠i→L j=true→∀ v,(∀ s,slots[j]?=some (some s)→a.tmps[s]?=some v)→g L v w→g (upd L i) v w')∧zi slots L a w w' i (j+1) r
theorem Ae{slots:List (Option Nat)}{L:Nat→Bool}{a:Act}{w w':World}{i:Nat}:∀ {k:Nat} {l:List Gd},zi slots L a w w' i k l→∀ (j:Nat) (g:Gd),l[j]?=some g→k+j≠i→L (k+j)=true→∀ v,(∀ s,slots[k+j]?=some (some s)→a.tmps[s]?=some v)→g L v w→g (upd L i) v w'
 | _,[],_,j,_,h=>by simp at h
 | _,x::_,h,0,g,hg=>by
  simp at hg;subst hg;exact h.1
 | k,_::r,h,j+1,g,hg=>by
  have:=Ae h.2 j g (by simpa using hg)
  rwa [show k+1+j=k+(j+1) by omega] at this
def Da(ms:List Nat)(slots:List (Option Nat))(aF:List Gd)(L:Nat→Bool)(a:Act)(w w':World)(i:Nat):Prop:=match ms.contains i with
 | true=>zi slots L a w w' i 0 aF
 | false=>Below w.heap.size w w'
theorem JV{ms:List Nat}{slots:List (Option Nat)}{aF:List Gd}{L:Nat→Bool}{a:Act}{w w':World}{i:Nat}(h:ms.contains i=true):Da ms slots aF L a w w' i=zi slots L a w w' i 0 aF:=by unfold Da;rw[h]
theorem Gt{ms:List Nat}{slots:List (Option Nat)}{aF:List Gd}{L:Nat→Bool}{a:Act}{w w':World}{i:Nat}(h:ms.contains i=false):Da ms slots aF L a w w' i=Below w.heap.size w w':=by unfold Da;rw[h]
theorem uD.put{slots:List (Option Nat)}{aF:List Gd}{inv:World→Prop}{t:Array Value}{d:List Deferred}{L:Nat→Bool}{a:Act}{w w':World}{i:Nat}{s:Option Nat}{v:Value}{L':Nat→Bool}(h:uD slots aF inv t d L a w)
 (hnd:(slots.filterMap fun x=>x).Nodup) (hbd:slots.all (fun s=>decide (s.getD 0<t.size))=true) (hst:∀ (j:Nat) (g:Gd),aF[j]?=some g→j≠i→L j=true→∀ v,(∀ s,slots[j]?=some (some s)→a.tmps[s]?=some v)→g L v w→g L' v w') {Sn:World→Prop} (hinv:Sn w') (hs:slots[i]?=some s) (hg:∀ g:Gd,aF[i]?=some g→g L' v w')
 (hL:∀ j,L' j=true→j=i∨L j=true):uD slots aF Sn t d L' (a.put s v) w':=by
 cases s with
 | none=>
  refine⟨h.defers,hinv,?_,h.rest,h.size⟩;intro j hj hjl g' hg';by_cases hji:j=i
  ·subst hji;exact⟨v,fun s' hs'=>(by rw[hs] at hs';cases hs'),hg g' hg'⟩
  ·obtain⟨u,hu,Am⟩:=h.done j ((hL j hj).resolve_left hji) hjl g' hg';exact⟨u,hu,hst j g' hg' hji ((hL j hj).resolve_left hji) u hu Am⟩
 | some s=>
  refine⟨h.defers,hinv,?_,?_,?_⟩
  ·intro j hj hjl g' hg';by_cases hji:j=i
   ·subst hji;refine⟨v,fun s' hs'=>?_,hg g' hg'⟩;obtain rfl:s=s':=asp (asp (hs.symm.trans hs'))
    have hlt:s<a.tmps.size:=by
     rw[h.size];have:=asq.1 hbd (some s) (asr hs);simpa using this
    show(a.tmps.setIfInBounds s v)[s]?=some v;rw[Array.getElem?_setIfInBounds_self_of_lt hlt]
   ·obtain⟨u,hu,Am⟩:=h.done j ((hL j hj).resolve_left hji) hjl g' hg';refine⟨u,fun s' hs'=>?_,hst j g' hg' hji ((hL j hj).resolve_left hji) u hu Am⟩;have hne:s≠s':=fun e=>hji (zT hnd (e▸hs') hs)
    show(a.tmps.setIfInBounds s v)[s']?=some u;rw[Array.getElem?_setIfInBounds_ne hne];exact hu s' hs'
  ·intro j hj
   have hne:s≠j:=fun e=>by
    have hm:some j∈slots:=e▸asr hs;have:slots.contains (some j)=true:=by simpa using hm
    rw[this] at hj;cases hj
   show(a.tmps.setIfInBounds s v)[j]?=t[j]?;rw[Array.getElem?_setIfInBounds_ne hne];exact h.rest j hj
  ·show(a.tmps.setIfInBounds s v).size=t.size;rw[Array.size_setIfInBounds];exact h.size
def su(P:Program)(ops:Array Oper)(slots:List (Option Nat))(aF:List Gd)(inv:(Nat→Bool)→World→Prop)(ms:List Nat)(t:Array Value)(d:List Deferred)(Q:Exit→Act→World→Prop):Nat→List Oper→List Gd→Prop
 | i,o::r,g::gs=>(∀ (L:Nat→Bool) (a:Act) (w:World) (Q':Exit→Act→World→Prop),L i=false→inv L w →
  (∀ k,(∃ gr,(⟨k,gr⟩:Edge)∈o.after.toList∧Region.binds .any ⟨k,gr⟩=true)→∀ g,aF[k]?=some g→∃ v,(∀ s,slots[k]?=some (some s)→a.tmps[s]?=some v)∧g L v w) →
  (∀ j,slots.contains (some j)=false→a.tmps[j]?=t[j]?) →
  (∀ v w',Da ms slots aF L a w w' i→inv (upd L i) w'→g (upd L i) v w'→Q' .normal (a.put o.dst v) w')→wpList P ops Q' [o] a w)∧su P ops slots aF inv ms t d Q (i+1) r gs
 | _,[o],[]=>∀ (a:Act) (w:World) (L:Nat→Bool),Dd L d w a slots aF t→inv L w→(∀ i,i<slots.length→L i=true)→∀ (Q':Exit→Act→World→Prop),(∀ a w,Q .normal a w→Q' .normal a w)→wpList P ops Q' [o] a w
 | _,_,_=>False
theorem GJ{P:Program}{ops:Array Oper}{slots:List (Option Nat)}{aF:List Gd}{inv:(Nat→Bool)→World→Prop}{ms:List Nat}{t:Array Value}{d:List Deferred}{Q:Exit→Act→World→Prop}:∀ (k:Nat) (l:List Oper) (gs:List Gd),su P ops slots aF inv ms t d Q k l gs →
 l.length=gs.length+1 ∧
 (∀ (i:Nat) (o:Oper),l[i]?=some o→i<gs.length →
 (∀ (L:Nat→Bool) (a:Act) (w:World) (Q':Exit→Act→World→Prop),L (k+i)=false→inv L w →
  (∀ k,(∃ gr,(⟨k,gr⟩:Edge)∈o.after.toList∧Region.binds .any ⟨k,gr⟩=true)→∀ g,aF[k]?=some g→∃ v,(∀ s,slots[k]?=some (some s)→a.tmps[s]?=some v)∧g L v w) →
  (∀ j,slots.contains (some j)=false→a.tmps[j]?=t[j]?) →
  (∀ v w',Da ms slots aF L a w w' (k+i)→inv (upd L (k+i)) w'→(∀ g:Gd,gs[i]?=some g→g (upd L (k+i)) v w')→Q' .normal (a.put o.dst v) w')→wpList P ops Q' [o] a w)) ∧
 (∀ o,l[gs.length]?=some o→∀ (a:Act) (w:World) (L:Nat→Bool),Dd L d w a slots aF t→inv L w→(∀ i,i<slots.length→L i=true)→∀ (Q':Exit→Act→World→Prop),(∀ a w,Q .normal a w→Q' .normal a w)→wpList P ops Q' [o] a w)
 | k,x::r,g::gs,h=>by
  obtain⟨h1,h2,h3⟩:=GJ (k+1) r gs h.2;refine⟨by simpa using h1,?_,fun o ho=>h3 o (by simpa using ho)⟩;intro i o ho hi
  cases i with
  | zero=>
   simp at ho;subst ho
   exact fun L a w Q' h0 h1 h2 h3 h4=>h.1 L a w Q' h0 h1 h2 h3 fun v w' hb hi hg=>h4 v w' hb hi fun g' e=>by
    simp at e;rw[← e];exact hg
  | succ i=>
   have:=h2 i o (by simpa using ho) (by simpa using hi);rw[show k+1+i=k+(i+1) by omega] at this;simpa using this
 | _,[o],[],h=>⟨rfl,fun i o' _ hi=>by simp at hi,fun o' ho'=>by simp at ho';subst ho';exact h⟩
 | _,[],_,h=>by cases ‹List Gd›<;>exact h.elim
 | _,_::_::_,[],h=>h.elim
section
variable {P:Program} {Q:Exit→Act→World→Prop}
theorem jX{id:Nat}{l:List Oper}{t:Array Value}{d:List Deferred}{w:World}(slots:List (Option Nat))(aF:List Gd)(inv:(Nat→Bool)→World→Prop)(ms:List Nat)
 (hm:P.follows .mixedOrders=true) (eM:ordered 0 l=true) (Hy:consumed l=true) (gi:(l.map (·.dst)).take slots.length=slots) (hnd:(slots.filterMap fun x=>x).Nodup) (hbd:slots.all (fun s=>decide (s.getD 0<t.size))=true) (hlen:slots.length=aF.length)
 (h0:inv (fun _=>false) w.drew) (Zi:LP ms aF)
 (hstep:su P l.toArray slots aF inv ms t d Q 0 l aF) :
 (Code.region id l.toArray true).wp P Q ⟨t,d⟩ w:=by
 obtain⟨hn,hat,hla⟩:=GJ 0 l aF hstep;rw[← hlen] at hn hat hla
 have hsl:∀ (i:Nat) (o:Oper),l[i]?=some o→i<slots.length→slots[i]?=some o.dst:=fun i o ho hi=>by
  have h:=congrArg (fun x:List (Option Tmp)=>x[i]?) gi;simp only[asu,List.getElem?_take,if_pos hi,ho,Option.map_some] at h;exact h.symm
 have hst:=Aa Zi
 refine fK hm eM (fun L a w=>(∀ j o,l[j]?=some o→L j=true→∀ e∈o.after.toList,Region.binds .any e=true→L e.on=true) ∧
  (L slots.length=false→uD slots aF (inv L) t d L a w)∧(L slots.length=true→Q .normal a w)) ?_ ?_ ?_
 ·refine⟨fun _ _ _ h=>(by cases h),fun _=>?_,fun h=>(by cases h)⟩;exact⟨rfl,h0,fun i h=>by simp at h,fun _ _=>rfl,rfl⟩
 ·have key:∀ (i:Nat) (o:Oper),l[i]?=some o→∀ (L:Nat→Bool) (a:Act) (w:World) (Q':Exit→Act→World→Prop),
   ((∀ j o,l[j]?=some o→L j=true→∀ e∈o.after.toList,Region.binds .any e=true→L e.on=true)∧(L slots.length=false→uD slots aF (inv L) t d L a w)∧(L slots.length=true→Q .normal a w))→L i=false →
   (∀ e∈o.after.toList,Region.binds .any e=true→L e.on=true) →
   (∀ a w,((∀ j o,l[j]?=some o→upd L i j=true→∀ e∈o.after.toList,Region.binds .any e=true→upd L i e.on=true)∧(upd L i slots.length=false→uD slots aF (inv (upd L i)) t d (upd L i) a w)∧(upd L i slots.length=true→Q .normal a w))→Q' .normal a w) →
   wpList P l.toArray Q' [o] a w:=by
   intro i o ho L a w Q' ⟨hcl,hpl,hq⟩ hL hA hK;have hil:i<slots.length+1:=by rw[← hn];exact(asn.1 ho).1
   have up:∀ k,L k=true→upd L i k=true:=fun k hk=>by simp[upd,hk]
   have hcl':∀ j o,l[j]?=some o→upd L i j=true→∀ e∈o.after.toList,Region.binds .any e=true→upd L i e.on=true:=by
    intro j o' hj tQ e he hb;by_cases hji:j=i
    ·subst hji;obtain rfl:o=o':=asp (ho.symm.trans hj);exact up _ (hA e he hb)
    ·have hne:(j == i)=false:=by simpa using hji
     exact up _ (hcl j o' hj (by simpa[upd,hne] using tQ) e he hb)
   by_cases hin:i=slots.length
   ·subst hin;have hall:=lE eM Hy L hn (fun j o hj _=>hcl j o hj) (fun o' ho'=>by obtain rfl:o=o':=asp (ho.symm.trans ho');exact hA);refine hla o ho a w L ((hpl hL).laid hlen hall) (hpl hL).inv hall Q' fun a' w' hq'=>hK a' w' ⟨hcl',fun h=>?_,fun _=>hq'⟩
    simp[upd] at h
   ·have hi:i<slots.length:=by omega
    have hLn:L slots.length=false:=by
     cases hx:L slots.length with
     | false=>rfl
     | true=>
      have hall:=lE eM Hy L hn (fun j o hj _=>hcl j o hj) (fun o' ho'=>hcl _ o' ho' hx);rw[hall i hi] at hL;cases hL
    have hI:=hpl hLn;have hne:(slots.length == i)=false:=by simpa using fun e=>hin (Eq.symm e)
    have h1:=hat i o ho hi L a w Q' (by rw[Nat.zero_add];exact hL) hI.inv (fun k ⟨gr,hk,hb⟩ g hg=>hI.done k (hA _ hk hb) (by rw[hlen];exact(asn.1 hg).1) g hg) hI.rest;refine h1 fun v w' hb hii hg=>?_
    have hs:=hsl i o ho hi;rw[Nat.zero_add] at hii hb hg
    have KZ:∀ (j:Nat) (g:Gd),aF[j]?=some g→j≠i→L j=true→∀ v,(∀ s,slots[j]?=some (some s)→a.tmps[s]?=some v)→g L v w→g (upd L i) v w':=by
     intro j g hgj hne tQ v hv hgv
     cases he:ms.contains i with
     | true=>
      rw[JV he] at hb;have:=Ae hb j g hgj (by omega) (by rw[Nat.zero_add];exact tQ) v (by rw[Nat.zero_add];exact hv) hgv;exact this
     | false=>
      rw[Gt he] at hb;exact hst g (asr hgj) L i v w w' he hgv hb
    refine hK _ _ ⟨hcl',fun _=>?_,fun h=>?_⟩
    ·refine hI.put hnd hbd KZ hii hs hg fun j hj=>?_
     by_cases hji:j=i
     ·exact .inl hji
     ·have:(j == i)=false:=by simpa using hji
      exact .inr (by simpa[upd,this] using hj)
    ·simp[upd,hne,hLn] at h
  have all:∀ (r:List Oper) (k:Nat),(∀ i o,r[i]?=some o→l[k+i]?=some o)→jl P l.toArray (fun L a w=>(∀ j o,l[j]?=some o→L j=true→∀ e∈o.after.toList,Region.binds .any e=true→L e.on=true) ∧
   (L slots.length=false→uD slots aF (inv L) t d L a w)∧(L slots.length=true→Q .normal a w)) k r:=by
   intro r
   induction r with
   | nil=>intro k _;trivial
   | cons o r ih=>
    intro k h;refine⟨fun L a w Q' hI hL hA hK=>key k o (h 0 o rfl) L a w Q' hI hL hA hK,ih (k+1) fun i o' ho'=>?_⟩;have:=h (i+1) o' (by simpa using ho')
    rwa [show k+1+i=k+(i+1) by omega]
  exact all l 0 fun i o ho=>by simpa using ho
 ·intro L a w hI hL;exact hI.2.2 (hL slots.length (by omega))
end
end Go.Proofs.YtdcofoaihmongaaGreat
namespace Go.Proofs.YtdcofoaihmongaaGreat
open Go Go.RowKit
def yq(n:Nat):Prop:=n<18446744073709551616
structure au where
 a:Nat
 b:Nat
 c:Nat
 d:Nat
deriving DecidableEq
def au.cells(s:au):List Value:=[.int .u64 s.a,.int .u64 s.b,.int .u64 s.c,.int .u64 s.d]
structure au.Ok (s:au):Prop where
 a:yq s.a
 b:yq s.b
 c:yq s.c
 d:yq s.d
def au.word(s:au)(i:Nat):Nat:=if i=0 then s.a else if i=1 then s.b else if i=2 then s.c else s.d
def au.put(s:au)(i x:Nat):au:=if i=0 then ⟨x,s.b,s.c,s.d⟩ else if i=1 then ⟨s.a,x,s.c,s.d⟩ else if i=2 then ⟨s.a,s.b,x,s.d⟩ else ⟨s.a,s.b,s.c,x⟩
def au.has(s:au)(n:Nat):Bool:=(s.word (n/64)).testBit (n%64)
def au.mem(s:au)(n:Int):Bool:=decide (0≤n∧n<256)&&s.has n.toNat
def au.add(s:au)(n:Nat):au:=s.put (n/64) (s.word (n/64)|||2^(n%64))
def au.with(s:au)(n:Int):au:=if 0≤n∧n<256 then s.add n.toNat else s
def au.zero:au:=⟨0,0,0,0⟩
theorem au.iy{s:au}(h:s.Ok)(i:Nat):yq (s.word i):=by
 unfold au.word;split
 ·exact h.a
 ·split
  ·exact h.b
  ·split
   ·exact h.c
   ·exact h.d
theorem au.YN{s:au}(h:s.Ok)(i:Nat){x:Nat}(hx:yq x):(s.put i x).Ok:=by
 unfold au.put;split
 ·exact⟨hx,h.b,h.c,h.d⟩
 ·split
  ·exact⟨h.a,hx,h.c,h.d⟩
  ·split
   ·exact⟨h.a,h.b,hx,h.d⟩
   ·exact⟨h.a,h.b,h.c,hx⟩
theorem four{i:Nat}(h:i<4):i=0∨i=1∨i=2∨i=3:=by omega
theorem au.FZ(s:au){i j:Nat}(hi:i<4)(hj:j<4)(x:Nat):(s.put i x).word j=if j=i then x else s.word j:=by
 rcases four hi with rfl|rfl|rfl|rfl<;>rcases four hj with rfl|rfl|rfl|rfl<;>rfl
theorem au.um(s:au){i:Nat}(hi:i<4):s.cells[i]?=some (.int .u64 (s.word i)):=by
 rcases four hi with rfl|rfl|rfl|rfl<;>rfl
theorem vf{j:Nat}(h:j<64):yq (2^j):=Nat.pow_lt_pow_right (by decide) h
theorem ab_{x y:Nat}(hx:yq x)(hy:yq y):yq (x|||y):=Nat.or_lt_two_pow (n:=64) hx hy
theorem au.aaA{s:au}(h:s.Ok)(n:Nat):(s.add n).Ok:=au.YN h _ (ab_ (au.iy h _) (vf (Nat.mod_lt _ (by decide))))
theorem au.Dp{s:au}(h:s.Ok)(n:Int):(s.with n).Ok:=by
 unfold au.with
 split
 ·exact au.aaA h _
 ·exact h
theorem au.has_add(s:au){n m:Nat}(hn:n<256)(hm:m<256):(s.add n).has m=(decide (m=n)||s.has m):=by
 unfold au.has au.add;rw[au.FZ s (by omega) (by omega)];by_cases h:m/64=n/64
 ·rw[if_pos h,Nat.testBit_or,h,Nat.testBit_two_pow,Bool.or_comm];congr 1;by_cases e:m=n
  ·subst e;simp
  ·have:n%64≠m%64:=fun h2=>e (by omega)
   simp[e,this]
 ·rw[if_neg h];have:m≠n:=fun e=>h (by rw[e])
  simp[this]
theorem au.H7(n:Nat):au.zero.has n=false:=by
 unfold au.has au.word au.zero;split
 ·exact Nat.zero_testBit _
 ·split
  ·exact Nat.zero_testBit _
  ·split<;>exact Nat.zero_testBit _
theorem UO{x y:Nat}(hx:yq x)(hy:yq y)(h:∀ j,j<64→x.testBit j=y.testBit j):x=y:=by
 refine Nat.eq_of_testBit_eq fun j=>?_
 by_cases hj:j<64
 ·exact h j hj
 ·have e:∀ {z:Nat},yq z→z.testBit j=false:=fun {z} hz=>Nat.testBit_lt_two_pow (Nat.lt_of_lt_of_le hz (Nat.pow_le_pow_right (n:=2) (by decide) (by omega:64≤j)))
  rw[e hx,e hy]
theorem au.ext{s t:au}(hs:s.Ok)(ht:t.Ok)(h:∀ n,n<256→s.has n=t.has n):s=t:=by
 have key:∀ i,i<4→s.word i=t.word i:=fun i hi=>UO (au.iy hs i) (au.iy ht i) fun j hj=>by
  have:=h (i*64+j) (by omega);unfold au.has at this
  rwa [show(i*64+j)/64=i by omega,show(i*64+j)%64=j by omega] at this
 have h0:=key 0 (by decide);have h1:=key 1 (by decide);have h2:=key 2 (by decide);have h3:=key 3 (by decide);obtain⟨a,b,c,d⟩:=s;obtain⟨a',b',c',d'⟩:=t;simp[au.word] at h0 h1 h2 h3;subst h0 h1 h2 h3;rfl
theorem Ve{x j:Nat}(hx:yq x):(bits BinOp.and IntKind.u64 ((x:Int)/2^j) 1 == 1)=x.testBit j:=by
 have e:(x:Int)/2^j=((x/2^j:Nat):Int):=by simp
 have hlt:x/2^j<18446744073709551616:=Nat.lt_of_le_of_lt (Nat.div_le_self _ _) hx;rw[e];have h:=bits_and_u64_nat (x/2^j) 1 hlt (by decide);rw[show((1:Nat):Int)=1 from rfl] at h;rw[h];rw[Nat.testBit_eq_decide_div_mod_eq,Nat.and_one_is_mod];rcases Nat.mod_two_eq_zero_or_one (x/2^j) with h|h<;>rw[h]<;>rfl
theorem WL{x j:Nat}(hx:yq x)(hj:j<64):(bits BinOp.and IntKind.u64 (x:Int) ((2^j:Nat):Int) != 0)=x.testBit j:=by
 rw[bits_and_u64_nat x (2^j) hx (vf hj)]
 cases h:x.testBit j with
 | false=>
  have e:x&&&2^j=0:=Nat.eq_of_testBit_eq fun i=>by
   rw[Nat.testBit_and,Nat.testBit_two_pow,Nat.zero_testBit];by_cases hi:j=i
   ·subst hi;simp[h]
   ·simp[hi]
  rw[e];rfl
 | true=>
  have e:x&&&2^j≠0:=fun e=>by
   have:=congrArg (fun z=>z.testBit j) e;simp[Nat.testBit_and,h] at this
  have e':((x&&&2^j:Nat):Int)≠0:=fun h=>e (by exact_mod_cast h)
  simpa using e'
theorem zl{j:Nat}(h:j<64):IntKind.u64.wrap (2^j)=((2^j:Nat):Int):=by
 have h1:=vf h;unfold yq at h1;rw[show(2:Int)^j=((2^j:Nat):Int) by simp,IntKind.wrap_u64];generalize 2^j=y at h1 ⊢;omega
theorem RM{x j:Nat}(hx:yq x)(h:j<64):bits .or .u64 (x:Int) ((2:Int)^j)=((x|||2^j:Nat):Int):=by
 rw[show(2:Int)^j=((2^j:Nat):Int) by simp];exact bits_or_u64_nat x (2^j) hx (vf h)
theorem Fm(w:World)(m:Nat)(hm:m<256):Calls Tryz.prog 64 #[.int .i64 m] w fun e w'=>e=.returned (.int .u64 ((2^(m%64):Nat):Int))∧w=w':=by
 go_enter Tryz.func64,Tryz.ntmps64
 go_wp2
 go_ret
 exact⟨bE (zl (Nat.mod_lt _ (by decide))),rfl⟩
theorem CK(w:World)(n:Int)(hn:¬ 0≤n):Calls Tryz.prog 206 #[.int .i64 n] w fun e w'=>e=.returned (.bool false)∧w=w':=by
 go_enter Tryz.func206,Tryz.ntmps206
 go_wp2
 go_ret
 exact⟨rfl,rfl⟩
theorem CM(w:World)(n:Int)(h0:0≤n)(hn:¬ n<256):Calls Tryz.prog 206 #[.int .i64 n] w fun e w'=>e=.returned (.bool false)∧w=w':=by
 go_enter Tryz.func206,Tryz.ntmps206
 go_wp2
 go_ret
 exact⟨rfl,rfl⟩
theorem Af(w:World)(n:Int)(h0:0≤n)(hn:n<256):Calls Tryz.prog 206 #[.int .i64 n] w fun e w'=>e=.returned (.bool true)∧w=w':=by
 go_enter Tryz.func206,Tryz.ntmps206
 go_wp2
 go_ret
 exact⟨rfl,rfl⟩
theorem dg(w:World)(o:Obj)(cs:Array Value)(t:TypeId):Whole ((w.alloc o).alloc (.cells cs t)) (w.heap.size+1) t cs:=by
 have:=Whole.new (w.alloc o) t cs;simpa using this
theorem cE(cs:Array Value)(l:List Value)(h:cs.size=l.length):splice cs 0 l=l.toArray:=by
 apply Array.toList_inj.1;rw[jC _ _ _ (by omega)];simp[List.drop_of_length_le (show cs.toList.length≤l.length by simp[h])]
theorem DE:(Tryz.prog.info? 52).map (·.size)=some 1:=by kernel_rfl
theorem cF:(Tryz.prog.info? 54).map (·.size)=some 4:=by kernel_rfl
theorem rD(s:au){i:Nat}(hi:i<4)(x:Nat):(#[.int .u64 (s.put i x).a,.int .u64 (s.put i x).b,.int .u64 (s.put i x).c,.int .u64 (s.put i x).d]:Array Value)=splice #[.int .u64 s.a,.int .u64 s.b,.int .u64 s.c,.int .u64 s.d] i [.int .u64 (x:Int)]:=by
 rcases four hi with rfl|rfl|rfl|rfl<;>rfl
theorem ZJ(w:World)(s:au)(hs:s.Ok)(m:Nat)(hm:m<256):
 Calls Tryz.prog 191 #[.agg #[.int .u64 s.a,.int .u64 s.b,.int .u64 s.c,.int .u64 s.d],.int .i64 m] w fun e w'=>e=.returned (.bool (s.mem m))∧Below w.heap.size w w':=by
 have k:=(Whole.new w 54 #[.int .u64 s.a,.int .u64 s.b,.int .u64 s.c,.int .u64 s.d]).cell (m/64);rw[show(#[.int .u64 s.a,.int .u64 s.b,.int .u64 s.c,.int .u64 s.d]:Array Value)[m/64]?=some (.int .u64 (s.word (m/64))) by rw[← Array.getElem?_toList];exact s.um (by omega)] at k;obtain⟨x,hx⟩:∃ x,x=s.word (m/64):=⟨_,rfl⟩;rw[← hx] at k;have HX:=asv hx;have HUX:=asv (show yq x by rw[hx];exact au.iy hs _);clear hx;have h4:m/64<4:=by omega
 have hm':(m:Int)<256:=by omega
 have hmem:Hid (s.mem (m:Int)=x.testBit (m%64)):=by
  unfold Hid au.mem au.has;rw[HX.out];simp;omega
 go_enter Tryz.func191,Tryz.ntmps191
 go_wp2
 go_ret
 exact⟨ay ((Ve HUX.out).trans hmem.out.symm),(Below.refl _ w).alloc (Nat.le_refl _) _⟩
theorem SW(w:World)(s:au)(n:Int)(hn:n<0):
 Calls Tryz.prog 191 #[.agg #[.int .u64 s.a,.int .u64 s.b,.int .u64 s.c,.int .u64 s.d],.int .i64 n] w fun e w'=>e=.returned (.bool false)∧Below w.heap.size w w':=by
 have hn1:¬ 0≤n:=by omega
 go_enter Tryz.func191,Tryz.ntmps191
 go_wp2
 go_ret
 exact⟨rfl,(Below.refl _ w).alloc (Nat.le_refl _) _⟩
theorem SV(w:World)(s:au)(n:Int)(hn:256≤n):
 Calls Tryz.prog 191 #[.agg #[.int .u64 s.a,.int .u64 s.b,.int .u64 s.c,.int .u64 s.d],.int .i64 n] w fun e w'=>e=.returned (.bool false)∧Below w.heap.size w w':=by
 have hn0:0≤n:=by omega
 have hn1:¬ n<256:=by omega
 go_enter Tryz.func191,Tryz.ntmps191
 go_wp2
 go_ret
 exact⟨rfl,(Below.refl _ w).alloc (Nat.le_refl _) _⟩
theorem yU(w:World)(s:au)(hs:s.Ok)(n:Int):
 Calls Tryz.prog 191 #[.agg #[.int .u64 s.a,.int .u64 s.b,.int .u64 s.c,.int .u64 s.d],.int .i64 n] w fun e w'=>e=.returned (.bool (s.mem n))∧Below w.heap.size w w':=by
 by_cases h:0≤n∧n<256
 ·obtain⟨m,rfl⟩:∃ m:Nat,n=m:=⟨n.toNat,by omega⟩;exact ZJ w s hs m (by omega)
 ·rw[show s.mem n=false by unfold au.mem;simp[h]];by_cases h0:n<0
  ·exact SW w s n h0
  ·exact SV w s n (by omega)
theorem Vp(w:World)(s:au)(hs:s.Ok)(m:Nat)(hm:m<256):
 Calls Tryz.prog 18 #[.agg #[.int .u64 s.a,.int .u64 s.b,.int .u64 s.c,.int .u64 s.d],.int .i64 m] w fun e w'=>e=.returned (.bool (s.mem m))∧Below w.heap.size w w':=by
 have k:=(Whole.new w 54 #[.int .u64 s.a,.int .u64 s.b,.int .u64 s.c,.int .u64 s.d]).cell (m/64);rw[show(#[.int .u64 s.a,.int .u64 s.b,.int .u64 s.c,.int .u64 s.d]:Array Value)[m/64]?=some (.int .u64 (s.word (m/64))) by rw[← Array.getElem?_toList];exact s.um (by omega)] at k;obtain⟨x,hx⟩:∃ x,x=s.word (m/64):=⟨_,rfl⟩;rw[← hx] at k;have HX:=asv hx;have HUX:=asv (show yq x by rw[hx];exact au.iy hs _);clear hx;have h4:m/64<4:=by omega
 have hm':(m:Int)<256:=by omega
 have hmem:Hid (s.mem (m:Int)=x.testBit (m%64)):=by
  unfold Hid au.mem au.has;rw[HX.out];simp;omega
 obtain⟨wo,bS⟩:∃ wo,wo=w.alloc (.cells #[.int .u64 s.a,.int .u64 s.b,.int .u64 s.c,.int .u64 s.d] 54):=⟨_,rfl⟩;rw[← bS] at k;have ef:=asv (show Below w.heap.size w wo by rw[bS];exact(Below.refl _ w).alloc (Nat.le_refl _) _)
 go_enter Tryz.func18,Tryz.ntmps18
 go_wp2_with fail
 rw[← bS];clear bS;refine eU (fun w w'=>Below w.heap.size w w') [some 5,some 6,some 7,some 8,some 9,some 10,some 11,some 12,some 13,some 14,some 15,some 16,some 17,some 18,some 19,some 20] [bL (.int .i64 m),bL (.bool true),bL (.bool true),bL (.int .i64 m),bL (.bool true),bL (.bool true),bL (.bool true),bL (.int .i64 m),bL (.int .i64 ((m/64:Nat):Int)),bL (.pointer (some ⟨w.heap.size,m/64,none⟩)),bL (.int .u64 x),bL (.int .i64 m),bL (.int .u64 ((2^(m%64):Nat):Int)),bL (.int .u64 (bits .and .u64 (x:Int) ((2^(m%64):Nat):Int))),bL (.bool (bits .and .u64 (x:Int) ((2^(m%64):Nat):Int) != 0)),bL (.bool (bits .and .u64 (x:Int) ((2^(m%64):Nat):Int) != 0))] (fun _ w'=>Below wo.heap.size wo w') 16 (by kernel_rfl) (by kernel_rfl) (by kernel_rfl) rfl (by decide) rfl rfl ((Below.refl _ _).drew) ⟨aj _,aj _,aj _,aj _,aj _,aj _,aj _,aj _,aj _,aj _,aj _,aj _,aj _,aj _,aj _,aj _,trivial⟩ ⟨(fun _=>aE _),(fun _=>aE _),(fun _=>aE _),(fun _=>aE _),(fun _=>aE _),(fun _=>aE _),(fun _=>aE _),(fun _=>aE _),(fun _=>aE _),(fun _=>aE _),(fun _=>aE _),(fun _=>aE _),(fun _=>aE _),(fun _=>aE _),(fun _=>aE _),(fun _=>aE _),trivial⟩ ⟨?_,?_,?_,?_,?_,?_,?_,?_,?_,?_,?_,?_,?_,?_,?_,?_,?_⟩
 ·intro L a wx Q' hL hi H F hK
  try dsimp only at hi
  have h1:a.tmps[1]?=some (.int .i64 m):=F 1 rfl;have HI:=asv hi;clear H F hi hL
  go_wp2_with fail
  exact hK _ _ (Below.refl _ _) HI.out rfl
 ·intro L a wx Q' hL hi H F hK
  try dsimp only at hi
  obtain⟨_,h5,rfl⟩:=H 0 ⟨.data,by simp,rfl⟩ _ rfl;replace h5:=h5 _ rfl;have HI:=asv hi;clear H F hi hL
  go_wp2_with fail
  exact hK _ _ (Below.refl _ _) HI.out rfl
 ·intro L a wx Q' hL hi H F hK
  try dsimp only at hi
  obtain⟨_,h6,rfl⟩:=H 1 ⟨.data,by simp,rfl⟩ _ rfl;replace h6:=h6 _ rfl;have HI:=asv hi;clear H F hi hL
  go_wp2_with fail
  exact hK _ _ (Below.refl _ _) HI.out rfl
 ·intro L a wx Q' hL hi H F hK
  try dsimp only at hi
  obtain⟨_,h7,rfl⟩:=H 2 ⟨.guard,by simp,rfl⟩ _ rfl;replace h7:=h7 _ rfl;have h1:a.tmps[1]?=some (.int .i64 m):=F 1 rfl;have HI:=asv hi;clear H F hi hL
  go_wp2_with fail
  exact hK _ _ (Below.refl _ _) HI.out rfl
 ·intro L a wx Q' hL hi H F hK
  try dsimp only at hi
  obtain⟨_,h8,rfl⟩:=H 3 ⟨.data,by simp,rfl⟩ _ rfl;replace h8:=h8 _ rfl;obtain⟨_,h7,rfl⟩:=H 2 ⟨.guard,by simp,rfl⟩ _ rfl;replace h7:=h7 _ rfl;have HI:=asv hi;clear H F hi hL
  go_wp2_with fail
  exact hK _ _ (Below.refl _ _) HI.out rfl
 ·intro L a wx Q' hL hi H F hK
  try dsimp only at hi
  obtain⟨_,h7,rfl⟩:=H 2 ⟨.data,by simp,rfl⟩ _ rfl;replace h7:=h7 _ rfl;obtain⟨_,h9,rfl⟩:=H 4 ⟨.data,by simp,rfl⟩ _ rfl;replace h9:=h9 _ rfl;have HI:=asv hi;clear H F hi hL
  go_wp2_with fail
  exact hK _ _ (Below.refl _ _) HI.out rfl
 ·intro L a wx Q' hL hi H F hK
  try dsimp only at hi
  obtain⟨_,Je,rfl⟩:=H 5 ⟨.data,by simp,rfl⟩ _ rfl;replace Je:=Je _ rfl;have HI:=asv hi;clear H F hi hL
  go_wp2_with fail
  exact hK _ _ (Below.refl _ _) HI.out rfl
 ·intro L a wx Q' hL hi H F hK
  try dsimp only at hi
  obtain⟨_,mH,rfl⟩:=H 6 ⟨.guard,by simp,rfl⟩ _ rfl;replace mH:=mH _ rfl;have h1:a.tmps[1]?=some (.int .i64 m):=F 1 rfl;have HI:=asv hi;clear H F hi hL
  go_wp2_with fail
  exact hK _ _ (Below.refl _ _) HI.out rfl
 ·intro L a wx Q' hL hi H F hK
  try dsimp only at hi
  obtain⟨_,h12,rfl⟩:=H 7 ⟨.data,by simp,rfl⟩ _ rfl;replace h12:=h12 _ rfl;obtain⟨_,mH,rfl⟩:=H 6 ⟨.guard,by simp,rfl⟩ _ rfl;replace mH:=mH _ rfl;have HI:=asv hi;clear H F hi hL
  go_wp2_with fail
  exact hK _ _ (Below.refl _ _) HI.out rfl
 ·intro L a wx Q' hL hi H F hK
  try dsimp only at hi
  obtain⟨_,H_,rfl⟩:=H 8 ⟨.data,by simp,rfl⟩ _ rfl;replace H_:=H_ _ rfl;obtain⟨_,mH,rfl⟩:=H 6 ⟨.guard,by simp,rfl⟩ _ rfl;replace mH:=mH _ rfl;have h2:a.tmps[2]?=some (.pointer (some ⟨w.heap.size,0,none⟩)):=F 2 rfl;have HI:=asv hi;clear H F hi hL
  go_wp2_with fail
  exact hK _ _ (Below.refl _ _) HI.out rfl
 ·intro L a wx Q' hL hi H F hK
  try dsimp only at hi
  obtain⟨_,Jd,rfl⟩:=H 9 ⟨.data,by simp,rfl⟩ _ rfl;replace Jd:=Jd _ rfl;obtain⟨_,mH,rfl⟩:=H 6 ⟨.guard,by simp,rfl⟩ _ rfl;replace mH:=mH _ rfl;have HI:=asv hi;clear H F hi hL;have kk:wx.cell? ⟨w.heap.size,m/64,none⟩=some (.int .u64 x):=asw HI.out k
  go_wp2_with fail
  exact hK _ _ (Below.refl _ _) HI.out rfl
 ·intro L a wx Q' hL hi H F hK
  try dsimp only at hi
  obtain⟨_,mH,rfl⟩:=H 6 ⟨.guard,by simp,rfl⟩ _ rfl;replace mH:=mH _ rfl;have h1:a.tmps[1]?=some (.int .i64 m):=F 1 rfl;have HI:=asv hi;clear H F hi hL
  go_wp2_with fail
  exact hK _ _ (Below.refl _ _) HI.out rfl
 ·intro L a wx Q' hL hi H F hK
  try dsimp only at hi
  obtain⟨_,CR,rfl⟩:=H 11 ⟨.data,by simp,rfl⟩ _ rfl;replace CR:=CR _ rfl;obtain⟨_,mH,rfl⟩:=H 6 ⟨.guard,by simp,rfl⟩ _ rfl;replace mH:=mH _ rfl;have HI:=asv hi;clear H F hi hL
  go_wp2_with (go_at_call 64;go_must (refine(Fm _ m hm).mono ?_;rintro e w1 ⟨rfl,rfl⟩))
  exact hK _ _ (Below.refl _ _) HI.out rfl
 ·intro L a wx Q' hL hi H F hK
  try dsimp only at hi
  obtain⟨_,CS,rfl⟩:=H 10 ⟨.data,by simp,rfl⟩ _ rfl;replace CS:=CS _ rfl;obtain⟨_,QD,rfl⟩:=H 12 ⟨.data,by simp,rfl⟩ _ rfl;replace QD:=QD _ rfl;obtain⟨_,mH,rfl⟩:=H 6 ⟨.guard,by simp,rfl⟩ _ rfl;replace mH:=mH _ rfl;have HI:=asv hi;clear H F hi hL
  go_wp2_with fail
  exact hK _ _ (Below.refl _ _) HI.out rfl
 ·intro L a wx Q' hL hi H F hK
  try dsimp only at hi
  obtain⟨_,QC,rfl⟩:=H 13 ⟨.data,by simp,rfl⟩ _ rfl;replace QC:=QC _ rfl;obtain⟨_,mH,rfl⟩:=H 6 ⟨.guard,by simp,rfl⟩ _ rfl;replace mH:=mH _ rfl;have HI:=asv hi;clear H F hi hL
  go_wp2_with fail
  exact hK _ _ (Below.refl _ _) HI.out rfl
 ·intro L a wx Q' hL hi H F hK
  try dsimp only at hi
  obtain⟨_,mH,rfl⟩:=H 6 ⟨.data,by simp,rfl⟩ _ rfl;replace mH:=mH _ rfl;obtain⟨_,h19,rfl⟩:=H 14 ⟨.data,by simp,rfl⟩ _ rfl;replace h19:=h19 _ rfl;have HI:=asv hi;clear H F hi hL
  go_wp2_with fail
  exact hK _ _ (Below.refl _ _) HI.out rfl
 ·intro a wx hl L hi hL Q' hK
  try dsimp only at hi
  have HB:=asv hi;clear hi hL;obtain⟨_,rfl,_,rfl,_,rfl,_,rfl,_,rfl,_,rfl,_,rfl,_,rfl,_,rfl,_,rfl,_,rfl,_,rfl,_,rfl,_,rfl,_,rfl,_,rfl,rfl⟩:=hl;simp only[List.setIfInBounds_toArray,List.set_cons_zero,List.set_cons_succ]
  go_wp2_with fail
  go_ret
  exact⟨ay ((WL HUX.out (Nat.mod_lt _ (by decide))).trans hmem.out.symm),ef.out.trans (HB.out.mono ef.out.size)⟩
theorem OL(w:World)(s:au)(n:Int)(hn:n<0):
 Calls Tryz.prog 18 #[.agg #[.int .u64 s.a,.int .u64 s.b,.int .u64 s.c,.int .u64 s.d],.int .i64 n] w fun e w'=>e=.returned (.bool false)∧Below w.heap.size w w':=by
 obtain⟨k,rfl⟩:∃ k:Nat,n=Int.negSucc k:=⟨(-n-1).toNat,by omega⟩
 go_enter Tryz.func18,Tryz.ntmps18
 go_wp2
 go_quiet (fail)
 go_wp2
 go_ret
 exact⟨rfl,below_drewN ((Below.refl _ w).alloc (Nat.le_refl _) _) _⟩
theorem OJ(w:World)(s:au)(n:Int)(hn:256≤n):
 Calls Tryz.prog 18 #[.agg #[.int .u64 s.a,.int .u64 s.b,.int .u64 s.c,.int .u64 s.d],.int .i64 n] w fun e w'=>e=.returned (.bool false)∧Below w.heap.size w w':=by
 obtain⟨k,rfl⟩:∃ k:Nat,n=(k:Int):=⟨n.toNat,by omega⟩;have hd:¬ (k:Int)<256:=by omega
 have hd2:decide ((k:Int)<256)=false:=by simp[hd]
 go_enter Tryz.func18,Tryz.ntmps18
 go_wp2
 go_quiet (fail)
 go_wp2
 go_ret
 exact⟨rfl,below_drewN ((Below.refl _ w).alloc (Nat.le_refl _) _) _⟩
theorem fZ(w:World)(s:au)(hs:s.Ok)(n:Int):
 Calls Tryz.prog 18 #[.agg #[.int .u64 s.a,.int .u64 s.b,.int .u64 s.c,.int .u64 s.d],.int .i64 n] w fun e w'=>e=.returned (.bool (s.mem n))∧Below w.heap.size w w':=by
 by_cases h:0≤n∧n<256
 ·obtain⟨m,rfl⟩:∃ m:Nat,n=m:=⟨n.toNat,by omega⟩;exact Vp w s hs m (by omega)
 ·rw[show s.mem n=false by unfold au.mem;simp[h]];by_cases h0:n<0
  ·exact OL w s n h0
  ·exact OJ w s n (by omega)
theorem UW(w:World)(s:au)(hs:s.Ok)(m:Nat)(hm:m<256):
 Calls Tryz.prog 124 #[.agg #[.int .u64 s.a,.int .u64 s.b,.int .u64 s.c,.int .u64 s.d],.int .i64 m] w fun e w'=>e=.returned (.agg #[.int .u64 (s.add m).a,.int .u64 (s.add m).b,.int .u64 (s.add m).c,.int .u64 (s.add m).d])∧Below w.heap.size w w':=by
 obtain⟨wo,bS⟩:∃ wo,wo=(w.alloc (.cells #[.int .u64 s.a,.int .u64 s.b,.int .u64 s.c,.int .u64 s.d] 54)).alloc (.cells #[.int .u64 0,.int .u64 0,.int .u64 0,.int .u64 0] 54):=⟨_,rfl⟩;have Bp:=asv (show Whole wo w.heap.size 54 #[.int .u64 s.a,.int .u64 s.b,.int .u64 s.c,.int .u64 s.d] by rw[bS];exact(Whole.new w 54 #[.int .u64 s.a,.int .u64 s.b,.int .u64 s.c,.int .u64 s.d]).alloc _);have B6:=asv (show Whole wo (w.heap.size+1) 54 #[.int .u64 0,.int .u64 0,.int .u64 0,.int .u64 0] by rw[bS];exact dg w _ #[.int .u64 0,.int .u64 0,.int .u64 0,.int .u64 0] _);have ef:=asv (show Below w.heap.size w wo by rw[bS];exact((Below.refl _ w).alloc (Nat.le_refl _) _).alloc (by simp) _)
 have k:wo.cell? ⟨w.heap.size,m/64,none⟩=some (.int .u64 (s.word (m/64))):=by
  have h:=Bp.out.cell (m/64)
  rwa [show(#[.int .u64 s.a,.int .u64 s.b,.int .u64 s.c,.int .u64 s.d]:Array Value)[m/64]?=some (.int .u64 (s.word (m/64))) by rw[← Array.getElem?_toList];exact s.um (by omega)] at h
 obtain⟨x,hx⟩:∃ x,x=s.word (m/64):=⟨_,rfl⟩;rw[← hx] at k;have HX:=asv hx;have HOX:=asv (RM (x:=x) (j:=m%64) (by rw[hx];exact au.iy hs _) (Nat.mod_lt _ (by decide)));have HOY:=asv (bits_or_u64_nat x (2^(m%64)) (by rw[hx];exact au.iy hs _) (vf (Nat.mod_lt _ (by decide))));have htw:IntKind.u64.wrap (2^(m%64))=((2^(m%64):Nat):Int):=zl (Nat.mod_lt _ (by decide));clear hx;have h4:m/64<4:=by omega
 have hm':(m:Int)<256:=by omega
 go_enter Tryz.func124,Tryz.ntmps124
 go_upto_region 1 with(fail)
 rw[← bS];clear bS
 go_wp2_with (go_at_call 206;go_must (refine(Af _ (m:Int) (by omega) (by omega)).mono ?_;rintro e w' ⟨rfl,rfl⟩))
 refine eU (fun w w'=>Below w.heap.size w w') [some 7,some 8,some 9,some 10,some 11,some 12,some 13,some 14,some 15] [bL (.int .i64 m),bL (.int .i64 ((m/64:Nat):Int)),bL (.pointer (some ⟨w.heap.size,m/64,none⟩)),bL (.int .u64 x),bL (.int .i64 m),bL (.int .i64 ((m%64:Nat):Int)),bL (.int .u64 ((2^(m%64):Nat):Int)),bL (.int .u64 ((x|||2^(m%64):Nat):Int)),bL (.pointer (some ⟨w.heap.size,m/64,none⟩))] (fun _ w'=>Below wo.heap.size wo w') 9 (by kernel_rfl) (by kernel_rfl) (by kernel_rfl) rfl (by decide) rfl rfl ((Below.refl _ _).drew) ⟨aj _,aj _,aj _,aj _,aj _,aj _,aj _,aj _,aj _,trivial⟩ ⟨(fun _=>aE _),(fun _=>aE _),(fun _=>aE _),(fun _=>aE _),(fun _=>aE _),(fun _=>aE _),(fun _=>aE _),(fun _=>aE _),(fun _=>aE _),trivial⟩ ⟨?_,?_,?_,?_,?_,?_,?_,?_,?_,?_⟩
 ·intro L a wx Q' hL hi H F hK
  try dsimp only at hi
  have h1:a.tmps[1]?=some (.int .i64 m):=F 1 rfl;have HI:=asv hi;clear H F hi hL
  go_wp2_with fail
  exact hK _ _ (Below.refl _ _) HI.out rfl
 ·intro L a wx Q' hL hi H F hK
  try dsimp only at hi
  obtain⟨_,h7,rfl⟩:=H 0 ⟨.data,by simp,rfl⟩ _ rfl;replace h7:=h7 _ rfl;have HI:=asv hi;clear H F hi hL
  go_wp2_with fail
  exact hK _ _ (Below.refl _ _) HI.out rfl
 ·intro L a wx Q' hL hi H F hK
  try dsimp only at hi
  obtain⟨_,h8,rfl⟩:=H 1 ⟨.data,by simp,rfl⟩ _ rfl;replace h8:=h8 _ rfl;have h2:a.tmps[2]?=some (.pointer (some ⟨w.heap.size,0,none⟩)):=F 2 rfl;have HI:=asv hi;clear H F hi hL
  go_wp2_with fail
  exact hK _ _ (Below.refl _ _) HI.out rfl
 ·intro L a wx Q' hL hi H F hK
  try dsimp only at hi
  obtain⟨_,h9,rfl⟩:=H 2 ⟨.data,by simp,rfl⟩ _ rfl;replace h9:=h9 _ rfl;have HI:=asv hi;clear H F hi hL;have kk:wx.cell? ⟨w.heap.size,m/64,none⟩=some (.int .u64 x):=asw HI.out k
  go_wp2_with fail
  exact hK _ _ (Below.refl _ _) HI.out rfl
 ·intro L a wx Q' hL hi H F hK
  try dsimp only at hi
  have h1:a.tmps[1]?=some (.int .i64 m):=F 1 rfl;have HI:=asv hi;clear H F hi hL
  go_wp2_with fail
  exact hK _ _ (Below.refl _ _) HI.out rfl
 ·intro L a wx Q' hL hi H F hK
  try dsimp only at hi
  obtain⟨_,mH,rfl⟩:=H 4 ⟨.data,by simp,rfl⟩ _ rfl;replace mH:=mH _ rfl;have HI:=asv hi;clear H F hi hL
  go_wp2_with fail
  exact hK _ _ (Below.refl _ _) HI.out rfl
 ·intro L a wx Q' hL hi H F hK
  try dsimp only at hi
  obtain⟨_,h12,rfl⟩:=H 5 ⟨.data,by simp,rfl⟩ _ rfl;replace h12:=h12 _ rfl;have HI:=asv hi;clear H F hi hL
  go_wp2_with fail
  exact hK _ _ (Below.refl _ _) HI.out rfl
 ·intro L a wx Q' hL hi H F hK
  try dsimp only at hi
  obtain⟨_,Je,rfl⟩:=H 3 ⟨.data,by simp,rfl⟩ _ rfl;replace Je:=Je _ rfl;obtain⟨_,H_,rfl⟩:=H 6 ⟨.data,by simp,rfl⟩ _ rfl;replace H_:=H_ _ rfl;have HI:=asv hi;clear H F hi hL
  go_wp2_with fail
  exact hK _ _ (Below.refl _ _) HI.out (by first|exact congrArg (Value.int IntKind.u64) HOX.out.symm|exact congrArg (Value.int IntKind.u64) HOY.out.symm)
 ·intro L a wx Q' hL hi H F hK
  try dsimp only at hi
  obtain⟨_,h8,rfl⟩:=H 1 ⟨.data,by simp,rfl⟩ _ rfl;replace h8:=h8 _ rfl;have h2:a.tmps[2]?=some (.pointer (some ⟨w.heap.size,0,none⟩)):=F 2 rfl;have HI:=asv hi;clear H F hi hL
  go_wp2_with fail
  exact hK _ _ (Below.refl _ _) HI.out rfl
 ·intro a wx hl L hi hL Q' hK
  try dsimp only at hi
  have HB:=asv hi;clear hi hL;obtain⟨_,rfl,_,rfl,_,rfl,_,rfl,_,rfl,_,rfl,_,rfl,_,rfl,_,rfl,rfl⟩:=hl;simp only[List.setIfInBounds_toArray,List.set_cons_zero,List.set_cons_succ];have HSX:=asv (Whole.under HB.out Bp.out Bp.out.lt);have HRX:=asv (Whole.under HB.out B6.out B6.out.lt);clear Bp B6 k;obtain⟨t,ht⟩:∃ t,t=s.add m:=⟨_,rfl⟩;have HT:=asv ht;clear ht
  go_wp2_with (first|(refine aZ rfl 52 _ _ rfl (w.heap.size) (m/64) (.int .u64 ((x|||2^(m%64):Nat):Int)) rfl rfl 54 _ HSX.out (by simp[Value.cells];omega) DE rfl ?_;intro w1 S1 W1;have HS1:=asv S1;have HW1:=asv (show Whole w1 w.heap.size 54 #[.int .u64 t.a,.int .u64 t.b,.int .u64 t.c,.int .u64 t.d] by rw[HT.out];unfold au.add;rw[← HX.out];rw[show #[.int .u64 (s.put (m/64) (x|||2^(m%64))).a,.int .u64 (s.put (m/64) (x|||2^(m%64))).b,.int .u64 (s.put (m/64) (x|||2^(m%64))).c,.int .u64 (s.put (m/64) (x|||2^(m%64))).d]=splice #[.int .u64 s.a,.int .u64 s.b,.int .u64 s.c,.int .u64 s.d] (m/64) [.int .u64 ((x|||2^(m%64):Nat):Int)] from rD s (by omega) _];exact W1);clear S1 W1)|(refine wpList_load_row rfl 54 _ rfl (w.heap.size) rfl 54 _ (0,0) _ HW1.out Tryz.underlying54 rfl cF ?_)|(refine aZ rfl 54 _ _ rfl (w.heap.size+1) 0 (.agg #[.int .u64 t.a,.int .u64 t.b,.int .u64 t.c,.int .u64 t.d]) rfl rfl 54 _ (HS1.out.whole HRX.out (by omega)) (by simp[Value.cells]) cF rfl ?_;intro w2 S2 W2;rw[cE _ _ (by rfl)] at W2;have yw:=asv S2;have HW2:=asv (show Whole w2 (w.heap.size+1) 54 #[.int .u64 t.a,.int .u64 t.b,.int .u64 t.c,.int .u64 t.d] from W2);clear S2 W2))
  have e0:w2.cell? ⟨w.heap.size+1,0,none⟩=some (.int .u64 t.a):=HW2.out.cell 0;have e1:w2.cell? ⟨w.heap.size+1,1,none⟩=some (.int .u64 t.b):=HW2.out.cell 1;have e2:w2.cell? ⟨w.heap.size+1,2,none⟩=some (.int .u64 t.c):=HW2.out.cell 2;have e3:w2.cell? ⟨w.heap.size+1,3,none⟩=some (.int .u64 t.d):=HW2.out.cell 3;refine bodyPost_ret (v:=.agg #[.int .u64 t.a,.int .u64 t.b,.int .u64 t.c,.int .u64 t.d]) ?_ rfl ⟨by rw[HT.out],((ef.out.trans (HB.out.mono ef.out.size)).trans (HS1.out.below (Nat.le_refl _))).trans (yw.out.below (by omega))⟩;simp[results,Tryz.results124,go_sem,e0,e1,e2,e3]
theorem N5(w:World)(s:au)(n:Int)(hn:n<0):
 Calls Tryz.prog 124 #[.agg #[.int .u64 s.a,.int .u64 s.b,.int .u64 s.c,.int .u64 s.d],.int .i64 n] w fun e w'=>e=.returned (.agg #[.int .u64 s.a,.int .u64 s.b,.int .u64 s.c,.int .u64 s.d])∧Below w.heap.size w w':=by
 have hn1:¬ 0≤n:=by omega
 obtain⟨wo,bS⟩:∃ wo,wo=(w.alloc (.cells #[.int .u64 s.a,.int .u64 s.b,.int .u64 s.c,.int .u64 s.d] 54)).alloc (.cells #[.int .u64 0,.int .u64 0,.int .u64 0,.int .u64 0] 54):=⟨_,rfl⟩;have Bp:=asv (show Whole wo w.heap.size 54 #[.int .u64 s.a,.int .u64 s.b,.int .u64 s.c,.int .u64 s.d] by rw[bS];exact(Whole.new w 54 #[.int .u64 s.a,.int .u64 s.b,.int .u64 s.c,.int .u64 s.d]).alloc _);have B6:=asv (show Whole wo (w.heap.size+1) 54 #[.int .u64 0,.int .u64 0,.int .u64 0,.int .u64 0] by rw[bS];exact dg w _ #[.int .u64 0,.int .u64 0,.int .u64 0,.int .u64 0] _);have ef:=asv (show Below w.heap.size w wo by rw[bS];exact((Below.refl _ w).alloc (Nat.le_refl _) _).alloc (by simp) _)
 go_enter Tryz.func124,Tryz.ntmps124
 go_upto_region 1 with(fail)
 rw[← bS];clear bS
 go_wp2_with (first|(go_at_call 206;go_must (refine(CK _ n hn1).mono ?_;rintro e w' ⟨rfl,rfl⟩))|(refine wpList_load_row rfl 54 _ rfl (w.heap.size) rfl 54 _ (0,0) _ (Bp.out) Tryz.underlying54 rfl cF ?_)|(refine aZ rfl 54 _ _ rfl (w.heap.size+1) 0 (.agg #[.int .u64 s.a,.int .u64 s.b,.int .u64 s.c,.int .u64 s.d]) rfl rfl 54 _ B6.out (by simp[Value.cells]) cF rfl ?_;intro w2 S2 W2;rw[cE _ _ (by rfl)] at W2;have yw:=asv S2;have HW2:=asv (show Whole w2 (w.heap.size+1) 54 #[.int .u64 s.a,.int .u64 s.b,.int .u64 s.c,.int .u64 s.d] from W2);clear S2 W2))
 have e0:w2.cell? ⟨w.heap.size+1,0,none⟩=some (.int .u64 s.a):=HW2.out.cell 0;have e1:w2.cell? ⟨w.heap.size+1,1,none⟩=some (.int .u64 s.b):=HW2.out.cell 1;have e2:w2.cell? ⟨w.heap.size+1,2,none⟩=some (.int .u64 s.c):=HW2.out.cell 2;have e3:w2.cell? ⟨w.heap.size+1,3,none⟩=some (.int .u64 s.d):=HW2.out.cell 3;refine bodyPost_ret (v:=.agg #[.int .u64 s.a,.int .u64 s.b,.int .u64 s.c,.int .u64 s.d]) ?_ rfl ⟨rfl,ef.out.trans (yw.out.below (by omega))⟩;simp[results,Tryz.results124,go_sem,e0,e1,e2,e3]
theorem NZ(w:World)(s:au)(n:Int)(hn:256≤n):
 Calls Tryz.prog 124 #[.agg #[.int .u64 s.a,.int .u64 s.b,.int .u64 s.c,.int .u64 s.d],.int .i64 n] w fun e w'=>e=.returned (.agg #[.int .u64 s.a,.int .u64 s.b,.int .u64 s.c,.int .u64 s.d])∧Below w.heap.size w w':=by
 have hn0:0≤n:=by omega
 have hn1:¬ n<256:=by omega
 obtain⟨wo,bS⟩:∃ wo,wo=(w.alloc (.cells #[.int .u64 s.a,.int .u64 s.b,.int .u64 s.c,.int .u64 s.d] 54)).alloc (.cells #[.int .u64 0,.int .u64 0,.int .u64 0,.int .u64 0] 54):=⟨_,rfl⟩;have Bp:=asv (show Whole wo w.heap.size 54 #[.int .u64 s.a,.int .u64 s.b,.int .u64 s.c,.int .u64 s.d] by rw[bS];exact(Whole.new w 54 #[.int .u64 s.a,.int .u64 s.b,.int .u64 s.c,.int .u64 s.d]).alloc _);have B6:=asv (show Whole wo (w.heap.size+1) 54 #[.int .u64 0,.int .u64 0,.int .u64 0,.int .u64 0] by rw[bS];exact dg w _ #[.int .u64 0,.int .u64 0,.int .u64 0,.int .u64 0] _);have ef:=asv (show Below w.heap.size w wo by rw[bS];exact((Below.refl _ w).alloc (Nat.le_refl _) _).alloc (by simp) _)
 go_enter Tryz.func124,Tryz.ntmps124
 go_upto_region 1 with(fail)
 rw[← bS];clear bS
 go_wp2_with (first|(go_at_call 206;go_must (refine(CM _ n hn0 hn1).mono ?_;rintro e w' ⟨rfl,rfl⟩))|(refine wpList_load_row rfl 54 _ rfl (w.heap.size) rfl 54 _ (0,0) _ (Bp.out) Tryz.underlying54 rfl cF ?_)|(refine aZ rfl 54 _ _ rfl (w.heap.size+1) 0 (.agg #[.int .u64 s.a,.int .u64 s.b,.int .u64 s.c,.int .u64 s.d]) rfl rfl 54 _ B6.out (by simp[Value.cells]) cF rfl ?_;intro w2 S2 W2;rw[cE _ _ (by rfl)] at W2;have yw:=asv S2;have HW2:=asv (show Whole w2 (w.heap.size+1) 54 #[.int .u64 s.a,.int .u64 s.b,.int .u64 s.c,.int .u64 s.d] from W2);clear S2 W2))
 have e0:w2.cell? ⟨w.heap.size+1,0,none⟩=some (.int .u64 s.a):=HW2.out.cell 0;have e1:w2.cell? ⟨w.heap.size+1,1,none⟩=some (.int .u64 s.b):=HW2.out.cell 1;have e2:w2.cell? ⟨w.heap.size+1,2,none⟩=some (.int .u64 s.c):=HW2.out.cell 2;have e3:w2.cell? ⟨w.heap.size+1,3,none⟩=some (.int .u64 s.d):=HW2.out.cell 3;refine bodyPost_ret (v:=.agg #[.int .u64 s.a,.int .u64 s.b,.int .u64 s.c,.int .u64 s.d]) ?_ rfl ⟨rfl,ef.out.trans (yw.out.below (by omega))⟩;simp[results,Tryz.results124,go_sem,e0,e1,e2,e3]
theorem Q9(w:World)(s:au)(hs:s.Ok)(n:Int):
 Calls Tryz.prog 124 #[.agg #[.int .u64 s.a,.int .u64 s.b,.int .u64 s.c,.int .u64 s.d],.int .i64 n] w fun e w'=>e=.returned (.agg #[.int .u64 (s.with n).a,.int .u64 (s.with n).b,.int .u64 (s.with n).c,.int .u64 (s.with n).d])∧Below w.heap.size w w':=by
 unfold au.with
 by_cases h:0≤n∧n<256
 ·obtain⟨m,rfl⟩:∃ m:Nat,n=m:=⟨n.toNat,by omega⟩;rw[if_pos h];exact UW w s hs m (by omega)
 ·rw[if_neg h];by_cases h0:n<0
  ·exact N5 w s n h0
  ·exact NZ w s n (by omega)
theorem Rt(w:World)(s:au)(hs:s.Ok)(m:Nat)(hm:m<256):
 Calls Tryz.prog 130 #[.agg #[.int .u64 s.a,.int .u64 s.b,.int .u64 s.c,.int .u64 s.d],.int .i64 m] w fun e w'=>e=.returned (.agg #[.int .u64 (s.add m).a,.int .u64 (s.add m).b,.int .u64 (s.add m).c,.int .u64 (s.add m).d])∧Below w.heap.size w w':=by
 obtain⟨wo,bS⟩:∃ wo,wo=(w.alloc (.cells #[.int .u64 s.a,.int .u64 s.b,.int .u64 s.c,.int .u64 s.d] 54)).alloc (.cells #[.int .u64 0,.int .u64 0,.int .u64 0,.int .u64 0] 54):=⟨_,rfl⟩;have Bp:=asv (show Whole wo w.heap.size 54 #[.int .u64 s.a,.int .u64 s.b,.int .u64 s.c,.int .u64 s.d] by rw[bS];exact(Whole.new w 54 #[.int .u64 s.a,.int .u64 s.b,.int .u64 s.c,.int .u64 s.d]).alloc _);have B6:=asv (show Whole wo (w.heap.size+1) 54 #[.int .u64 0,.int .u64 0,.int .u64 0,.int .u64 0] by rw[bS];exact dg w _ #[.int .u64 0,.int .u64 0,.int .u64 0,.int .u64 0] _);have ef:=asv (show Below w.heap.size w wo by rw[bS];exact((Below.refl _ w).alloc (Nat.le_refl _) _).alloc (by simp) _)
 have k:wo.cell? ⟨w.heap.size,m/64,none⟩=some (.int .u64 (s.word (m/64))):=by
  have h:=Bp.out.cell (m/64)
  rwa [show(#[.int .u64 s.a,.int .u64 s.b,.int .u64 s.c,.int .u64 s.d]:Array Value)[m/64]?=some (.int .u64 (s.word (m/64))) by rw[← Array.getElem?_toList];exact s.um (by omega)] at h
 obtain⟨x,hx⟩:∃ x,x=s.word (m/64):=⟨_,rfl⟩;rw[← hx] at k;have HX:=asv hx;have HOX:=asv (RM (x:=x) (j:=m%64) (by rw[hx];exact au.iy hs _) (Nat.mod_lt _ (by decide)));have HOY:=asv (bits_or_u64_nat x (2^(m%64)) (by rw[hx];exact au.iy hs _) (vf (Nat.mod_lt _ (by decide))));have htw:IntKind.u64.wrap (2^(m%64))=((2^(m%64):Nat):Int):=zl (Nat.mod_lt _ (by decide));clear hx;have h4:m/64<4:=by omega
 have hm':(m:Int)<256:=by omega
 go_enter Tryz.func130,Tryz.ntmps130
 go_upto_region 1 with(fail)
 rw[← bS];clear bS
 go_wp2_with (go_at_call 206;go_must (refine(Af _ (m:Int) (by omega) (by omega)).mono ?_;rintro e w' ⟨rfl,rfl⟩))
 refine eU (fun w w'=>Below w.heap.size w w') [some 11,some 12,some 13,some 14,some 15,some 16,some 17,some 18,some 19,some 20] [bL (.int .i64 m),bL (.int .i64 ((m/64:Nat):Int)),bL (.int .i64 m),bL (.int .i64 ((m/64:Nat):Int)),bL (.pointer (some ⟨w.heap.size,m/64,none⟩)),bL (.int .u64 x),bL (.int .i64 m),bL (.int .u64 ((2^(m%64):Nat):Int)),bL (.int .u64 ((x|||2^(m%64):Nat):Int)),bL (.pointer (some ⟨w.heap.size,m/64,none⟩))] (fun _ w'=>Below wo.heap.size wo w') 10 (by kernel_rfl) (by kernel_rfl) (by kernel_rfl) rfl (by decide) rfl rfl ((Below.refl _ _).drew) ⟨aj _,aj _,aj _,aj _,aj _,aj _,aj _,aj _,aj _,aj _,trivial⟩ ⟨(fun _=>aE _),(fun _=>aE _),(fun _=>aE _),(fun _=>aE _),(fun _=>aE _),(fun _=>aE _),(fun _=>aE _),(fun _=>aE _),(fun _=>aE _),(fun _=>aE _),trivial⟩ ⟨?_,?_,?_,?_,?_,?_,?_,?_,?_,?_,?_⟩
 ·intro L a wx Q' hL hi H F hK
  try dsimp only at hi
  have h1:a.tmps[1]?=some (.int .i64 m):=F 1 rfl;have HI:=asv hi;clear H F hi hL
  go_wp2_with fail
  exact hK _ _ (Below.refl _ _) HI.out rfl
 ·intro L a wx Q' hL hi H F hK
  try dsimp only at hi
  obtain⟨_,mH,rfl⟩:=H 0 ⟨.data,by simp,rfl⟩ _ rfl;replace mH:=mH _ rfl;have HI:=asv hi;clear H F hi hL
  go_wp2_with fail
  exact hK _ _ (Below.refl _ _) HI.out rfl
 ·intro L a wx Q' hL hi H F hK
  try dsimp only at hi
  have h1:a.tmps[1]?=some (.int .i64 m):=F 1 rfl;have HI:=asv hi;clear H F hi hL
  go_wp2_with fail
  exact hK _ _ (Below.refl _ _) HI.out rfl
 ·intro L a wx Q' hL hi H F hK
  try dsimp only at hi
  obtain⟨_,H_,rfl⟩:=H 2 ⟨.data,by simp,rfl⟩ _ rfl;replace H_:=H_ _ rfl;have HI:=asv hi;clear H F hi hL
  go_wp2_with fail
  exact hK _ _ (Below.refl _ _) HI.out rfl
 ·intro L a wx Q' hL hi H F hK
  try dsimp only at hi
  obtain⟨_,Jd,rfl⟩:=H 3 ⟨.data,by simp,rfl⟩ _ rfl;replace Jd:=Jd _ rfl;have h2:a.tmps[2]?=some (.pointer (some ⟨w.heap.size,0,none⟩)):=F 2 rfl;have HI:=asv hi;clear H F hi hL
  go_wp2_with fail
  exact hK _ _ (Below.refl _ _) HI.out rfl
 ·intro L a wx Q' hL hi H F hK
  try dsimp only at hi
  obtain⟨_,CS,rfl⟩:=H 4 ⟨.data,by simp,rfl⟩ _ rfl;replace CS:=CS _ rfl;have HI:=asv hi;clear H F hi hL;have kk:wx.cell? ⟨w.heap.size,m/64,none⟩=some (.int .u64 x):=asw HI.out k
  go_wp2_with fail
  exact hK _ _ (Below.refl _ _) HI.out rfl
 ·intro L a wx Q' hL hi H F hK
  try dsimp only at hi
  have h1:a.tmps[1]?=some (.int .i64 m):=F 1 rfl;have HI:=asv hi;clear H F hi hL
  go_wp2_with fail
  exact hK _ _ (Below.refl _ _) HI.out rfl
 ·intro L a wx Q' hL hi H F hK
  try dsimp only at hi
  obtain⟨_,QD,rfl⟩:=H 6 ⟨.data,by simp,rfl⟩ _ rfl;replace QD:=QD _ rfl;have HI:=asv hi;clear H F hi hL
  go_wp2_with (go_at_call 64;go_must (refine(Fm _ m hm).mono ?_;rintro e w1 ⟨rfl,rfl⟩))
  exact hK _ _ (Below.refl _ _) HI.out rfl
 ·intro L a wx Q' hL hi H F hK
  try dsimp only at hi
  obtain⟨_,CR,rfl⟩:=H 5 ⟨.data,by simp,rfl⟩ _ rfl;replace CR:=CR _ rfl;obtain⟨_,QC,rfl⟩:=H 7 ⟨.data,by simp,rfl⟩ _ rfl;replace QC:=QC _ rfl;have HI:=asv hi;clear H F hi hL
  go_wp2_with fail
  exact hK _ _ (Below.refl _ _) HI.out (by first|exact congrArg (Value.int IntKind.u64) HOX.out.symm|exact congrArg (Value.int IntKind.u64) HOY.out.symm)
 ·intro L a wx Q' hL hi H F hK
  try dsimp only at hi
  obtain⟨_,h12,rfl⟩:=H 1 ⟨.data,by simp,rfl⟩ _ rfl;replace h12:=h12 _ rfl;have h2:a.tmps[2]?=some (.pointer (some ⟨w.heap.size,0,none⟩)):=F 2 rfl;have HI:=asv hi;clear H F hi hL
  go_wp2_with fail
  exact hK _ _ (Below.refl _ _) HI.out rfl
 ·intro a wx hl L hi hL Q' hK
  try dsimp only at hi
  have HB:=asv hi;clear hi hL;obtain⟨_,rfl,_,rfl,_,rfl,_,rfl,_,rfl,_,rfl,_,rfl,_,rfl,_,rfl,_,rfl,rfl⟩:=hl;simp only[List.setIfInBounds_toArray,List.set_cons_zero,List.set_cons_succ];have HSX:=asv (Whole.under HB.out Bp.out Bp.out.lt);have HRX:=asv (Whole.under HB.out B6.out B6.out.lt);clear Bp B6 k;obtain⟨t,ht⟩:∃ t,t=s.add m:=⟨_,rfl⟩;have HT:=asv ht;clear ht
  go_wp2_with (first|(refine aZ rfl 52 _ _ rfl (w.heap.size) (m/64) (.int .u64 ((x|||2^(m%64):Nat):Int)) rfl rfl 54 _ HSX.out (by simp[Value.cells];omega) DE rfl ?_;intro w1 S1 W1;have HS1:=asv S1;have HW1:=asv (show Whole w1 w.heap.size 54 #[.int .u64 t.a,.int .u64 t.b,.int .u64 t.c,.int .u64 t.d] by rw[HT.out];unfold au.add;rw[← HX.out];rw[show #[.int .u64 (s.put (m/64) (x|||2^(m%64))).a,.int .u64 (s.put (m/64) (x|||2^(m%64))).b,.int .u64 (s.put (m/64) (x|||2^(m%64))).c,.int .u64 (s.put (m/64) (x|||2^(m%64))).d]=splice #[.int .u64 s.a,.int .u64 s.b,.int .u64 s.c,.int .u64 s.d] (m/64) [.int .u64 ((x|||2^(m%64):Nat):Int)] from rD s (by omega) _];exact W1);clear S1 W1)|(refine wpList_load_row rfl 54 _ rfl (w.heap.size) rfl 54 _ (0,0) _ HW1.out Tryz.underlying54 rfl cF ?_)|(refine aZ rfl 54 _ _ rfl (w.heap.size+1) 0 (.agg #[.int .u64 t.a,.int .u64 t.b,.int .u64 t.c,.int .u64 t.d]) rfl rfl 54 _ (HS1.out.whole HRX.out (by omega)) (by simp[Value.cells]) cF rfl ?_;intro w2 S2 W2;rw[cE _ _ (by rfl)] at W2;have yw:=asv S2;have HW2:=asv (show Whole w2 (w.heap.size+1) 54 #[.int .u64 t.a,.int .u64 t.b,.int .u64 t.c,.int .u64 t.d] from W2);clear S2 W2))
  have e0:w2.cell? ⟨w.heap.size+1,0,none⟩=some (.int .u64 t.a):=HW2.out.cell 0;have e1:w2.cell? ⟨w.heap.size+1,1,none⟩=some (.int .u64 t.b):=HW2.out.cell 1;have e2:w2.cell? ⟨w.heap.size+1,2,none⟩=some (.int .u64 t.c):=HW2.out.cell 2;have e3:w2.cell? ⟨w.heap.size+1,3,none⟩=some (.int .u64 t.d):=HW2.out.cell 3;refine bodyPost_ret (v:=.agg #[.int .u64 t.a,.int .u64 t.b,.int .u64 t.c,.int .u64 t.d]) ?_ rfl ⟨by rw[HT.out],((ef.out.trans (HB.out.mono ef.out.size)).trans (HS1.out.below (Nat.le_refl _))).trans (yw.out.below (by omega))⟩;simp[results,Tryz.results130,go_sem,e0,e1,e2,e3]
theorem J8(w:World)(s:au)(n:Int)(hn:n<0):
 Calls Tryz.prog 130 #[.agg #[.int .u64 s.a,.int .u64 s.b,.int .u64 s.c,.int .u64 s.d],.int .i64 n] w fun e w'=>e=.returned (.agg #[.int .u64 s.a,.int .u64 s.b,.int .u64 s.c,.int .u64 s.d])∧Below w.heap.size w w':=by
 have hn1:¬ 0≤n:=by omega
 obtain⟨wo,bS⟩:∃ wo,wo=(w.alloc (.cells #[.int .u64 s.a,.int .u64 s.b,.int .u64 s.c,.int .u64 s.d] 54)).alloc (.cells #[.int .u64 0,.int .u64 0,.int .u64 0,.int .u64 0] 54):=⟨_,rfl⟩;have Bp:=asv (show Whole wo w.heap.size 54 #[.int .u64 s.a,.int .u64 s.b,.int .u64 s.c,.int .u64 s.d] by rw[bS];exact(Whole.new w 54 #[.int .u64 s.a,.int .u64 s.b,.int .u64 s.c,.int .u64 s.d]).alloc _);have B6:=asv (show Whole wo (w.heap.size+1) 54 #[.int .u64 0,.int .u64 0,.int .u64 0,.int .u64 0] by rw[bS];exact dg w _ #[.int .u64 0,.int .u64 0,.int .u64 0,.int .u64 0] _);have ef:=asv (show Below w.heap.size w wo by rw[bS];exact((Below.refl _ w).alloc (Nat.le_refl _) _).alloc (by simp) _)
 go_enter Tryz.func130,Tryz.ntmps130
 go_upto_region 1 with(fail)
 rw[← bS];clear bS
 go_wp2_with (first|(go_at_call 206;go_must (refine(CK _ n hn1).mono ?_;rintro e w' ⟨rfl,rfl⟩))|(refine wpList_load_row rfl 54 _ rfl (w.heap.size) rfl 54 _ (0,0) _ (Bp.out) Tryz.underlying54 rfl cF ?_)|(refine aZ rfl 54 _ _ rfl (w.heap.size+1) 0 (.agg #[.int .u64 s.a,.int .u64 s.b,.int .u64 s.c,.int .u64 s.d]) rfl rfl 54 _ B6.out (by simp[Value.cells]) cF rfl ?_;intro w2 S2 W2;rw[cE _ _ (by rfl)] at W2;have yw:=asv S2;have HW2:=asv (show Whole w2 (w.heap.size+1) 54 #[.int .u64 s.a,.int .u64 s.b,.int .u64 s.c,.int .u64 s.d] from W2);clear S2 W2))
 have e0:w2.cell? ⟨w.heap.size+1,0,none⟩=some (.int .u64 s.a):=HW2.out.cell 0;have e1:w2.cell? ⟨w.heap.size+1,1,none⟩=some (.int .u64 s.b):=HW2.out.cell 1;have e2:w2.cell? ⟨w.heap.size+1,2,none⟩=some (.int .u64 s.c):=HW2.out.cell 2;have e3:w2.cell? ⟨w.heap.size+1,3,none⟩=some (.int .u64 s.d):=HW2.out.cell 3;refine bodyPost_ret (v:=.agg #[.int .u64 s.a,.int .u64 s.b,.int .u64 s.c,.int .u64 s.d]) ?_ rfl ⟨rfl,ef.out.trans (yw.out.below (by omega))⟩;simp[results,Tryz.results130,go_sem,e0,e1,e2,e3]
theorem J7(w:World)(s:au)(n:Int)(hn:256≤n):
 Calls Tryz.prog 130 #[.agg #[.int .u64 s.a,.int .u64 s.b,.int .u64 s.c,.int .u64 s.d],.int .i64 n] w fun e w'=>e=.returned (.agg #[.int .u64 s.a,.int .u64 s.b,.int .u64 s.c,.int .u64 s.d])∧Below w.heap.size w w':=by
 have hn0:0≤n:=by omega
 have hn1:¬ n<256:=by omega
 obtain⟨wo,bS⟩:∃ wo,wo=(w.alloc (.cells #[.int .u64 s.a,.int .u64 s.b,.int .u64 s.c,.int .u64 s.d] 54)).alloc (.cells #[.int .u64 0,.int .u64 0,.int .u64 0,.int .u64 0] 54):=⟨_,rfl⟩;have Bp:=asv (show Whole wo w.heap.size 54 #[.int .u64 s.a,.int .u64 s.b,.int .u64 s.c,.int .u64 s.d] by rw[bS];exact(Whole.new w 54 #[.int .u64 s.a,.int .u64 s.b,.int .u64 s.c,.int .u64 s.d]).alloc _);have B6:=asv (show Whole wo (w.heap.size+1) 54 #[.int .u64 0,.int .u64 0,.int .u64 0,.int .u64 0] by rw[bS];exact dg w _ #[.int .u64 0,.int .u64 0,.int .u64 0,.int .u64 0] _);have ef:=asv (show Below w.heap.size w wo by rw[bS];exact((Below.refl _ w).alloc (Nat.le_refl _) _).alloc (by simp) _)
 go_enter Tryz.func130,Tryz.ntmps130
 go_upto_region 1 with(fail)
 rw[← bS];clear bS
 go_wp2_with (first|(go_at_call 206;go_must (refine(CM _ n hn0 hn1).mono ?_;rintro e w' ⟨rfl,rfl⟩))|(refine wpList_load_row rfl 54 _ rfl (w.heap.size) rfl 54 _ (0,0) _ (Bp.out) Tryz.underlying54 rfl cF ?_)|(refine aZ rfl 54 _ _ rfl (w.heap.size+1) 0 (.agg #[.int .u64 s.a,.int .u64 s.b,.int .u64 s.c,.int .u64 s.d]) rfl rfl 54 _ B6.out (by simp[Value.cells]) cF rfl ?_;intro w2 S2 W2;rw[cE _ _ (by rfl)] at W2;have yw:=asv S2;have HW2:=asv (show Whole w2 (w.heap.size+1) 54 #[.int .u64 s.a,.int .u64 s.b,.int .u64 s.c,.int .u64 s.d] from W2);clear S2 W2))
 have e0:w2.cell? ⟨w.heap.size+1,0,none⟩=some (.int .u64 s.a):=HW2.out.cell 0;have e1:w2.cell? ⟨w.heap.size+1,1,none⟩=some (.int .u64 s.b):=HW2.out.cell 1;have e2:w2.cell? ⟨w.heap.size+1,2,none⟩=some (.int .u64 s.c):=HW2.out.cell 2;have e3:w2.cell? ⟨w.heap.size+1,3,none⟩=some (.int .u64 s.d):=HW2.out.cell 3;refine bodyPost_ret (v:=.agg #[.int .u64 s.a,.int .u64 s.b,.int .u64 s.c,.int .u64 s.d]) ?_ rfl ⟨rfl,ef.out.trans (yw.out.below (by omega))⟩;simp[results,Tryz.results130,go_sem,e0,e1,e2,e3]
theorem Cr(w:World)(s:au)(hs:s.Ok)(n:Int):
 Calls Tryz.prog 130 #[.agg #[.int .u64 s.a,.int .u64 s.b,.int .u64 s.c,.int .u64 s.d],.int .i64 n] w fun e w'=>e=.returned (.agg #[.int .u64 (s.with n).a,.int .u64 (s.with n).b,.int .u64 (s.with n).c,.int .u64 (s.with n).d])∧Below w.heap.size w w':=by
 unfold au.with
 by_cases h:0≤n∧n<256
 ·obtain⟨m,rfl⟩:∃ m:Nat,n=m:=⟨n.toNat,by omega⟩;rw[if_pos h];exact Rt w s hs m (by omega)
 ·rw[if_neg h];by_cases h0:n<0
  ·exact J8 w s n h0
  ·exact J7 w s n (by omega)
def ints(l:List Nat):List Value:=l.map fun n:Nat=>.int .i64 (n:Int)
theorem Sp(a b:List Nat):ints (a++b)=ints a++ints b:=List.map_append
def cZ(s:au)(k:Nat):List Nat:=(List.range k).filter s.has
def elems(s:au):List Nat:=cZ s 256
theorem iL(s:au)(k:Nat):(cZ s k).length≤k:=by
 have:=List.length_filter_le s.has (List.range k);simpa[cZ] using this
theorem lT{s:au}{k:Nat}(h:s.has k=true):cZ s (k+1)=cZ s k++[k]:=by
 simp[cZ,List.range_succ,List.filter_append,h]
theorem nW{s:au}{k:Nat}(h:s.has k=false):cZ s (k+1)=cZ s k:=by
 simp[cZ,List.range_succ,List.filter_append,h]
theorem au.jd(s:au){k:Nat}(h:k<256):s.mem (k:Int)=s.has k:=by
 unfold au.mem;simp;omega
theorem info3:gU (Tryz.prog.info? 3) 1 8=true:=by kernel_rfl
theorem cell_one_new(w:World)(v:Value)(t:TypeId):∀ j u,([v]:List Value)[j]?=some u→(w.alloc (.cells #[v] t)).cell? ((⟨w.heap.size,0,none⟩:Addr).add j)=some u:=fun j u hj=>by
 rw[Addr.add_lit,Nat.zero_add];exact((Whole.new w t #[v]).cell j).trans (by simpa using hj)
theorem z8(w:World)(s:au)(hs:s.Ok):
 Calls Tryz.prog 123 #[.agg #[.int .u64 s.a,.int .u64 s.b,.int .u64 s.c,.int .u64 s.d]] w fun e w'=>∃ v,e=.returned v∧w'.ownsRow w.heap.size 3 1 v (elems s).length (ints (elems s))∧Below w.heap.size w w':=by
 obtain⟨i0,z,hi,hz0,hz1,hz2,hzs⟩:=mG info3;have HS:=asv hs;clear hs;have HW0:=asv (Whole.new w 54 #[.int .u64 s.a,.int .u64 s.b,.int .u64 s.c,.int .u64 s.d])
 go_enter Tryz.func123,Tryz.ntmps123
 go_wp2_with fail
 go_loopw [3,5] (fun u i wr=>∃ k:Nat,k≤256∧i=.int .i64 k∧wr.ownsRow w.heap.size 3 1 u (cZ s k).length (ints (cZ s k))∧Below w.heap.size w wr∧Whole wr w.heap.size 54 #[.int .u64 s.a,.int .u64 s.b,.int .u64 s.c,.int .u64 s.d]) (fun _ i _=>256-(intOf i).toNat)
 case atStart=>exact⟨0,Nat.zero_le _,rfl,by simpa[cZ,ints] using World.ownsRow_nil _ _ _ _,(Below.refl _ w).alloc (Nat.le_refl _) _,HW0.out⟩
 case round=>
  clear HW0;obtain⟨k,hk,rfl,hown,hb,hW⟩:=hrel;have HO:=asv hown;have HB:=asv hb;have QG:=asv hW;clear hown hb hW;have hlen:=iL s k;by_cases hlt:k<256
  ·have hkk:(k:Int)<256:=by omega
   have aju:True:=trivial;by_cases hh:s.has k=true
   ·have HH:=asv hh;clear hh
    go_wp2_with (first|(refine wpList_load_row rfl 54 _ rfl (w.heap.size) rfl 54 _ (0,0) _ QG.out Tryz.underlying54 rfl cF ?_)|(go_at_call 191;go_must (refine(show Calls Tryz.prog 191 _ _ (fun e w'=>e=.returned (.bool true)∧Below wr.heap.size wr w') from by have h:=yU wr s HS.out (k:Int);rw[au.jd s hlt,HH.out] at h;exact h).mono ?_;rintro e w1 ⟨rfl,hb1⟩;have eE:=asv hb1;clear hb1))|(at_builtin;refine wpList_append_own _ rfl _ _ 64 rfl w.heap.size 3 i0 z 1 8 Tryz.underlying64 hi hz0 hz1 hz2 hzs (by decide) _ _ _ rfl ((dS eE.out HO.out (Nat.le_refl _)).alloc _) ⟨w1.heap.size,0,none⟩ 1 1 [.int .i64 (k:Int)] rfl rfl (cell_one_new _ _ _) ?c2 ?c3 ?c4 ?c5 ?_))
    case c2=>simp[Value.oneCell']
    case c3=>unfold maxLen;omega
    case c4=>omega
    case c5=>have:=HB.out.size;have:=eE.out.size;simp;omega
    intro v' w2 hown' hgrow hnil;have HO1:=asv (dS eE.out HO.out (Nat.le_refl _));have hb2:Below w.heap.size w w2:=((HB.out.trans (eE.out.mono HB.out.size)).alloc (by have:=HB.out.size;have:=eE.out.size;omega) _).grown hgrow (by have:=HB.out.size;have:=eE.out.size;simp;omega) (fun q hq=>by have:=(HO1.out.lt q hq).1;omega);have HWn:=asv (((Whole.under eE.out QG.out QG.out.lt).alloc (.cells #[.int .i64 (k:Int)] 3)).grown hgrow (fun e=>jM HO1.out (Whole.under eE.out QG.out QG.out.lt) (by decide) e.symm));have HN:=asv hown';have nA:=asv hb2;clear hgrow hnil hown' hb2
    go_wp2
    go_roundw
    case rel=>exact⟨k+1,by omega,by go_num,by rw[lT HH.out,asx,Sp];exact HN.out,nA.out,HWn.out⟩
    case measure=>simp[intOf];omega
   ·have HH:=asv (Bool.eq_false_iff.2 hh);clear hh
    go_wp2_with (first|(refine wpList_load_row rfl 54 _ rfl (w.heap.size) rfl 54 _ (0,0) _ QG.out Tryz.underlying54 rfl cF ?_)|(go_at_call 191;go_must (refine(show Calls Tryz.prog 191 _ _ (fun e w'=>e=.returned (.bool false)∧Below wr.heap.size wr w') from by have h:=yU wr s HS.out (k:Int);rw[au.jd s hlt,HH.out] at h;exact h).mono ?_;rintro e w1 ⟨rfl,hb1⟩;have eE:=asv hb1;clear hb1)))
    go_roundw
    case rel=>exact⟨k+1,by omega,by go_num,by rw[nW HH.out];exact dS eE.out HO.out (Nat.le_refl _),HB.out.trans (eE.out.mono HB.out.size),Whole.under eE.out QG.out QG.out.lt⟩
    case measure=>simp[intOf];omega
  ·obtain rfl:k=256:=by omega
   go_wp2_with fail
   go_ret
   exact⟨_,rfl,HO.out,HB.out⟩
structure ak where
 kind:Int
 src:au
 tgt:au
 self:Bool
 cls:Int
 perms:Int
 cond:Int
structure ak.Ok (r:ak):Prop where
 src:r.src.Ok
 tgt:r.tgt.Ok
def ak.cells(r:ak):List Value:=[.int .i64 r.kind,.int .u64 r.src.a,.int .u64 r.src.b,.int .u64 r.src.c,.int .u64 r.src.d,.int .u64 r.tgt.a,.int .u64 r.tgt.b,.int .u64 r.tgt.c,.int .u64 r.tgt.d,.bool r.self,.int .i64 r.cls,.int .u32 r.perms,.int .i64 r.cond]
def ak.tgts(r:ak)(s:Nat):au:=if r.self then r.tgt.with s else r.tgt
def ak.dO(r:ak)(l:List Nat):List (Nat×Nat):=l.flatMap fun s=>(elems (r.tgts s)).map fun t=>(s,t)
def ak.pairs(r:ak):List (Nat×Nat):=r.dO (elems r.src)
def GN(p:Nat×Nat):List Value:=[.int .i64 (p.1:Int),.int .i64 (p.2:Int)]
def gZ(l:List (Nat×Nat)):List Value:=l.flatMap GN
theorem nJ(a b:List (Nat×Nat)):gZ (a++b)=gZ a++gZ b:=List.flatMap_append
theorem Hg(a:List Nat):∀ u∈ints a,u.oneCell'=true:=by
 intro u hu;obtain⟨p,-,rfl⟩:=asy.1 hu;rfl
theorem OP{w:World}{b b':Nat}{e e':TypeId}{k k' n n':Nat}{v v':Value}{xs xs':List Value}(h:w.ownsRow b e k v n xs)(h':w.ownsRow b' e' k' v' n' xs')(hne:e≠e'):v.ownBlock=none∨v.ownBlock≠v'.ownBlock:=by
 rcases h.2 with⟨rfl,_⟩|⟨g,cap,cur,rfl,_,hg,_⟩
 ·exact .inl rfl
 ·refine .inr fun e1=>jM h' (g:=g) (t:=e) (cs:=cur) hg (fun e2=>hne e2.symm) ?_
  rw[← e1];rfl
theorem Cx{w w':World}{b b':Nat}{e e':TypeId}{k k' n n':Nat}{v v':Value}{xs xs':List Value}(h:w.ownsRow b e k v n xs)(h':w.ownsRow b' e' k' v' n' xs')(hne:e≠e')(hg:w.grownBy w' v'.ownBlock):w'.ownsRow b e k v n xs:=
 h.kept hg (OP h h' hne)
theorem mU{w:World}{b:Nat}{e:TypeId}{k n:Nat}{v:Value}{xs:List Value}(h:w.ownsRow b e k v n xs)(o:Obj):(w.alloc o).ownsRow b e k v n xs:=dS ((Below.refl _ w).alloc (Nat.le_refl _) o) h (Nat.le_refl _)
theorem VT:gU (Tryz.prog.info? 111) 2 16=true:=by kernel_rfl
theorem GR(w:World)(u v:Value)(t:TypeId):∀ j x,([u,v]:List Value)[j]?=some x→(w.alloc (.cells #[u,v] t)).cell? ((⟨w.heap.size,0,none⟩:Addr).add j)=some x:=fun j x hj=>by
 rw[Addr.add_lit,Nat.zero_add];exact((Whole.new w t #[u,v]).cell j).trans (by simpa using hj)
def InR(w:World)(r:ak)(a1:Option Addr)(c1 n1:Nat)(a2:Option Addr)(c2 n2:Nat)(l2:List Nat)(P:List (Nat×Nat))(u:Value)(wr:World):Prop:=
 wr.ownsRow w.heap.size 111 2 u P.length (gZ P)∧wr.ownsRow w.heap.size 3 1 (.slice a1 n1 c1) n1 (ints (elems r.src))∧wr.ownsRow w.heap.size 3 1 (.slice a2 n2 c2) n2 (ints l2)∧Below w.heap.size w wr∧Whole wr w.heap.size 56 #[.int .i64 r.kind,.int .u64 r.src.a,.int .u64 r.src.b,.int .u64 r.src.c,.int .u64 r.src.d,.int .u64 r.tgt.a,.int .u64 r.tgt.b,.int .u64 r.tgt.c,.int .u64 r.tgt.d,.bool r.self,.int .i64 r.cls,.int .u32 r.perms,.int .i64 r.cond]
def aaJ(w:World)(r:ak)(a1:Option Addr)(c1 n1:Nat)(P:List (Nat×Nat))(u:Value)(wr:World):Prop:=
 wr.ownsRow w.heap.size 111 2 u P.length (gZ P)∧wr.ownsRow w.heap.size 3 1 (.slice a1 n1 c1) n1 (ints (elems r.src))∧Below w.heap.size w wr∧Whole wr w.heap.size 56 #[.int .i64 r.kind,.int .u64 r.src.a,.int .u64 r.src.b,.int .u64 r.src.c,.int .u64 r.src.d,.int .u64 r.tgt.a,.int .u64 r.tgt.b,.int .u64 r.tgt.c,.int .u64 r.tgt.d,.bool r.self,.int .i64 r.cls,.int .u32 r.perms,.int .i64 r.cond]
theorem aaJ.keep{w wr w':World}{r:ak}{a1:Option Addr}{c1 n1:Nat}{P:List (Nat×Nat)}{u:Value}(h:aaJ w r a1 c1 n1 P u wr)(hb:Below wr.heap.size wr w'):aaJ w r a1 c1 n1 P u w':=
 ⟨dS hb h.1 (Nat.le_refl _),dS hb h.2.1 (Nat.le_refl _),h.2.2.1.trans (hb.mono h.2.2.1.size),Whole.under hb h.2.2.2 h.2.2.2.lt⟩
theorem wU(r:ak)(l:List Nat):(r.dO l).length≤l.length*256:=by
 induction l with
 | nil=>simp[ak.dO]
 | cons s l ih=>
  have h1:=iL (r.tgts s) 256;have e:(r.dO (s::l)).length=(elems (r.tgts s)).length+(r.dO l).length:=by simp[ak.dO]
  rw[e,List.length_cons,Nat.add_mul];unfold elems;omega
theorem tG(r:ak)(l:List Nat)(s:Nat):r.dO (l++[s])=r.dO l++(elems (r.tgts s)).map fun t=>(s,t):=by simp[ak.dO]
theorem InR.more{w wr w2:World}{r:ak}{a1 a2:Option Addr}{c1 n1 c2 n2:Nat}{l2:List Nat}{P:List (Nat×Nat)}{u v':Value}{s y:Nat}(h:InR w r a1 c1 n1 a2 c2 n2 l2 P u wr)
 (hown:w2.ownsRow w.heap.size 111 2 v' (P.length+1) (gZ P++GN (s,y))) (hg:(wr.alloc (.cells #[.int .i64 (s:Int),.int .i64 (y:Int)] 111)).grownBy w2 u.ownBlock):InR w r a1 c1 n1 a2 c2 n2 l2 (P++[(s,y)]) v' w2:=by
 obtain⟨h1,h2,h3,h4,h5⟩:=h;have ho:=mU h1 (.cells #[.int .i64 (s:Int),.int .i64 (y:Int)] 111);refine⟨?_,Cx (mU h2 _) ho (by decide) hg,Cx (mU h3 _) ho (by decide) hg,(h4.alloc h4.size _).grown hg (by have:=h4.size;simp;omega) (fun q hq=>by have:=(h1.lt q hq).1;omega),(h5.alloc _).grown hg (fun e=>jM h1 h5 (by decide) e.symm)⟩;rw[asx,nJ];exact hown
theorem sO(r:ak){s q:Nat}(hs:s<256)(hq:q<256):(r.tgts s).has q=(r.tgt.has q||(r.self&&decide (q=s))):=by
 unfold ak.tgts au.with
 cases r.self with
 | false=>simp
 | true=>
  rw[if_pos rfl,if_pos ⟨by omega,by omega⟩,Int.toNat_natCast,au.has_add _ hs hq,Bool.or_comm];simp
def yu(w:World)(r:ak)(P:List (Nat×Nat))(u:Value)(wr:World):Prop:=
 wr.ownsRow w.heap.size 111 2 u P.length (gZ P)∧Below w.heap.size w wr∧Whole wr w.heap.size 56 #[.int .i64 r.kind,.int .u64 r.src.a,.int .u64 r.src.b,.int .u64 r.src.c,.int .u64 r.src.d,.int .u64 r.tgt.a,.int .u64 r.tgt.b,.int .u64 r.tgt.c,.int .u64 r.tgt.d,.bool r.self,.int .i64 r.cls,.int .u32 r.perms,.int .i64 r.cond]
theorem yu.keep{w wr w':World}{r:ak}{P:List (Nat×Nat)}{u:Value}(h:yu w r P u wr)(hb:Below wr.heap.size wr w'):yu w r P u w':=
 ⟨dS hb h.1 (Nat.le_refl _),h.2.1.trans (hb.mono h.2.1.size),Whole.under hb h.2.2 h.2.2.lt⟩
theorem yu.more{w wr w2:World}{r:ak}{P:List (Nat×Nat)}{u v':Value}{s y:Nat}(h:yu w r P u wr)
 (hown:w2.ownsRow w.heap.size 111 2 v' (P.length+1) (gZ P++GN (s,y))) (hg:(wr.alloc (.cells #[.int .i64 (s:Int),.int .i64 (y:Int)] 111)).grownBy w2 u.ownBlock):yu w r (P++[(s,y)]) v' w2:=by
 obtain⟨h1,h4,h5⟩:=h;refine⟨?_,(h4.alloc h4.size _).grown hg (by have:=h4.size;simp;omega) (fun q hq=>by have:=(h1.lt q hq).1;omega),(h5.alloc _).grown hg (fun e=>jM h1 h5 (by decide) e.symm)⟩;rw[asx,nJ];exact hown
theorem GF(w:World)(r:ak)(hr:r.Ok):
 Calls Tryz.prog 212 #[.agg #[.int .i64 r.kind,.int .u64 r.src.a,.int .u64 r.src.b,.int .u64 r.src.c,.int .u64 r.src.d,.int .u64 r.tgt.a,.int .u64 r.tgt.b,.int .u64 r.tgt.c,.int .u64 r.tgt.d,.bool r.self,.int .i64 r.cls,.int .u32 r.perms,.int .i64 r.cond]] w fun e w'=>∃ v,e=.returned v∧w'.ownsRow w.heap.size 111 2 v r.pairs.length (gZ r.pairs)∧Below w.heap.size w w':=by
 obtain⟨i0,z,hi,hz0,hz1,hz2,hzs⟩:=mG VT;have HR:=asv hr;clear hr;have HO0:=asv (show yu w r [] (.slice none 0 0) (w.alloc (.cells #[.int .i64 r.kind,.int .u64 r.src.a,.int .u64 r.src.b,.int .u64 r.src.c,.int .u64 r.src.d,.int .u64 r.tgt.a,.int .u64 r.tgt.b,.int .u64 r.tgt.c,.int .u64 r.tgt.d,.bool r.self,.int .i64 r.cls,.int .u32 r.perms,.int .i64 r.cond] 56)) from⟨World.ownsRow_nil _ _ _ _,(Below.refl _ w).alloc (Nat.le_refl _) _,Whole.new w 56 #[.int .i64 r.kind,.int .u64 r.src.a,.int .u64 r.src.b,.int .u64 r.src.c,.int .u64 r.src.d,.int .u64 r.tgt.a,.int .u64 r.tgt.b,.int .u64 r.tgt.c,.int .u64 r.tgt.d,.bool r.self,.int .i64 r.cls,.int .u32 r.perms,.int .i64 r.cond]⟩)
 go_enter Tryz.func212,Tryz.ntmps212
 go_wp2_with fail
 go_loopw [3,4] (fun u i wr=>∃ s:Nat,s≤256∧i=.int .i64 s∧yu w r (r.dO (cZ r.src s)) u wr) (fun _ i _=>256-(intOf i).toNat)
 case atStart=>exact⟨0,Nat.zero_le _,rfl,HO0.out⟩
 case round=>
  clear HO0;obtain⟨s,hs,rfl,hO⟩:=hrel;have HO:=asv hO;clear hO;by_cases hlt:s<256
  ·have Ho:s<256:=hlt;have hsi:(s:Int)<256:=by omega
   have hP:=wU r (cZ r.src s);have hP2:=iL r.src s;obtain⟨P,hPe⟩:∃ P,P=r.dO (cZ r.src s):=⟨_,rfl⟩;rw[← hPe] at HO hP;have HPE:=asv hPe;have hPl:P.length≤65536:=asz hP (by omega);clear hPe hP hP2;by_cases hsr:r.src.has s=true
   ·have Yb:=asv hsr;clear hsr
    go_wp2_with fail
    go_loopw [3,5] (fun u i wq=>∃ q:Nat,q≤256∧i=.int .i64 q∧(q=0∨r.src.has s=true)∧yu w r (P++(cZ (r.tgts s) q).map fun t=>(s,t)) u wq) (fun _ i _=>256-(intOf i).toNat)
    case atStart=>exact⟨0,Nat.zero_le _,rfl,.inl rfl,by simpa[cZ] using HO.out⟩
    case round=>
     clear HO;obtain⟨q,hq,rfl,-,hI⟩:=hrel;have HI:=asv hI;clear hI;by_cases agJ:q<256
     ·have M_:q<256:=agJ;have hqi:(q:Int)<256:=by omega
      have hlp:(P++(cZ (r.tgts s) q).map fun t=>(s,t)).length≤65536+q:=by rw[asx,List.length_map];have:=iL (r.tgts s) q;omega
      obtain⟨PQ,hPQ⟩:∃ PQ,PQ=P++(cZ (r.tgts s) q).map fun t=>(s,t):=⟨_,rfl⟩
      rw[← hPQ] at HI hlp;have HPQ:=asv hPQ;clear hPQ;have qj:=Yb;have k1:wr.cell? ⟨w.heap.size,1,none⟩=some (.int .u64 r.src.a):=HI.out.2.2.cell 1;have k2:wr.cell? ⟨w.heap.size,2,none⟩=some (.int .u64 r.src.b):=HI.out.2.2.cell 2;have k3:wr.cell? ⟨w.heap.size,3,none⟩=some (.int .u64 r.src.c):=HI.out.2.2.cell 3;have k4:wr.cell? ⟨w.heap.size,4,none⟩=some (.int .u64 r.src.d):=HI.out.2.2.cell 4;by_cases hth:r.tgt.has q=true
      ·have HTT:=asv (show(r.tgts s).has q=true by rw[sO r (by omega) (by omega)];simp[hth]);have LR:=asv hth;clear hth
       go_wp2_with (first|(have hZ:=qj;clear hZ;go_at_call 18;go_must (refine(show Calls Tryz.prog 18 _ _ (fun e w'=>e=.returned (.bool true)∧Below wr.heap.size wr w') from by have h:=fZ wr r.src HR.out.src (s:Int);rw[au.jd r.src Ho,qj.out] at h;exact h).mono ?_;rintro e w1 ⟨rfl,hb1⟩;have eE:=asv hb1;clear hb1 qj k1 k2 k3 k4;have HW1:=asv (Whole.under eE.out HI.out.2.2 HI.out.2.2.lt);have k5:w1.cell? ⟨w.heap.size,5,none⟩=some (.int .u64 r.tgt.a):=HW1.out.cell 5;have k6:w1.cell? ⟨w.heap.size,6,none⟩=some (.int .u64 r.tgt.b):=HW1.out.cell 6;have k7:w1.cell? ⟨w.heap.size,7,none⟩=some (.int .u64 r.tgt.c):=HW1.out.cell 7;have k8:w1.cell? ⟨w.heap.size,8,none⟩=some (.int .u64 r.tgt.d):=HW1.out.cell 8))|(have hZ:=LR;clear hZ;go_at_call 18;go_must (refine(show Calls Tryz.prog 18 _ _ (fun e w'=>e=.returned (.bool true)∧Below w1.heap.size w1 w') from by have h:=fZ w1 r.tgt HR.out.tgt (q:Int);rw[au.jd r.tgt M_,LR.out] at h;exact h).mono ?_;rintro e w2 ⟨rfl,hb1⟩;have nA:=asv hb1;clear hb1 LR k5 k6 k7 k8;have HZ9:=nA))|(at_builtin;go_must (refine wpList_append_own _ rfl _ _ 109 rfl w.heap.size 111 i0 z 2 16 Tryz.underlying109 hi hz0 hz1 hz2 hzs (by decide) _ _ _ rfl (mU (dS nA.out (dS eE.out HI.out.1 (Nat.le_refl _)) (Nat.le_refl _)) _) ⟨w2.heap.size,0,none⟩ 1 1 [.int .i64 (s:Int),.int .i64 (q:Int)] rfl rfl (GR _ _ _ _) ?c2 ?c3 ?c4 ?c5 ?_)))
       case c2=>simp[Value.oneCell']
       case c3=>unfold maxLen;omega
       case c4=>omega
       case c5=>have:=HI.out.2.1.size;have:=eE.out.size;have:=nA.out.size;simp;omega
       intro v' w9 hown' hgrow hnil;have HN9:=asv (((HI.out.keep eE.out).keep nA.out).more (s:=s) (y:=q) hown' hgrow);clear hgrow hnil hown'
       go_wp2
       go_roundw
       case rel=>exact⟨q+1,by omega,by go_num,.inr Yb.out,by rw[lT HTT.out,List.map_append,← List.append_assoc,← HPQ.out];exact HN9.out⟩
       case measure=>simp[intOf];omega
      ·have Hl:=Bool.eq_false_iff.2 hth;clear hth;by_cases hsf:r.self=true
       ·by_cases heq:q=s
        ·have HTT:=asv (show(r.tgts s).has q=true by rw[sO r (by omega) (by omega)];simp[hsf,heq]);have LR:=asv Hl;have HSF:=asv hsf;clear Hl hsf;have heq2:(s:Int)=(q:Int):=by omega
         have HEQ:=asv heq;clear heq;have hdd:((s:Int) == (q:Int))=true:=by simp[heq2]
         clear heq2
         go_wp2_with (first|(have hZ:=qj;clear hZ;go_at_call 18;go_must (refine(show Calls Tryz.prog 18 _ _ (fun e w'=>e=.returned (.bool true)∧Below wr.heap.size wr w') from by have h:=fZ wr r.src HR.out.src (s:Int);rw[au.jd r.src Ho,qj.out] at h;exact h).mono ?_;rintro e w1 ⟨rfl,hb1⟩;have eE:=asv hb1;clear hb1 qj k1 k2 k3 k4;have HW1:=asv (Whole.under eE.out HI.out.2.2 HI.out.2.2.lt);have k5:w1.cell? ⟨w.heap.size,5,none⟩=some (.int .u64 r.tgt.a):=HW1.out.cell 5;have k6:w1.cell? ⟨w.heap.size,6,none⟩=some (.int .u64 r.tgt.b):=HW1.out.cell 6;have k7:w1.cell? ⟨w.heap.size,7,none⟩=some (.int .u64 r.tgt.c):=HW1.out.cell 7;have k8:w1.cell? ⟨w.heap.size,8,none⟩=some (.int .u64 r.tgt.d):=HW1.out.cell 8))|(have hZ:=LR;clear hZ;go_at_call 18;go_must (refine(show Calls Tryz.prog 18 _ _ (fun e w'=>e=.returned (.bool false)∧Below w1.heap.size w1 w') from by have h:=fZ w1 r.tgt HR.out.tgt (q:Int);rw[au.jd r.tgt M_,LR.out] at h;exact h).mono ?_;rintro e w2 ⟨rfl,hb1⟩;have nA:=asv hb1;clear hb1 LR k5 k6 k7 k8;have HW2:=asv (Whole.under nA.out HW1.out HW1.out.lt);have k9:w2.cell? ⟨w.heap.size,9,none⟩=some (.bool true):=by have h:=HW2.out.cell 9;simpa[HSF.out] using h))|(at_builtin;go_must (refine wpList_append_own _ rfl _ _ 109 rfl w.heap.size 111 i0 z 2 16 Tryz.underlying109 hi hz0 hz1 hz2 hzs (by decide) _ _ _ rfl (mU (dS nA.out (dS eE.out HI.out.1 (Nat.le_refl _)) (Nat.le_refl _)) _) ⟨w2.heap.size,0,none⟩ 1 1 [.int .i64 (s:Int),.int .i64 (q:Int)] rfl rfl (GR _ _ _ _) ?c2 ?c3 ?c4 ?c5 ?_)))
         case c2=>simp[Value.oneCell']
         case c3=>unfold maxLen;omega
         case c4=>omega
         case c5=>have:=HI.out.2.1.size;have:=eE.out.size;have:=nA.out.size;simp;omega
         intro v' w9 hown' hgrow hnil;have HN9:=asv (((HI.out.keep eE.out).keep nA.out).more (s:=s) (y:=q) hown' hgrow);clear hgrow hnil hown'
         go_wp2
         go_roundw
         case rel=>exact⟨q+1,by omega,by go_num,.inr Yb.out,by rw[lT HTT.out,List.map_append,← List.append_assoc,← HPQ.out];exact HN9.out⟩
         case measure=>simp[intOf];omega
        ·have HTT:=asv (show(r.tgts s).has q=false by rw[sO r (by omega) (by omega)];simp[Hl,heq]);have LR:=asv Hl;have HSF:=asv hsf;clear Hl hsf;have hdd:((s:Int) == (q:Int))=false:=by simp;omega
         clear heq
         go_wp2_with (first|(have hZ:=qj;clear hZ;go_at_call 18;go_must (refine(show Calls Tryz.prog 18 _ _ (fun e w'=>e=.returned (.bool true)∧Below wr.heap.size wr w') from by have h:=fZ wr r.src HR.out.src (s:Int);rw[au.jd r.src Ho,qj.out] at h;exact h).mono ?_;rintro e w1 ⟨rfl,hb1⟩;have eE:=asv hb1;clear hb1 qj k1 k2 k3 k4;have HW1:=asv (Whole.under eE.out HI.out.2.2 HI.out.2.2.lt);have k5:w1.cell? ⟨w.heap.size,5,none⟩=some (.int .u64 r.tgt.a):=HW1.out.cell 5;have k6:w1.cell? ⟨w.heap.size,6,none⟩=some (.int .u64 r.tgt.b):=HW1.out.cell 6;have k7:w1.cell? ⟨w.heap.size,7,none⟩=some (.int .u64 r.tgt.c):=HW1.out.cell 7;have k8:w1.cell? ⟨w.heap.size,8,none⟩=some (.int .u64 r.tgt.d):=HW1.out.cell 8))|(have hZ:=LR;clear hZ;go_at_call 18;go_must (refine(show Calls Tryz.prog 18 _ _ (fun e w'=>e=.returned (.bool false)∧Below w1.heap.size w1 w') from by have h:=fZ w1 r.tgt HR.out.tgt (q:Int);rw[au.jd r.tgt M_,LR.out] at h;exact h).mono ?_;rintro e w2 ⟨rfl,hb1⟩;have nA:=asv hb1;clear hb1 LR k5 k6 k7 k8;have HW2:=asv (Whole.under nA.out HW1.out HW1.out.lt);have k9:w2.cell? ⟨w.heap.size,9,none⟩=some (.bool true):=by have h:=HW2.out.cell 9;simpa[HSF.out] using h)))
         go_roundw
         case rel=>exact⟨q+1,by omega,by go_num,.inr Yb.out,by rw[nW HTT.out,← HPQ.out];exact(HI.out.keep eE.out).keep nA.out⟩
         case measure=>simp[intOf];omega
       ·have Zj:=Bool.eq_false_iff.2 hsf;clear hsf;have HTT:=asv (show(r.tgts s).has q=false by rw[sO r (by omega) (by omega)];simp[Hl,Zj]);have LR:=asv Hl;have HSF:=asv Zj;clear Hl Zj
        go_wp2_with (first|(have hZ:=qj;clear hZ;go_at_call 18;go_must (refine(show Calls Tryz.prog 18 _ _ (fun e w'=>e=.returned (.bool true)∧Below wr.heap.size wr w') from by have h:=fZ wr r.src HR.out.src (s:Int);rw[au.jd r.src Ho,qj.out] at h;exact h).mono ?_;rintro e w1 ⟨rfl,hb1⟩;have eE:=asv hb1;clear hb1 qj k1 k2 k3 k4;have HW1:=asv (Whole.under eE.out HI.out.2.2 HI.out.2.2.lt);have k5:w1.cell? ⟨w.heap.size,5,none⟩=some (.int .u64 r.tgt.a):=HW1.out.cell 5;have k6:w1.cell? ⟨w.heap.size,6,none⟩=some (.int .u64 r.tgt.b):=HW1.out.cell 6;have k7:w1.cell? ⟨w.heap.size,7,none⟩=some (.int .u64 r.tgt.c):=HW1.out.cell 7;have k8:w1.cell? ⟨w.heap.size,8,none⟩=some (.int .u64 r.tgt.d):=HW1.out.cell 8))|(have hZ:=LR;clear hZ;go_at_call 18;go_must (refine(show Calls Tryz.prog 18 _ _ (fun e w'=>e=.returned (.bool false)∧Below w1.heap.size w1 w') from by have h:=fZ w1 r.tgt HR.out.tgt (q:Int);rw[au.jd r.tgt M_,LR.out] at h;exact h).mono ?_;rintro e w2 ⟨rfl,hb1⟩;have nA:=asv hb1;clear hb1 LR k5 k6 k7 k8;have HW2:=asv (Whole.under nA.out HW1.out HW1.out.lt);have k9:w2.cell? ⟨w.heap.size,9,none⟩=some (.bool false):=by have h:=HW2.out.cell 9;simpa[HSF.out] using h)))
        go_roundw
        case rel=>exact⟨q+1,by omega,by go_num,.inr Yb.out,by rw[nW HTT.out,← HPQ.out];exact(HI.out.keep eE.out).keep nA.out⟩
        case measure=>simp[intOf];omega
     ·obtain rfl:q=256:=by omega
      have HOO:=asv (show yu w r (r.dO (cZ r.src (s+1))) _ wr by
       rw[lT Yb.out,tG,← HPE.out];exact HI.out)
      go_wp2_with fail
      go_roundw
      case rel=>exact⟨s+1,by omega,by go_num,HOO.out⟩
      case measure=>simp[intOf];omega
   ·have ac9:=Bool.eq_false_iff.2 hsr;have qj:=asv ac9;have Yb:=qj;clear hsr ac9
    go_wp2_with fail
    go_loopw [3,5] (fun u i wq=>i=.int .i64 0∧yu w r P u wq) (fun _ i _=>1)
    case atStart=>exact⟨rfl,HO.out⟩
    case round=>
     clear HO;obtain⟨rfl,hI⟩:=hrel;have HI:=asv hI;clear hI;have k1:wr.cell? ⟨w.heap.size,1,none⟩=some (.int .u64 r.src.a):=HI.out.2.2.cell 1;have k2:wr.cell? ⟨w.heap.size,2,none⟩=some (.int .u64 r.src.b):=HI.out.2.2.cell 2;have k3:wr.cell? ⟨w.heap.size,3,none⟩=some (.int .u64 r.src.c):=HI.out.2.2.cell 3;have k4:wr.cell? ⟨w.heap.size,4,none⟩=some (.int .u64 r.src.d):=HI.out.2.2.cell 4
     go_wp2_with (first|(have hZ:=qj;clear hZ;go_at_call 18;go_must (refine(show Calls Tryz.prog 18 _ _ (fun e w'=>e=.returned (.bool false)∧Below wr.heap.size wr w') from by have h:=fZ wr r.src HR.out.src (s:Int);rw[au.jd r.src Ho,qj.out] at h;exact h).mono ?_;rintro e w1 ⟨rfl,hb1⟩;have eE:=asv hb1;clear hb1 qj k1 k2 k3 k4)))
     have HOO:=asv (show yu w r (r.dO (cZ r.src (s+1))) _ w1 by
      rw[nW Yb.out,← HPE.out];exact HI.out.keep eE.out)
     go_roundw
     case rel=>exact⟨s+1,by omega,by go_num,HOO.out⟩
     case measure=>simp[intOf];omega
  ·obtain rfl:s=256:=by omega
   go_wp2_with fail
   go_ret
   exact⟨_,rfl,HO.out.1,HO.out.2.1⟩
end Go.Proofs.YtdcofoaihmongaaGreat
namespace Go.Proofs.YtdcofoaihmongaaGreat
open Go Go.RowKit Go.WideMaps
structure g_ where
 src:Int
 tgt:Int
 cls:Int
 cond:Int
 allow:Int
 ox:Int
 dont:Int
deriving DecidableEq
def g_.cells(x:g_):List Value:=[.int .i64 x.src,.int .i64 x.tgt,.int .i64 x.cls,.int .i64 x.cond,.int .u32 x.allow,.int .u32 x.ox,.int .u32 x.dont]
theorem Zd:gU (Tryz.prog.info? 52) 1 8=true:=by kernel_rfl
theorem aef:Tryz.prog.cellsOf 52=1:=by kernel_rfl
theorem eqw(d:Nat)(a b:Int)(w:World):(Op.equalIn (d+1) 52 (.int .u64 a) (.int .u64 b)).run Tryz.prog w=.ok (decide (a=b)) w:=by
 by_cases h:a=b<;>simp[Op.equalIn,run_underlying Tryz.underlying52,h]
theorem ad4(a b:Int)(w:World):(Op.equalIn 9999 52 (.int .u64 a) (.int .u64 b)).run Tryz.prog w=.ok (decide (a=b)) w:=eqw 9998 a b w
theorem Z7(x0 x1 x2 x3 y0 y1 y2 y3:Int)(w:World):(Op.equalIn 10000 54 (.agg #[.int .u64 x0,.int .u64 x1,.int .u64 x2,.int .u64 x3]) (.agg #[.int .u64 y0,.int .u64 y1,.int .u64 y2,.int .u64 y3])).run Tryz.prog w=.ok (decide (x0=y0∧x1=y1∧x2=y2∧x3=y3)) w:=by
 obtain⟨i0,z,hi,_⟩:=mG Zd;rw[show(10000:Nat)=9999+1 from rfl,run_equalIn_array w 9999 _ _ Tryz.underlying54 hi,aef];have p0:∀ x0 x1 x2 x3:Int,(part 52 #[.int .u64 x0,.int .u64 x1,.int .u64 x2,.int .u64 x3] (0*1)).run Tryz.prog w=.ok (.int .u64 x0) w:=fun x0 x1 x2 x3=>by kernel_rfl
 have p1:∀ x0 x1 x2 x3:Int,(part 52 #[.int .u64 x0,.int .u64 x1,.int .u64 x2,.int .u64 x3] (1*1)).run Tryz.prog w=.ok (.int .u64 x1) w:=fun x0 x1 x2 x3=>by kernel_rfl
 have p2:∀ x0 x1 x2 x3:Int,(part 52 #[.int .u64 x0,.int .u64 x1,.int .u64 x2,.int .u64 x3] (2*1)).run Tryz.prog w=.ok (.int .u64 x2) w:=fun x0 x1 x2 x3=>by kernel_rfl
 have p3:∀ x0 x1 x2 x3:Int,(part 52 #[.int .u64 x0,.int .u64 x1,.int .u64 x2,.int .u64 x3] (3*1)).run Tryz.prog w=.ok (.int .u64 x3) w:=fun x0 x1 x2 x3=>by kernel_rfl
 rw[show List.range 4=[0,1,2,3] from rfl];simp only[Op.eqItems,asA,p0,Result.andThen_ok,ad4];by_cases h0:x0=y0<;>by_cases h1:x1=y1<;>by_cases h2:x2=y2<;>by_cases h3:x3=y3<;>simp[h0,h1,h2,h3,asA,p1,p2,p3,ad4]
theorem dD{xs ys:Array Value}{W:World}{d:Nat}:∀ (fs:List Field) (rs:List Bool),fs.length=rs.length→(fs.all fun f=>f.name != "_")=true→(∀ (i:Nat) (f:Field) (r:Bool),fs[i]?=some f→rs[i]?=some r→∃ x y,(part f.type xs f.offset).run Tryz.prog W=.ok x W∧(part f.type ys f.offset).run Tryz.prog W=.ok y W∧(Op.equalIn d f.type x y).run Tryz.prog W=.ok r W)→(Op.eqFields d xs ys fs).run Tryz.prog W=.ok (rs.all id) W
 | [],[],_,_,_=>rfl
 | f::fs,r::rs,hl,hn,h=>by
  obtain⟨x,y,h1,h2,h3⟩:=h 0 f r rfl rfl;have ih:=dD fs rs (by simpa using hl) (by simp at hn;simpa using hn.2) fun i g s hg hs=>h (i+1) g s (by simpa using hg) (by simpa using hs)
  unfold Op.eqFields;have hne:f.name≠ "_":=by simp at hn;exact hn.1
  rw[if_pos hne];simp only[asA,h1,h2,h3,Result.andThen_ok]
  cases r with
  | false=>simp
  | true=>simpa using ih
 | [],_::_,h,_,_=>by simp at h
 | _::_,[],h,_,_=>by simp at h
end Go.Proofs.YtdcofoaihmongaaGreat
namespace Go.Proofs.YtdcofoaihmongaaGreat
open Go Go.RowKit
def IC(a b:Int):Int:=if a<b then -1 else if b<a then 1 else 0
theorem PY{a b:Int}:IC a b=0↔a=b:=by
 unfold IC;split
 ·constructor<;>intro h<;>omega
 ·split
  ·constructor<;>intro h<;>omega
  ·constructor<;>intro h<;>omega
theorem uh{a b:Int}:IC a b<0↔a<b:=by
 unfold IC;split
 ·constructor<;>intro h<;>omega
 ·split
  ·constructor<;>intro h<;>omega
  ·constructor<;>intro h<;>omega
def orI:List Int→Int
 | []=>0
 | x::l=>if x=0 then orI l else x
def jT(x:Int):Value:=.int .i64 x
def jV(w w':World):Prop:=∃ q os,w'=Sort.grow (w.drewN q) os
theorem jV.refl(w:World):jV w w:=⟨0,#[],by rw[Sort.grow_empty];rfl⟩
theorem jV.drewN{w w':World}(h:jV w w')(n:Nat):jV w (w'.drewN n):=by
 obtain⟨q,os,rfl⟩:=h;exact⟨q+n,os,by simp[Sort.grow,World.drewN,Nat.add_assoc]⟩
theorem jV.drew{w w':World}(h:jV w w'):jV w w'.drew:=h.drewN 1
theorem jV.alloc{w w':World}(h:jV w w')(o:Obj):jV w (w'.alloc o):=by
 obtain⟨q,os,rfl⟩:=h;exact⟨q,os++#[o],by rw[Sort.alloc_eq_grow,Sort.grow_grow]⟩
theorem jV.trans{a b c:World}(h:jV a b)(k:jV b c):jV a c:=by
 obtain⟨q,os,rfl⟩:=k;obtain⟨q',os',h'⟩:=h.drewN q;exact⟨q',os'++os,by rw[h',Sort.grow_grow]⟩
theorem jV.below{w w':World}(h:jV w w'):Below w.heap.size w w':=by
 obtain⟨q,os,rfl⟩:=h;refine⟨rfl,rfl,rfl,by simp[Sort.grow,World.drewN],fun k hk=>?_⟩;show(w.heap++os)[k]?=w.heap[k]?;exact Array.getElem?_append_left hk
def yZ(x y:g_):Int:=orI [IC x.src y.src,IC x.tgt y.tgt,IC x.cls y.cls,IC x.cond y.cond]
def au.least(s:au):Int:=match (elems s).head? with
 | some n=>(n:Int)
 | none=>-1
def YQ(l:List Int):au:=l.foldl au.with au.zero
theorem yA:au.zero.Ok:=by constructor<;>(show(0:Nat)<18446744073709551616;decide)
theorem Ic:∀ (l:List Int) {s:au},s.Ok→(l.foldl au.with s).Ok
 | [],_,h=>h
 | x::l,_,h=>Ic l (au.Dp h x)
theorem RQ(w:World)(v:Value)(l:List Int)(h:SliceAt w v 1 l.length (l.map jT)):Calls Tryz.prog 66 #[v] w fun e w'=>e=.returned (.agg #[.int .u64 (YQ l).a,.int .u64 (YQ l).b,.int .u64 (YQ l).c,.int .u64 (YQ l).d])∧Below w.heap.size w w':=by
 obtain⟨a,c,rfl,hac,yT,HA⟩:=h.form (by decide);have H1:=asv HA;clear HA h;obtain⟨N,hN⟩:∃ N,N=l.length:=⟨_,rfl⟩;rw[← hN] at H1 hac yT ⊢;have HN:=asv hN;clear hN;have B6:=asv (show Whole ((w.alloc (.cells #[.int .u64 0,.int .u64 0,.int .u64 0,.int .u64 0] 54)).alloc (.cells #[.int .u64 0,.int .u64 0,.int .u64 0,.int .u64 0] 54)) w.heap.size 54 #[.int .u64 0,.int .u64 0,.int .u64 0,.int .u64 0] from(Whole.new w 54 #[.int .u64 0,.int .u64 0,.int .u64 0,.int .u64 0]).alloc _);have Bp:=asv (show Whole ((w.alloc (.cells #[.int .u64 0,.int .u64 0,.int .u64 0,.int .u64 0] 54)).alloc (.cells #[.int .u64 0,.int .u64 0,.int .u64 0,.int .u64 0] 54)) (w.heap.size+1) 54 #[.int .u64 0,.int .u64 0,.int .u64 0,.int .u64 0] from dg w _ #[.int .u64 0,.int .u64 0,.int .u64 0,.int .u64 0] _)
 go_enter Tryz.func66,Tryz.ntmps66
 go_wp2_with (refine aZ rfl 54 _ _ rfl (w.heap.size+1) 0 (.agg #[.int .u64 0,.int .u64 0,.int .u64 0,.int .u64 0]) rfl rfl 54 _ Bp.out (by simp[Value.cells]) cF rfl ?_;intro w2 S2 W2;rw[cE _ _ (by rfl)] at W2;have yw:=asv S2;have HW2:=asv (show Whole w2 (w.heap.size+1) 54 #[.int .u64 0,.int .u64 0,.int .u64 0,.int .u64 0] from W2);clear S2 W2 Bp)
 have HR2:=asv (yw.out.whole B6.out (by omega));have nA:=asv (show Below w.heap.size w w2 from(((Below.refl _ w).alloc (Nat.le_refl _) _).alloc (by simp) _).trans (yw.out.below (by omega)));clear B6 yw
 go_loopw [4] (fun i wr=>∃ (n:Nat) (s:au),n≤N∧i=.int .i64 n∧s=(l.take n).foldl au.with au.zero∧Whole wr w.heap.size 54 #[.int .u64 0,.int .u64 0,.int .u64 0,.int .u64 0]∧Whole wr (w.heap.size+1) 54 #[.int .u64 s.a,.int .u64 s.b,.int .u64 s.c,.int .u64 s.d]∧Below w.heap.size w wr) (fun i _=>N-(intOf i).toNat)
 case atStart=>exact⟨0,au.zero,Nat.zero_le _,rfl,rfl,HR2.out,HW2.out,nA.out⟩
 case round=>
  clear HR2 HW2 nA;obtain⟨n,s,hn,rfl,Uv,hR,hS,hb⟩:=hrel;have UK:=asv Uv;have FN:=asv hR;have eE:=asv hS;have Ji:=asv hb;have HS:=asv (show s.Ok by rw[Uv];exact Ic _ yA);clear Uv hR hS hb;by_cases hlt:n<N
  ·obtain⟨b,off,rfl,hc⟩:=H1.out n hlt;obtain⟨y,hy⟩:∃ y,l[n]?=some y:=⟨_,List.getElem?_eq_getElem (by have:=HN.out;omega)⟩
   have c0:wr.cell? ⟨b,off+n,none⟩=some (.int .i64 y):=by
    have h:=asw Ji.out (hc 0 (.int .i64 y) (by simp[hy,jT]))
    rwa [Nat.mul_one] at h
   have HY:=asv hy;obtain⟨t,ht⟩:∃ t,s.with y=t:=⟨_,rfl⟩;have HT:=asv ht;clear hy hc ht
   go_wp2_with fail
   refine eU (fun w w'=>Below w.heap.size w w') [some 12,some 13,some 14,some 15,some 16,some 17] [bL (.agg #[.int .u64 s.a,.int .u64 s.b,.int .u64 s.c,.int .u64 s.d]),bL (.slice (some ⟨b,off,none⟩) N c),bL (.int .i64 n),bL (.pointer (some ⟨b,off+n,none⟩)),bL (.int .i64 y),bL (.agg #[.int .u64 t.a,.int .u64 t.b,.int .u64 t.c,.int .u64 t.d])] (fun _ w'=>Below wr.heap.size wr w') 6 (by kernel_rfl) (by kernel_rfl) (by kernel_rfl) rfl (by decide) rfl rfl ((Below.refl _ _).drew) ⟨aj _,aj _,aj _,aj _,aj _,aj _,trivial⟩ ⟨(fun _=>aE _),(fun _=>aE _),(fun _=>aE _),(fun _=>aE _),(fun _=>aE _),(fun _=>aE _),trivial⟩ ⟨?_,?_,?_,?_,?_,?_,?_⟩
   ·intro L a wx Q' hL hi H F hK
    try dsimp only at hi
    have h3:a.tmps[3]?=some (.pointer (some ⟨w.heap.size+1,0,none⟩)):=F 3 rfl;have HI:=asv hi;clear H F hi hL;have kq0:wx.cell? ⟨w.heap.size+1,0,none⟩=some (.int .u64 s.a):=(Whole.under HI.out eE.out (Whole.lt eE.out)).cell 0;have kq1:wx.cell? ⟨w.heap.size+1,1,none⟩=some (.int .u64 s.b):=(Whole.under HI.out eE.out (Whole.lt eE.out)).cell 1;have kq2:wx.cell? ⟨w.heap.size+1,2,none⟩=some (.int .u64 s.c):=(Whole.under HI.out eE.out (Whole.lt eE.out)).cell 2;have kq3:wx.cell? ⟨w.heap.size+1,3,none⟩=some (.int .u64 s.d):=(Whole.under HI.out eE.out (Whole.lt eE.out)).cell 3
    go_wp2_with fail
    exact hK _ _ (Below.refl _ _) HI.out rfl
   ·intro L a wx Q' hL hi H F hK
    try dsimp only at hi
    have h0:a.tmps[0]?=some (.slice (some ⟨b,off,none⟩) N c):=F 0 rfl;have HI:=asv hi;clear H F hi hL
    go_wp2_with fail
    exact hK _ _ (Below.refl _ _) HI.out rfl
   ·intro L a wx Q' hL hi H F hK
    try dsimp only at hi
    have h4:a.tmps[4]?=some (.int .i64 n):=F 4 rfl;have HI:=asv hi;clear H F hi hL
    go_wp2_with fail
    exact hK _ _ (Below.refl _ _) HI.out rfl
   ·intro L a wx Q' hL hi H F hK
    try dsimp only at hi
    obtain⟨_,H_,rfl⟩:=H 1 ⟨.data,by simp,rfl⟩ _ rfl;replace H_:=H_ _ rfl;obtain⟨_,Jd,rfl⟩:=H 2 ⟨.data,by simp,rfl⟩ _ rfl;replace Jd:=Jd _ rfl;have HI:=asv hi;clear H F hi hL
    go_wp2_with fail
    exact hK _ _ (Below.refl _ _) HI.out rfl
   ·intro L a wx Q' hL hi H F hK
    try dsimp only at hi
    obtain⟨_,CS,rfl⟩:=H 3 ⟨.data,by simp,rfl⟩ _ rfl;replace CS:=CS _ rfl;have HI:=asv hi;clear H F hi hL;have kk:wx.cell? ⟨b,off+n,none⟩=some (.int .i64 y):=asw HI.out c0
    go_wp2_with fail
    exact hK _ _ (Below.refl _ _) HI.out rfl
   ·intro L a wx Q' hL hi H F hK
    try dsimp only at hi
    obtain⟨_,h12,rfl⟩:=H 0 ⟨.data,by simp,rfl⟩ _ rfl;replace h12:=h12 _ rfl;obtain⟨_,CR,rfl⟩:=H 4 ⟨.data,by simp,rfl⟩ _ rfl;replace CR:=CR _ rfl;have HI:=asv hi;clear H F hi hL
    go_wp2_with (go_at_call 130;go_must (refine(Cr wx s HS.out y).mono ?_;rintro e w1 ⟨rfl,hb1⟩;rw[HT.out]))
    exact hK _ _ hb1 (HI.out.trans (hb1.mono HI.out.size)) rfl
   ·intro a wx hl L hi hL Q' hK
    try dsimp only at hi
    have HB:=asv hi;clear hi hL;obtain⟨_,rfl,_,rfl,_,rfl,_,rfl,_,rfl,_,rfl,rfl⟩:=hl;simp only[List.setIfInBounds_toArray,List.set_cons_zero,List.set_cons_succ];have HX:=asv (Whole.under HB.out eE.out eE.out.lt);have HR:=asv (Whole.under HB.out FN.out FN.out.lt);have FM:=asv (Ji.out.trans (HB.out.mono Ji.out.size));clear HB FN eE Ji c0
    go_wp2_with (refine aZ rfl 54 _ _ rfl (w.heap.size+1) 0 (.agg #[.int .u64 t.a,.int .u64 t.b,.int .u64 t.c,.int .u64 t.d]) rfl rfl 54 _ HX.out (by simp[Value.cells]) cF rfl ?_;intro w2 S2 W2;rw[cE _ _ (by rfl)] at W2;have yw:=asv S2;have HW2:=asv (show Whole w2 (w.heap.size+1) 54 #[.int .u64 t.a,.int .u64 t.b,.int .u64 t.c,.int .u64 t.d] from W2);clear S2 W2 HX)
    go_roundw
    case rel=>exact⟨n+1,t,by omega,by go_num,by rw[bD HY.out,List.foldl_append,← UK.out];exact HT.out.symm,yw.out.whole HR.out (by omega),HW2.out,FM.out.trans (yw.out.below (by omega))⟩
    case measure=>simp[intOf];omega
  ·obtain rfl:n=N:=by omega
   go_wp2_with (first|(refine wpList_load_row rfl 54 _ rfl (w.heap.size+1) rfl 54 _ (0,0) _ eE.out Tryz.underlying54 rfl cF ?_)|(refine aZ rfl 54 _ _ rfl (w.heap.size) 0 (.agg #[.int .u64 s.a,.int .u64 s.b,.int .u64 s.c,.int .u64 s.d]) rfl rfl 54 _ FN.out (by simp[Value.cells]) cF rfl ?_;intro w3 S3 W3;rw[cE _ _ (by rfl)] at W3;have HS3:=asv S3;have HW3:=asv (show Whole w3 w.heap.size 54 #[.int .u64 s.a,.int .u64 s.b,.int .u64 s.c,.int .u64 s.d] from W3);clear S3 W3))
   have e0:w3.cell? ⟨w.heap.size,0,none⟩=some (.int .u64 s.a):=HW3.out.cell 0;have e1:w3.cell? ⟨w.heap.size,1,none⟩=some (.int .u64 s.b):=HW3.out.cell 1;have e2:w3.cell? ⟨w.heap.size,2,none⟩=some (.int .u64 s.c):=HW3.out.cell 2;have e3:w3.cell? ⟨w.heap.size,3,none⟩=some (.int .u64 s.d):=HW3.out.cell 3
   have hs:s=YQ l:=by
    have h:=UK.out;rw[List.take_of_length_le (by rw[HN.out];exact Nat.le_refl _)] at h;exact h
   refine bodyPost_ret (v:=.agg #[.int .u64 s.a,.int .u64 s.b,.int .u64 s.c,.int .u64 s.d]) ?_ rfl ⟨by rw[hs],Ji.out.trans (HS3.out.below (Nat.le_refl _))⟩;simp[results,Tryz.results66,go_sem,e0,e1,e2,e3]
structure fu where
 allow:Int
 ox:Int
 dont:Int
deriving DecidableEq
def fu.or(u v:fu):fu:=⟨bits .or .u32 u.allow v.allow,bits .or .u32 u.ox v.ox,bits .or .u32 u.dont v.dont⟩
end Go.Proofs.YtdcofoaihmongaaGreat
namespace Go.Proofs.YtdcofoaihmongaaGreat
open Go Go.RowKit Go.WideMaps
theorem Sg:laidOutB Tryz.prog=true:=by kernel_rfl
theorem acS:KeyLaw Tryz.prog 113:=deep_law_laid Sg (m:=5) (by decide) (of_decide_eq_true (by kernel_rfl)) (by kernel_rfl) (by kernel_rfl)
theorem yQ:Maps.Keyed Tryz.prog 113:=Maps.Keyed.of_law acS
end Go.Proofs.YtdcofoaihmongaaGreat
namespace Go.Proofs.YtdcofoaihmongaaGreat
open Go Go.WideMaps Go.RowKit
theorem sizeT:∃ m,Tryz.prog.types.size=m+1:=⟨Tryz.prog.types.size-1,by have:0<Tryz.prog.types.size:=of_decide_eq_true (by kernel_rfl);omega⟩
theorem aga(m:Nat){a:Int}(wa:(Lit.int .i64 a).wf=true):Tryz.prog.keyLits (m+1) 3 [.int .i64 a]=some [.int .i64 a]:=by
 unfold Program.keyLits;simp[Tryz.underlying3,wa]
theorem acZ{a b c d:Int}(wa:(Lit.int .i64 a).wf=true)(wb:(Lit.int .i64 b).wf=true)(wc:(Lit.int .i64 c).wf=true)(wd:(Lit.int .i64 d).wf=true):
 ∃ l,keyOf Tryz.prog 113 (.agg #[.int .i64 a,.int .i64 b,.int .i64 c,.int .i64 d])=some l:=by
 obtain⟨m,hm⟩:=sizeT;have hu:Tryz.prog.underlying 113=some (.struct (Tryz.prog.fieldsOf 113)):=by kernel_rfl
 have hk:Tryz.prog.keyType 113=true:=by kernel_rfl
 have hc:Tryz.prog.cellsOf 113=4:=by kernel_rfl
 have hc3:Tryz.prog.cellsOf 3=1:=by kernel_rfl
 have hf:(Tryz.prog.fieldsOf 113).toList.map (fun f=>(f.type,f.offset))=[(3,0),(3,1),(3,2),(3,3)]:=by kernel_rfl
 have hn:(Tryz.prog.fieldsOf 113).all (fun f=>f.name != "_")=true:=by kernel_rfl
 have hform:(Value.agg #[.int .i64 a,.int .i64 b,.int .i64 c,.int .i64 d]).formed Tryz.prog 113=true:=by kernel_rfl
 unfold keyOf;simp only[hu];rw[if_pos (by rw[hk,hform];rfl),hm];unfold Program.keyLits;simp only[hu,Value.cells];rw[if_pos ⟨by rw[hc];rfl,hn⟩];generalize (Tryz.prog.fieldsOf 113).toList=fs at hf
 obtain⟨f0,f1,f2,f3,rfl⟩:∃ f0 f1 f2 f3,fs=[f0,f1,f2,f3]:=by
  rcases fs with _|⟨f0,_|⟨f1,_|⟨f2,_|⟨f3,_|⟨f4,r⟩⟩⟩⟩⟩
  ·simp at hf
  ·simp at hf
  ·simp at hf
  ·simp at hf
  ·exact⟨_,_,_,_,rfl⟩
  ·simp at hf
 simp only[List.map_cons,List.map_nil,List.cons.injEq,Prod.mk.injEq,and_true] at hf;obtain⟨⟨t0,o0⟩,⟨t1,o1⟩,⟨t2,o2⟩,⟨t3,o3⟩⟩:=hf;obtain⟨m',rfl⟩:∃ m',m=m'+1:=⟨m-1,by have h:1<Tryz.prog.types.size:=of_decide_eq_true (by kernel_rfl);omega⟩;simp[List.mapM_cons,t0,o0,t1,o1,t2,o2,t3,o3,hc3,aga,wa,wb,wc,wd]
end Go.Proofs.YtdcofoaihmongaaGreat
namespace Go.Proofs.YtdcofoaihmongaaGreat
open Go Go.Sort
instance:Inhabited g_:=⟨⟨0,0,0,0,0,0,0⟩⟩
theorem vM(x y:g_):ltOf yZ x y=decide (x.src<y.src∨x.src=y.src∧(x.tgt<y.tgt∨x.tgt=y.tgt∧(x.cls<y.cls∨x.cls=y.cls∧x.cond<y.cond))):=by
 unfold ltOf yZ;simp only[orI,PY];by_cases h0:x.src=y.src
 ·by_cases h1:x.tgt=y.tgt
  ·by_cases h2:x.cls=y.cls
   ·by_cases h3:x.cond=y.cond
    ·simp[h0,h1,h2,h3]
    ·simp[h0,h1,h2,h3,uh]
   ·simp[h0,h1,h2,uh]
  ·simp[h0,h1,uh]
 ·simp[h0,uh]
theorem zC:SWO (ltOf yZ) where
 irrefl x:=by rw[vM];simp
 trans x y z h1 h2:=by rw[vM] at *;simp at *;omega
 ntrans x y z h1 h2:=by rw[vM] at *;simp at *;omega
theorem zF{α:Type}(lt:α→α→Prop)(hi:∀ x,¬ lt x x)(ht:∀ x y z,lt x y→lt y z→lt x z):∀ {a b:List α},a.Pairwise lt→b.Pairwise lt→(∀ x,x∈a↔x∈b)→a=b
 | [],[],_,_,_=>rfl
 | [],y::b,_,_,h=>by have:=(h y).2 (by simp);cases this
 | x::a,[],_,_,h=>by have:=(h x).1 (by simp);cases this
 | x::a,y::b,ha,hb,h=>by
  have ha':=List.pairwise_cons.1 ha;have hb':=List.pairwise_cons.1 hb
  have hxy:x=y:=by
   rcases aso.1 ((h x).1 (by simp)) with e|e
   ·exact e
   ·rcases aso.1 ((h y).2 (by simp)) with e'|e'
    ·exact e'.symm
    ·exact absurd (ht _ _ _ (ha'.1 _ e') (hb'.1 _ e)) (hi _)
  subst hxy;congr 1;refine zF lt hi ht ha'.2 hb'.2 fun z=>⟨fun hz=>?_,fun hz=>?_⟩
  ·rcases aso.1 ((h z).1 (asB _ hz)) with e|e
   ·subst e;exact absurd (ha'.1 _ hz) (hi _)
   ·exact e
  ·rcases aso.1 ((h z).2 (asB _ hz)) with e|e
   ·subst e;exact absurd (hb'.1 _ hz) (hi _)
   ·exact e
structure lH where
 src:Int
 tgt:Int
 cls:Int
 cond:Int
deriving DecidableEq
def g_.key(e:g_):lH:=⟨e.src,e.tgt,e.cls,e.cond⟩
def g_.abL(e:g_):fu:=⟨e.allow,e.ox,e.dont⟩
def fu.zero:fu:=⟨0,0,0⟩
instance:DecidableEq fu:=fun a b=>decidable_of_iff (a.allow=b.allow∧a.ox=b.ox∧a.dont=b.dont) (by cases a;cases b;simp)
def jq(a:Int):Prop:=-9223372036854775808≤a∧a<9223372036854775808
def UJ(a:Int):Prop:=0≤a∧a<4294967296
structure lH.Ok (k:lH):Prop where
 src:jq k.src
 tgt:jq k.tgt
 cls:jq k.cls
 cond:jq k.cond
structure fu.Ok (v:fu):Prop where
 allow:UJ v.allow
 ox:UJ v.ox
 dont:UJ v.dont
def Us(x y:g_):Prop:=ltOf yZ x y=true
theorem Us.irrefl(x:g_):¬ Us x x:=by unfold Us;rw[zC.irrefl];simp
theorem Us.trans(x y z:g_):Us x y→Us y z→Us x z:=zC.trans x y z
structure Canon (f:lH→fu) (l:List g_):Prop where
 ord:l.Pairwise Us
 mem:∀ e,e∈l↔e.abL=f e.key∧f e.key≠fu.zero
theorem Canon.uniq{f:lH→fu}{a b:List g_}(ha:Canon f a)(hb:Canon f b):a=b:=
 zF Us Us.irrefl Us.trans ha.ord hb.ord fun x=>(ha.mem x).trans (hb.mem x).symm
def Ad(p:lH×fu):Value×Value:=(.agg #[.int .i64 p.1.src,.int .i64 p.1.tgt,.int .i64 p.1.cls,.int .i64 p.1.cond],.agg #[.int .u32 p.2.allow,.int .u32 p.2.ox,.int .u32 p.2.dont])
theorem wrap32(n:Int):IntKind.u32.wrap n=n%4294967296:=by simp[IntKind.wrap,IntKind.signed,IntKind.bits]
theorem Cy(a b:Int):bits .or .u32 a b=((BitVec.ofInt 32 a|||BitVec.ofInt 32 b).toNat:Int):=by
 show IntKind.u32.wrap ((BitVec.ofInt 32 a|||BitVec.ofInt 32 b).toNat:Int)=_;have h:=(BitVec.ofInt 32 a|||BitVec.ofInt 32 b).isLt;rw[wrap32];omega
theorem Kr(a b:Int):UJ (bits .or .u32 a b):=by
 rw[Cy];have h:=(BitVec.ofInt 32 a|||BitVec.ofInt 32 b).isLt;exact⟨by omega,by omega⟩
theorem X9(a b:Int):BitVec.ofInt 32 (bits .or .u32 a b)=BitVec.ofInt 32 a|||BitVec.ofInt 32 b:=by rw[Cy,BitVec.ofInt_natCast,BitVec.ofNat_toNat];simp
theorem vI(a b:Int):bits .or .u32 a b=bits .or .u32 b a:=by rw[Cy,Cy,BitVec.or_comm]
theorem Ks(a b c:Int):bits .or .u32 (bits .or .u32 a b) c=bits .or .u32 a (bits .or .u32 b c):=by rw[Cy,Cy a (bits .or .u32 b c),X9,X9,BitVec.or_assoc]
theorem fu.RN(u v:fu):(u.or v).Ok:=⟨Kr _ _,Kr _ _,Kr _ _⟩
theorem fu.or_comm(u v:fu):u.or v=v.or u:=by simp only[fu.or,vI u.allow,vI u.ox,vI u.dont]
theorem fu.or_assoc(u v x:fu):(u.or v).or x=u.or (v.or x):=by simp only[fu.or,Ks]
theorem fu.yA:fu.zero.Ok:=by constructor<;>exact⟨by decide,by decide⟩
end Go.Proofs.YtdcofoaihmongaaGreat
namespace Go.Proofs.YtdcofoaihmongaaGreat
open Go Go.RowKit Go.Sort Go.WideMaps
def rN(k:lH):Value:=.agg #[.int .i64 k.src,.int .i64 k.tgt,.int .i64 k.cls,.int .i64 k.cond]
def F6(v:fu):Value:=.agg #[.int .u32 v.allow,.int .u32 v.ox,.int .u32 v.dont]
theorem G8{a b:lH}(h:rN a=rN b):a=b:=by
 cases a;cases b;simpa[rN] using h
theorem Aj{a:Int}(h:jq a):(Lit.int .i64 a).wf=true:=by
 have h1:(-9223372036854775808≤a∧a<9223372036854775808):=h;simp[Lit.wf,IntKind.min,IntKind.max,IntKind.signed,IntKind.bits];omega
theorem Sj{k:lH}(h:k.Ok):∃ l,keyOf Tryz.prog 113 (rN k)=some l:=acZ (Aj h.src) (Aj h.tgt) (Aj h.cls) (Aj h.cond)
theorem Ye(w:World):(zeroValue 107).run Tryz.prog w=.ok (F6 fu.zero) w:=by kernel_rfl
structure sy (w:World) (mb n:Nat) (f:lH→fu):Prop where
 ex:∃ D:List (lH×fu),aX w Tryz.prog 113 mb (D.map Ad)∧(∀ p∈D,p.2=f p.1∧p.1.Ok∧p.2.Ok)∧(∀ k,f k≠fu.zero→k∈D.map Prod.fst)∧D.length≤n
theorem sy.lt{w:World}{mb n:Nat}{f:lH→fu}(h:sy w mb n f):mb<w.heap.size:=by
 obtain⟨D,h1,_⟩:=h.ex;exact h1.lt
theorem sy.kept{w w':World}{mb n:Nat}{f:lH→fu}(h:sy w mb n f)(hb:w'.heap[mb]?=w.heap[mb]?):sy w' mb n f:=by
 obtain⟨D,h1,h2⟩:=h.ex;exact⟨D,h1.kept hb,h2⟩
theorem sy.made(w:World):sy (w.alloc (.map #[] 0)) w.heap.size 0 (fun _=>fu.zero):=
 ⟨[],aX.made w _ _,by simp,by simp,Nat.le_refl _⟩
theorem sy.val{w:World}{mb n:Nat}{f:lH→fu}(h:sy w mb n f)(k:lH):(f k).Ok:=by
 obtain⟨D,h1,h2,h3,h4⟩:=h.ex;by_cases hz:f k=fu.zero
 ·rw[hz];exact fu.yA
 ·obtain⟨p,hp,rfl⟩:=asy.1 (h3 _ hz);have:=h2 p hp;rw[← this.1];exact this.2.2
theorem sy.look{w:World}{mb n:Nat}{f:lH→fu}(h:sy w mb n f){k:lH}(hk:k.Ok):(Instr.lookup 105 (.map (some mb)) (rN k) false).run Tryz.prog w=.ok (F6 (f k)) w:=by
 obtain⟨D,h1,h2,h3,h4⟩:=h.ex;obtain⟨l,hl⟩:=Sj hk;by_cases hm:k∈D.map Prod.fst
 ·obtain⟨p,hp,rfl⟩:=asy.1 hm;have:=h1.qz false yQ Tryz.underlying105 hl (val:=F6 p.2) (asy.2 ⟨p,hp,rfl⟩);rw[← (h2 p hp).1];exact this
 ·have hz:f k=fu.zero:=Classical.byContradiction fun h=>hm (h3 k h)
  rw[hz];refine h1.mX false yQ Tryz.underlying105 (Ye w) hl ?_;intro p hp e;obtain⟨q,hq,rfl⟩:=asy.1 hp;exact hm (asy.2 ⟨q,hq,G8 e⟩)
theorem RJ{D:List (lH×fu)}{p:lH×fu}(h:p∈D):∃ R,D.Perm (p::R):=by
 obtain⟨s,t,rfl⟩:=List.append_of_mem h;exact⟨s++t,List.perm_middle⟩
theorem sy.put{w:World}{mb n:Nat}{f:lH→fu}(h:sy w mb n f){k:lH}(hk:k.Ok){v:fu}(hv:v.Ok):
 ∃ w',(Instr.mapUpdate 105 (.map (some mb)) (rN k) (F6 v)).run Tryz.prog w=.ok () w'∧(sy w' mb (n+1) (fun x=>if x=k then v else f x)∧w.grownBy w' (some mb)∧w'.heap.size=w.heap.size):=by
 obtain⟨D,h1,h2,h3,h4⟩:=h.ex;obtain⟨l,hl⟩:=Sj hk;by_cases hm:k∈D.map Prod.fst
 ·obtain⟨p,hp,rfl⟩:=asy.1 hm;obtain⟨R,hR⟩:=RJ hp
  have hnd:(D.map Prod.fst).Nodup:=by
   have:=h1.keys;rw[List.map_map] at this;have e:(Prod.fst∘Ad)=rN∘Prod.fst:=rfl;rw[e,← List.map_map] at this;exact List.Pairwise.of_map rN (fun a b hab e=>hab (congrArg rN e)) this
  have adq:=((hR.map Prod.fst).nodup_iff.1 hnd);simp only[List.map_cons,List.nodup_cons] at adq;obtain⟨w',hw,hM,hg,hs⟩:=h1.ME (key:=rN p.1) (val:=F6 v) (old:=F6 p.2) (R:=R.map Ad) yQ Tryz.underlying105 hl (by simpa[Ad,rN,F6] using hR.map Ad);refine⟨w',hw,⟨(p.1,v)::R,hM,?_,?_,?_⟩,hg,hs⟩
  ·intro q hq;rcases aso.1 hq with rfl|hq
   ·exact⟨by simp,hk,hv⟩
   ·have hne:q.1≠p.1:=fun e=>adq.1 (e▸asy.2 ⟨q,hq,rfl⟩)
    simp only[if_neg hne];exact h2 q (hR.mem_iff.2 (asB _ hq))
  ·intro x hx;by_cases hxk:x=p.1
   ·subst hxk;simp
   ·simp only[if_neg hxk] at hx;have:=(hR.map Prod.fst).mem_iff.1 (h3 x hx);simpa using this
  ·have:=hR.length_eq;simp at this ⊢;omega
 ·obtain⟨w',hw,hM,hg,hs⟩:=h1.MF (key:=rN k) (val:=F6 v) yQ Tryz.underlying105 hl (by
   intro p hp e;obtain⟨q,hq,rfl⟩:=asy.1 hp;exact hm (asy.2 ⟨q,hq,G8 e⟩))
  refine⟨w',hw,⟨(k,v)::D,hM,?_,?_,by simp;omega⟩,hg,hs⟩
  ·intro q hq;rcases aso.1 hq with rfl|hq
   ·exact⟨by simp,hk,hv⟩
   ·have hne:q.1≠k:=fun e=>hm (e▸asy.2 ⟨q,hq,rfl⟩)
    simp only[if_neg hne];exact h2 q hq
  ·intro x hx;by_cases hxk:x=k
   ·subst hxk;simp
   ·simp only[if_neg hxk] at hx;exact asB _ (h3 x hx)
def g_.Ok(e:g_):Prop:=e.key.Ok∧e.abL.Ok
theorem sy.nodup{D:List (lH×fu)}{w:World}{mb:Nat}(h1:aX w Tryz.prog 113 mb (D.map Ad)):(D.map Prod.fst).Nodup:=by
 have:=h1.keys;rw[List.map_map] at this;have e:(Prod.fst∘Ad)=rN∘Prod.fst:=rfl;rw[e,← List.map_map] at this;exact List.Pairwise.of_map rN (fun a b hab e=>hab (congrArg rN e)) this
end Go.Proofs.YtdcofoaihmongaaGreat
namespace Go.Proofs.YtdcofoaihmongaaGreat
open Go Go.RowKit Go.WideMaps
def ival(p:Int×Value):Value×Value:=(.int .i64 p.1,p.2)
def eu(L:List (Int×Value)):Array Value:=jP (L.map ival)
def jD:List (Int×Value)→Int→Option Value
 | [],_=>none
 | p::r,k=>if p.1=k then some p.2 else jD r k
def gP(L:List (Int×Value))(k:Int):List (Int×Value):=L.filter fun p=>decide (p.1≠k)
theorem DZ(L:List (Int×Value))(k j:Int):jD (gP L k) j=if j=k then none else jD L j:=by
 induction L with
 | nil=>simp[gP,jD]
 | cons p r ih=>
  unfold gP at *;rw[List.filter_cons];by_cases h:p.1=k
  ·rw[if_neg (by simp[h]),ih];by_cases hj:j=k
   ·simp[hj]
   ·rw[if_neg hj,if_neg hj,jD,if_neg (fun e=>hj (by rw[← e,h]))]
  ·rw[if_pos (by simp[h]),jD,jD,ih];by_cases hj:p.1=j
   ·rw[if_pos hj,if_neg (fun e=>h (hj.trans e)),if_pos hj]
   ·rw[if_neg hj,if_neg hj]
theorem yO(L:List (Int×Value))(k j:Int)(v:Value):jD ((k,v)::gP L k) j=if j=k then some v else jD L j:=by
 rw[jD,DZ];by_cases h:j=k
 ·subst h;simp
 ·rw[if_neg (fun e=>h e.symm),if_neg h,if_neg h]
theorem VP{L:List (Int×Value)}{k:Int}{v:Value}(h:jD L k=some v):(k,v)∈L:=by
 induction L with
 | nil=>cases h
 | cons p r ih=>
  rw[jD] at h;split at h
  ·rename_i e;obtain rfl:=asp h;subst e;exact asC ..
  ·exact asB _ (ih h)
theorem z7{L:List (Int×Value)}{k:Int}(h:jD L k=none):∀ p∈L,p.1≠k:=by
 induction L with
 | nil=>simp
 | cons p r ih=>
  rw[jD] at h;split at h
  ·cases h
  ·rename_i hne;intro q hq;rcases aso.1 hq with rfl|hq
   ·exact hne
   ·exact ih h q hq
theorem PU{L:List (Int×Value)}{k:Int}(h:jD L k=none):gP L k=L:=List.filter_eq_self.2 fun p hp=>by simpa using z7 h p hp
theorem wg{L:List (Int×Value)}{k:Int}{v:Value}(hn:(L.map Prod.fst).Nodup)(h:jD L k=some v):L.Perm ((k,v)::gP L k):=by
 induction L with
 | nil=>cases h
 | cons p r ih=>
  simp only[List.map_cons,List.nodup_cons] at hn;rw[jD] at h;unfold gP at *;rw[List.filter_cons];split at h
  ·rename_i e;obtain rfl:=asp h;subst e;rw[if_neg (by simp)]
   have:(r.filter fun q=>decide (q.1≠p.1))=r:=List.filter_eq_self.2 fun q hq=>by
    have:q.1≠p.1:=fun e=>hn.1 (e▸asy.2 ⟨q,hq,rfl⟩)
    simpa using this
   rw[this]
  ·rename_i hne;rw[if_pos (by simpa using hne)];exact((ih hn.2 h).cons p).trans (List.Perm.swap ..)
theorem tL:∀ {D E:List (Value×Value)},jP D=jP E→D=E
 | [],[],_=>rfl
 | [],_::_,h=>by simp[jP] at h
 | _::_,[],h=>by simp[jP] at h
 | (a,b)::D,(c,d)::E,h=>by
  have h':a=c∧b=d∧D.flatMap (fun p=>[p.1,p.2])=E.flatMap (fun p=>[p.1,p.2]):=by simpa[jP] using h
  obtain⟨rfl,rfl,h3⟩:=h';rw[tL (D:=D) (E:=E) (by unfold jP;rw[h3])]
theorem vT:Maps.Keyed Tryz.prog 3:=Maps.int_keyed Tryz.underlying3
theorem VW{n:Int}(h:jq n):∃ l,keyOf Tryz.prog 3 (.int .i64 n)=some l:=by
 unfold keyOf;simp[Tryz.underlying3,mapKey,Aj h]
section
variable {B:Nat} {w0 w w':World} {bs:List Bx} {rs:List Rw} {mb:Nat} {L:List (Int×Value)}
theorem bg.map(M:bg B w0 w bs rs)(i:Nat)(h:bs[i]?=some (mb,9003,eu L)):aX w Tryz.prog 3 mb (L.map ival):=by
 rcases M.box _ (asr h) with⟨h0,_⟩|⟨_,D,h1,h2⟩
 ·have h0:Nat.blt 9003 9000=true:=h0;exact absurd h0 (by decide)
 ·have h2:aX w Tryz.prog ((9003:Nat)-9000) mb D:=h2;rw[show(9003:Nat)-9000=3 by decide] at h2;rw[show L.map ival=D from tL h1];exact h2
theorem lN{w:World}{mb:Nat}{L:List (Int×Value)}(h:aX w Tryz.prog 3 mb (L.map ival)):uI w (mb,9003,eu L):=by
 refine .inr ⟨by show Nat.blt 9003 9000=false;decide,L.map ival,rfl,?_⟩;show aX w Tryz.prog ((9003:Nat)-9000) mb (L.map ival);rw[show(9003:Nat)-9000=3 by decide];exact h
theorem bg.Kz(M:bg B w0 w bs rs)(hb:asD w.heap.size w w'){b:Bx}(h:uI w' b)(hg:w.heap.size≤b.1):bg B w0 w' (b::bs) rs:=by
 have M':=M.keep hb;refine⟨M'.below,M'.le,M'.old,?_,?_,?_,M'.row,?_,M.vC⟩
 ·intro c hc;rcases aso.1 hc with rfl|hc
  ·exact h
  ·exact M'.box c hc
 ·intro c hc;rcases aso.1 hc with rfl|hc
  ·exact asz M.big hg
  ·exact M.lo c hc
 ·rw[List.map_cons,List.nodup_cons];refine⟨fun h=>?_,M.nd⟩;obtain⟨c,hc,e⟩:=asy.1 h;have:=(M.box c hc).lt;omega
 ·intro r hr c hc;rcases aso.1 hc with rfl|hc
  ·intro e;have:=((M.row r hr).lt _ e).2;omega
  ·exact M.far r hr c hc
theorem gG{w:World}{g mb:Nat}{t k:TypeId}{cs:Array Value}{P:Program}{D:List (Value×Value)}(h:Whole w g t cs)(m:aX w P k mb D):g≠mb:=fun e=>by
 subst e;obtain⟨es,clock,hb,_⟩:=m;have h:w.heap[g]?=some (.cells cs t (0,0)):=h;rw[hb] at h;cases h
theorem bg.DX(M:bg B w0 w bs rs)(hb:asD w.heap.size w w'){b1 b2:Bx}(h1:uI w' b1)(g1:w.heap.size≤b1.1)(h2:uI w' b2)(g2:w.heap.size≤b2.1)(hne:b1.1≠b2.1):bg B w0 w' (b1::b2::bs) rs:=by
 have M':=M.Kz hb h2 g2;refine⟨M'.below,M'.le,M'.old,?_,?_,?_,M'.row,?_,M.vC⟩
 ·intro c hc;rcases aso.1 hc with rfl|hc
  ·exact h1
  ·exact M'.box c hc
 ·intro c hc;rcases aso.1 hc with rfl|hc
  ·exact asz M.big g1
  ·exact M'.lo c hc
 ·rw[List.map_cons,List.nodup_cons];refine⟨fun h=>?_,M'.nd⟩;obtain⟨c,hc,e⟩:=asy.1 h;rcases aso.1 hc with rfl|hc
  ·exact hne e.symm
  ·have:=(M.box c hc).lt;omega
 ·intro r hr c hc;rcases aso.1 hc with rfl|hc
  ·intro e;have:=((M.row r hr).lt _ e).2;omega
  ·exact M'.far r hr c hc
theorem bg.turn(M:bg B w0 w bs rs)(i:Nat){b b':Bx}(h:bs[i]?=some b)(e:b'.1=b.1)(hg:w.grownBy w' (some b.1))(h':uI w' b')(hm2:∀ g cs,Whole w g 52 cs→g≠b.1):bg B w0 w' (bs.set i b') rs:=by
 have hi:=(asn.1 h).1;have hm:=asr h
 have hmap:(bs.set i b').map (·.1)=bs.map (·.1):=by
  refine List.ext_getElem? fun j=>?_
  rw[asu,asu,List.getElem?_set];by_cases ej:i=j
  ·subst ej;simp[hi,(asn.1 h).2,e]
  ·simp[ej]
 have SM:∀ c∈bs.set i b',∃ c'∈bs,c'.1=c.1:=fun c hc=>by
  rcases List.mem_or_eq_of_mem_set hc with hc|rfl
  ·exact⟨c,hc,rfl⟩
  ·exact⟨_,hm,e.symm⟩
 have hS:=St.grown (X:=[b.1]) hg (asE.2 rfl);refine⟨M.below.trans (hS.below M.big fun k hk=>by rw[asE.1 hk];exact M.lo _ hm),M.le,fun g cs h2=>hS.whole (M.old g cs h2) fun hx=>hm2 g cs (M.old g cs h2) (asE.1 hx),?_,?_,by rw[hmap];exact M.nd,?_,?_,M.vC⟩
 ·intro c hc;obtain⟨j,hj⟩:=List.getElem?_of_mem hc;rw[List.getElem?_set] at hj;by_cases ej:i=j
  ·subst ej;rw[if_pos rfl,if_pos hi] at hj;obtain rfl:=asp hj;exact h'
  ·rw[if_neg ej] at hj;have hb:=M.box c (asr hj);refine hb.kept (hS.block _ hb.lt fun hx=>ej ?_);have e2:c.1=b.1:=asE.1 hx;have h1:(bs.map (·.1))[i]?=some b.1:=by rw[asu,h];rfl
   have h2:(bs.map (·.1))[j]?=some b.1:=by rw[asu,hj];simp[e2]
   exact kV M.nd h1 h2
 ·intro c hc;obtain⟨c',hc',ec⟩:=SM c hc;rw[← ec];exact M.lo c' hc'
 ·intro r hr;exact hS.own (M.row r hr) fun q hq=>by rw[asE.1 hq];exact M.far r hr _ hm
 ·intro r hr c hc;obtain⟨c',hc',ec⟩:=SM c hc;rw[← ec];exact M.far r hr c' hc'
theorem aX.Kw{w:World}{mb:Nat}{L:List (Int×Value)}(h:aX w Tryz.prog 3 mb (L.map ival)):(L.map Prod.fst).Nodup:=by
 have hk:=h.keys;rw[List.map_map] at hk;have e:(Prod.fst∘ival)=(fun n:Int=>Value.int .i64 n)∘Prod.fst:=rfl;rw[e,← List.map_map] at hk;exact(List.pairwise_map.1 hk).imp fun h e=>h (by rw[e])
section
variable {t e:TypeId} (ht:Tryz.prog.underlying t=some (.map 3 e))
include ht
theorem aX.R8{z:Value}(hz:(zeroValue e).run Tryz.prog w=.ok z w)(hM:aX w Tryz.prog 3 mb (L.map ival)){k:Int}(hk:jq k)(c:Bool):
 (Instr.lookup t (.map (some mb)) (.int .i64 k) c).run Tryz.prog w=.ok (if c then .tuple #[(jD L k).getD z,.bool (jD L k).isSome] else (jD L k).getD z) w:=by
 obtain⟨l,hl⟩:=VW hk
 cases hf:jD L k with
 | some v=>exact hM.qz c vT ht hl (asy.2 ⟨(k,v),VP hf,rfl⟩)
 | none=>
  refine hM.mX c vT ht hz hl fun p hp e=>?_
  obtain⟨q,hq,rfl⟩:=asy.1 hp;exact z7 hf q hq (by simpa[ival] using e)
theorem bg.look{z:Value}(hz:(zeroValue e).run Tryz.prog w=.ok z w)(M:bg B w0 w bs rs)(i:Nat)(h:bs[i]?=some (mb,9003,eu L)){k:Int}(hk:jq k)(c:Bool):
 (Instr.lookup t (.map (some mb)) (.int .i64 k) c).run Tryz.prog w=.ok (if c then .tuple #[(jD L k).getD z,.bool (jD L k).isSome] else (jD L k).getD z) w:=aX.R8 ht hz (M.map i h) hk c
theorem aX.RF(hM:aX w Tryz.prog 3 mb (L.map ival)){k:Int}(hk:jq k)(v:Value):
 ∃ w',(Instr.mapUpdate t (.map (some mb)) (.int .i64 k) v).run Tryz.prog w=.ok () w'∧(aX w' Tryz.prog 3 mb (((k,v)::gP L k).map ival)∧w.grownBy w' (some mb)):=by
 obtain⟨l,hl⟩:=VW hk
 cases hf:jD L k with
 | some u=>
  obtain⟨w',hw,Lg,hg,-⟩:=hM.ME (key:=.int .i64 k) (val:=v) (old:=u) (R:=(gP L k).map ival) vT ht hl ((wg hM.Kw hf).map ival);exact⟨w',hw,Lg,hg⟩
 | none=>
  obtain⟨w',hw,Lg,hg,-⟩:=hM.MF (key:=.int .i64 k) (val:=v) vT ht hl fun p hp e=>by
   obtain⟨q,hq,rfl⟩:=asy.1 hp;exact z7 hf q hq (by simpa[ival] using e)
  refine⟨w',hw,?_,hg⟩;rw[PU hf];exact Lg
theorem bg.acO(M:bg B w0 w bs rs)(i:Nat)(h:bs[i]?=some (mb,9003,eu L)){k:Int}(hk:jq k)(v:Value):
 ∃ w',(Instr.mapUpdate t (.map (some mb)) (.int .i64 k) v).run Tryz.prog w=.ok () w'∧bg B w0 w' (bs.set i (mb,9003,eu ((k,v)::gP L k))) rs:=by
 obtain⟨w',hw,Lg,hg⟩:=aX.RF ht (M.map i h) hk v;exact⟨w',hw,M.turn i h rfl hg (lN Lg) fun g cs h2=>gG h2 (M.map i h)⟩
theorem bg.af7{ty:TypeId}(M:bg B w0 w bs rs)(i:Nat)(h:bs[i]?=some (mb,9003,eu L)){k:Int}(hk:jq k)(hin:(jD L k).isSome=true):
 ∃ w',(Builtin.delete_ #[t,3] ty #[.map (some mb),.int .i64 k]).run Tryz.prog w=.ok (.tuple #[]) w'∧bg B w0 w' (bs.set i (mb,9003,eu (gP L k))) rs:=by
 have hM:=M.map i h;obtain⟨l,hl⟩:=VW hk;obtain⟨u,hf⟩:=Option.isSome_iff_exists.1 hin;obtain⟨w',hw,Lg,hg,-⟩:=hM.del (ty:=ty) (key:=.int .i64 k) (old:=u) (R:=(gP L k).map ival) vT ht hl ((wg hM.Kw hf).map ival);exact⟨w',hw,M.turn i h rfl hg (lN Lg) fun g cs h2=>gG h2 (M.map i h)⟩
end
end
end Go.Proofs.YtdcofoaihmongaaGreat
namespace Go.Proofs.YtdcofoaihmongaaGreat
open Go Go.RowKit
section
variable {P:Program} {a:Act} {w:World} {o:Oper} {x y:Operand} {ty yt:TypeId} {k yk:IntKind} {m n:Int}
theorem lU(ho:o.op=.binOp .shl ty x y yt)(hx:a.eval x=.int k m)(hy:a.eval y=.int yk n)(h0:0≤n)(h1:n≤k.bits):(execOp a.eval o).run P w=.ok (.value (.int k (k.wrap (m*2^n.toNat)))) w:=by
 unfold execOp;simp[ho,hx,hy,eqGuard,binOp,shift_shl k yk m n h0 h1]
theorem TP(ho:o.op=.binOp .shr ty x y yt)(hx:a.eval x=.int k m)(hy:a.eval y=.int yk n)(h0:0≤n)(h1:n≤k.bits):(execOp a.eval o).run P w=.ok (.value (.int k (m/2^n.toNat))) w:=by
 unfold execOp;simp[ho,hx,hy,eqGuard,binOp,shift_shr k yk m n h0 h1]
theorem Ns(ho:o.op=.binOp .quo ty x y yt)(hx:a.eval x=.int k m)(hy:a.eval y=.int k n)(h0:n≠0):(execOp a.eval o).run P w=.ok (.value (.int k (k.wrap (m.tdiv n)))) w:=by
 unfold execOp;simp[ho,hx,hy,eqGuard,binOp,Op.intDiv,h0]
theorem Nw(ho:o.op=.unOp .xor ty x)(hx:a.eval x=.int .u64 m):(execOp a.eval o).run P w=.ok (.value (.int .u64 (bits .xor .u64 18446744073709551615 m))) w:=by
 unfold execOp;simp[ho,hx];rfl
theorem aan{t u:TypeId}(ho:o.op=.call { callee:=.builtin .min,args:=#[x,y],argTypes:=#[t,u] })(hx:a.eval x=.int k m)(hy:a.eval y=.int yk n):(execOp a.eval o).run P w=.ok (.value (.int k (if n<m then n else m))) w:=by
 unfold execOp;simp[ho,hx,hy,resolve,invoke,builtin,Builtin.min_,Builtin.min2,List.foldlM]
theorem Eu{t u:TypeId}(ho:o.op=.call { callee:=.builtin .max,args:=#[x,y],argTypes:=#[t,u] })(hx:a.eval x=.int k m)(hy:a.eval y=.int yk n):(execOp a.eval o).run P w=.ok (.value (.int k (if m<n then n else m))) w:=by
 unfold execOp;simp[ho,hx,hy,resolve,invoke,builtin,Builtin.max_,Builtin.max2,List.foldlM]
theorem lW{f:FuncId}{x:Operand}{xs:Array Operand}{ts:Array TypeId}{fn:Func}{c:Code}{first cap args:Array Value}(ho:o.op=.call { callee:=.value x,args:=xs,argTypes:=ts })(hx:a.eval x=.func (.func f) first cap)(hf:P.funcs[f]?=some fn) (hn:(fn.name == "runtime.NumGoroutine")=false) (hb:fn.body=some c)
 (ha:first++xs.map a.eval++cap=args):(execOp a.eval o).run P w=.ok (.enter f args) w:=by
 have h0:fn.body.isNone=false:=by rw[hb];rfl
 unfold execOp;simp only[ho,resolve,hx,Deferred.ofValue,invoke,callFunc,asA,Sem.run_pure,Result.andThen_ok,run_program,hf,hn,h0];rw[← ha];simp
theorem Io{t e:TypeId}{i:TypeInfo}{z:Value}{c:Nat}{cs:Array Value}(ho:o.op=.makeSlice t x y)(hx:a.eval x=.int k (c:Int))(hy:a.eval y=.int yk (c:Int))(ht:P.underlying t=some (.slice e))(hi:P.info? e=some i)(hz:i.zero=some z)
 (hcs:madeCells z.cells (c*i.size)=cs) (hb:i.bytes*c≤281474976710656) (h63:c≤maxLen) :
 (execOp a.eval o).run P w=.ok (.value (.slice (some ⟨w.heap.size,0,none⟩) c c)) (w.alloc (.cells cs e)):=by
 have hb':(i.bytes:Int)*(c:Int)≤281474976710656:=by
  have h:((i.bytes*c:Nat):Int)≤281474976710656:=by omega
  rwa [Int.natCast_mul] at h
 have h63':(c:Int)≤9223372036854775807:=by
  have h:=h63;simp[maxLen] at h;omega
 have hr:=run_make (P:=P) w t e i z ht hi hz k yk (c:Int) (c:Int) (by omega) (Int.le_refl _) hb' h63';simp only[Int.toNat_natCast] at hr;unfold execOp;simp[ho,hx,hy,hr,hcs]
theorem RO(z:Value):madeCells #[z] (1*1)=#[z]:=by
 unfold madeCells;refine Array.ext (by simp) fun i h1 h2=>?_
 have hi:i=0:=by simp at h2;omega
 subst hi;simp
theorem tV{t e:TypeId}{z:Value}{b:Nat}(ho:o.op=.makeSlice t x y)(hx:a.eval x=.int k 1)(hy:a.eval y=.int yk 1)(ht:P.underlying t=some (.slice e))(hi:gU (P.info? e) 1 b=true)(hz:(P.info? e).bind (·.zero)=some z)(h1:z.cells=#[z])(hb:b≤281474976710656):
 (execOp a.eval o).run P w=.ok (.value (.slice (some ⟨w.heap.size,0,none⟩) 1 1)) (w.alloc (.cells #[z] e)):=by
 obtain⟨i,z',hi',hz0,hz1,hz2,hzs⟩:=mG hi;rw[hi'] at hz;simp only[Option.bind_some] at hz;have h2:=Io (P:=P) (w:=w) (c:=1) (z:=z) (cs:=#[z]) ho hx hy ht hi' hz (by rw[hz1,h1];exact RO z) (by rw[hz2];omega) (by simp[maxLen]);exact h2
end
section
variable {P:Program} {ops:Array Oper} {Q:Exit→Act→World→Prop} {rest:List Oper} {a:Act} {w:World} {o:Oper}
theorem kmu(hg:o.guard=none)(hd:o.dst=none){m x v:Operand}{t:TypeId}(hop:o.op=.mapUpdate t m x v){mv key val:Value}(hm:a.eval m=mv)(hx:a.eval x=key)(hv:a.eval v=val)
 {Post:World→Prop} (hrun:∃ w',(Instr.mapUpdate t mv key val).run P w=.ok () w'∧Post w') (next:∀ w',Post w'→wpList P ops Q rest a w'):wpList P ops Q (o::rest) a w:=
 JH w hg m x v t hop mv key val hm hx hv Post hrun fun w' h=>by
  have:a.put o.dst undef=a:=by rw[hd];rfl
  rw[this];exact next w' h
end
def FC(wb:World):Good:=fun v u=>∃ b,v=.map (some b)∧aX u Tryz.prog 3 b []∧wb.heap.size≤b
theorem O8(wb:World):eN (FC wb):=fun _ _ _ ⟨b,e,h,k⟩ hb=>⟨b,e,h.kept (hb.block _ h.lt),k⟩
theorem dmk{ops:Array Oper}{Q':Exit→Act→World→Prop}{a:Act}{w wb:World}{o:Oper}{d N:Nat}{t k e:TypeId}(hw:Region.wanted o (yielded ops a.tmps)=true)(ho:o.op=.makeMap t none)(_:Tryz.prog.underlying t=some (.map k e))(hd:o.dst=some d)(hf:Fr a N)(hN:Nat.blt d N=true)(hi:asD wb.heap.size wb w)
 (hK:∀ v a' w',asD w.heap.size w w'→FC wb v w'→Put a (o.dst.getD 0) v a'→Q' .normal a' w'):wpList Tryz.prog ops Q' [o] a w:=by
 have hr:(execOp a.eval o).run Tryz.prog w=.ok (.value (.map (some w.heap.size))) (w.alloc (.map #[] 0)):=by
  unfold execOp;simp[ho,Instr.makeMap]
 refine wpList_step fun K hK'=>?_
 rw[if_pos hw];unfold Oper.wp;rw[hr,Oper.upon_value];refine hK' _ _ (asF (hK _ _ _ ((Below.refl _ w).alloc (Nat.le_refl _) _) ⟨_,rfl,aX.made w _ _,hi.size⟩ ?_));rw[hd];exact rG hf (by simpa using hN)
def I9(wb:World)(cs:Array Value):Good:=fun v u=>∃ b,v=.agg (cs.push (.map (some b)))∧aX u Tryz.prog 3 b []∧wb.heap.size≤b
theorem G7(wb:World)(cs:Array Value):eN (I9 wb cs):=fun _ _ _ ⟨b,e,h,k⟩ hb=>⟨b,e,h.kept (hb.block _ h.lt),k⟩
def Bk(wb:World)(t:TypeId)(cs:Array Value):Good:=fun v u=>∃ g b,v=.pointer (some ⟨g,0,none⟩)∧Whole u g t (cs.push (.map (some b)))∧aX u Tryz.prog 3 b []∧wb.heap.size≤g∧wb.heap.size≤b
theorem wX(wb:World)(t:TypeId)(cs:Array Value):eN (Bk wb t cs):=fun _ _ _ ⟨g,b,e,hw,h,k⟩ hb=>⟨g,b,e,Whole.under hb hw hw.lt,h.kept (hb.block _ h.lt),k⟩
theorem kmk{P:Program}{ops:Array Oper}{Q:Exit→Act→World→Prop}{rest:List Oper}{a:Act}{B:Nat}{w w0:World}{o:Oper}{d N:Nat}{l:Slots}{bs:List Bx}{rs:List Rw}{t:TypeId}(hw:Region.wanted o (yielded ops a.tmps)=true)(ho:o.op=.makeMap t none)(hd:o.dst=some d)(F:Fs a N l)(hN:Nat.blt d N=true)(M:bg B w0 w bs rs)
 (next:∀ mb a' w',Fs a' N ((d,.map (some mb))::l)→bg B w0 w' ((mb,9003,eu [])::bs) rs→wpList P ops Q rest a' w'):wpList P ops Q (o::rest) a w:=by
 have hr:(execOp a.eval o).run P w=.ok (.value (.map (some w.heap.size))) (w.alloc (.map #[] 0)):=by
  unfold execOp;simp[ho,Instr.makeMap]
 refine wpList_step fun K hK'=>?_
 rw[if_pos hw];unfold Oper.wp;rw[hr,Oper.upon_value,hd];exact hK' _ _ (next w.heap.size _ _ (F.put (rG F.fr (by simpa using hN))) (M.Kz ((Below.refl _ w).alloc (Nat.le_refl _) _) (b:=(w.heap.size,9003,eu [])) (lN (aX.made w _ _)) (Nat.le_refl _)))
section
variable {ops:Array Oper} {Q:Exit→Act→World→Prop} {rest:List Oper} {a:Act} {B:Nat} {w w0:World} {o:Oper} {d N:Nat} {l:Slots} {bs:List Bx} {rs:List Rw} {mb:Nat} {L:List (Int×Value)}
theorem Ev{t e:TypeId}{m x:Operand}{z:Value}{k:Int}(ht:Tryz.prog.underlying t=some (.map 3 e))(hz:(zeroValue e).run Tryz.prog w=.ok z w)(M:bg B w0 w bs rs)(i:Nat)(h:bs[i]?=some (mb,9003,eu L))(ho:o.op=.lookup t m x true)(hm:a.eval m=.map (some mb))(hx:a.eval x=.int .i64 k)(hk:jq k):
 (execOp a.eval o).run Tryz.prog w=.ok (.value (.tuple #[(jD L k).getD z,.bool (jD L k).isSome])) w:=by
 have hl:=M.look ht hz i h hk true;unfold execOp;simp[ho,hm,hx,hl]
theorem Wz{t e:TypeId}{m x:Operand}{z:Value}{k:Int}(ht:Tryz.prog.underlying t=some (.map 3 e))(hz:(zeroValue e).run Tryz.prog w=.ok z w)(M:bg B w0 w bs rs)(i:Nat)(h:bs[i]?=some (mb,9003,eu L))(ho:o.op=.lookup t m x false)(hm:a.eval m=.map (some mb))(hx:a.eval x=.int .i64 k)(hk:jq k):
 (execOp a.eval o).run Tryz.prog w=.ok (.value ((jD L k).getD z)) w:=by
 have hl:=M.look ht hz i h hk false;unfold execOp;simp[ho,hm,hx,hl]
theorem tW{t e:TypeId}{m x:Operand}{z:Value}{k:Int}(ht:Tryz.prog.underlying t=some (.map 3 e))(hz:(zeroValue e).run Tryz.prog w=.ok z w)(hM:aX w Tryz.prog 3 mb (L.map ival))(ho:o.op=.lookup t m x true)(hm:a.eval m=.map (some mb))(hx:a.eval x=.int .i64 k)(hk:jq k):
 (execOp a.eval o).run Tryz.prog w=.ok (.value (.tuple #[(jD L k).getD z,.bool (jD L k).isSome])) w:=by
 have hl:=aX.R8 ht hz hM hk true;unfold execOp;simp[ho,hm,hx,hl]
theorem kmp(hg:o.guard=none)(hd:o.dst=none){t e:TypeId}{m x y:Operand}{v:Value}{k:Int}(ho:o.op=.mapUpdate t m x y)(ht:Tryz.prog.underlying t=some (.map 3 e))(hm:a.eval m=.map (some mb))(hx:a.eval x=.int .i64 k)(hy:a.eval y=v)(hk:jq k)(M:bg B w0 w bs rs)(i:Nat)(h:bs[i]?=some (mb,9003,eu L))
 (next:∀ w',bg B w0 w' (bs.set i (mb,9003,eu ((k,v)::gP L k))) rs→wpList Tryz.prog ops Q rest a w'):wpList Tryz.prog ops Q (o::rest) a w:=
 kmu hg hd ho hm hx hy (M.acO ht i h hk v) next
end
def tJK(p:Pa)(t c b:Bool)(f:Bool→Prop):Prop:=match p with
 | []=>(match b with|true=>f c|false=>f (!c))
 | _::_=>(match b with|true=>f (t&&c)|false=>f (t&&!c))
theorem YB{p:Pa}{t c b:Bool}{f:Bool→Prop}(h:tJK p t c b f):f (tJ p t c b):=by
 cases p<;>cases b<;>exact h
def gK(m:List fP)(g:Option (Nat×Bool))(f:Pa→Bool→Prop):Prop:=match g with
 | none=>f [] true
 | some (j,b)=>lkJ j (fun p t v=>match v with|.bool c=>tJK p t c b (f ((j,b)::p))|_=>False) m
def dK(N:Nat)(m:List fP)(dst:Option Nat)(f:Nat→Prop):Prop:=match dst with
 | some d=>bif Nat.blt d N then bif jx d m then f d else False else False
 | none=>False
def Qx(π:Pa)(p:Prop):Prop:=match π with
 | []=>p
 | _::_=>False
def bh(v:Value):List Value:=match v with
 | .agg cs=>cs.toList
 | v=>[v]
theorem kN(v:Value):v.cells.toList=bh v:=by cases v<;>rfl
def P0(v:Value)(f:Array Value→Prop):Prop:=match v with
 | .agg cs=>f cs
 | .bool b=>f #[.bool b]
 | .int k n=>f #[.int k n]
 | .string s=>f #[.string s]
 | .pointer a=>f #[.pointer a]
 | .slice a n c=>f #[.slice a n c]
 | .map r=>f #[.map r]
 | .func a b c=>f #[.func a b c]
 | .nilFunc=>f #[.nilFunc]
 | .iface t v=>f #[.iface t v]
 | .nilIface=>f #[.nilIface]
 | _=>False
theorem uo{v:Value}{f:Array Value→Prop}(h:P0 v f):f v.cells:=by
 cases v<;>first|exact h|exact h.elim
def ldK(π:Pa)(t:Bool)(bs:List Bx)(w:World)(D:TD)(g off:Nat)(k:Value→Prop):Prop:=
 bif D.one' then
  (∃ i,rK bs i fun b=>match b with|(b,T,cs)=>bif Nat.blt T 9000 then ob π t (b=g) (rK cs.toList off k) else False)∨(∃ v,ob π t (w.cell? ⟨g,off,none⟩=some v) (k v))
 else
  (∃ i,rK bs i fun b=>match b with|(b,T,cs)=>bif Nat.blt T 9000 then ob π t (b=g) (Ir off cs.toList fun r=>Gl (iV D) r fun l=>k (.agg l.toArray)) else False) ∨
   (∃ cs:List Value,ob π t (∀ j u,cs[j]?=some u→w.cell? ⟨g,off+j,none⟩=some u) (pQ cs (iV D) (k (.agg cs.toArray))))
def stK(B:Nat)(w0:World)(bs:List Bx)(D:TD)(g off:Nat)(v:Value)(k:List Bx→Prop):Prop:=
 ∃ i,rK bs i fun b=>match b with|(b,T,cs)=>bif Nat.blt T 9000 then bif Nat.beq T 52 then
  ((b=g∧(bh v).all (·.oneCell')=true)∧w0.heap.size≤B)∧pQ (bh v) (iV D) (Gu cs.toList off (bh v) fun cs'=>zH bs i (b,T,cs'.toArray) k)
  else (b=g∧(bh v).all (·.oneCell')=true)∧pQ (bh v) (iV D) (Gu cs.toList off (bh v) fun cs'=>zH bs i (b,T,cs'.toArray) k) else False
def stR(B:Nat)(w0:World)(rs:List Rw)(D:TD)(g off:Nat)(v:Value)(k:List Rw→Prop):Prop:=
 ∃ i j e n cap xs,(rs[i]?=some ⟨.slice (some ⟨g,0,none⟩) n cap,e,iV D,n,xs⟩∧off=j*iV D∧j<n)∧(bh v).all (·.oneCell')=true∧(Nat.beq e 52=false∨w0.heap.size≤B) ∧
  pQ (bh v) (iV D) (zH rs i ⟨.slice (some ⟨g,0,none⟩) n cap,e,iV D,n,xs.take off++bh v++xs.drop (off+iV D)⟩ k)
def apO(B:Nat)(w0:World)(bs:List Bx)(rs:List Rw)(w:World)(u v:Value)(e kk QE:Nat)(k:Value→List Bx→List Rw→World→Prop):Prop:=
 ∃ P6 OG i nn xs mm news,(bg B w0 w bs rs→bg B w0 w P6 OG)∧OG[i]?=some ⟨v,e,kk,nn,xs⟩∧SliceAt w u kk mm news∧(nn+mm≤maxLen∧(nn+mm)*QE≤140737488355328)∧(Nat.beq e 52=false∨w0.heap.size≤B) ∧
  ∀ v' w',zH OG i ⟨v',e,kk,nn+mm,xs++news⟩ fun rs'=>bg B w0 w' P6 rs'→k v' P6 rs' w'
def rI:Nat→List (Nat×Operand)→Bool
 | _,[]=>true
 | i,(j,_)::r=>bif Nat.beq i j then rI (i+1) r else false
def WD(kk:Nat):List Value→(List Value→Prop)→Prop
 | [],f=>f []
 | v::r,f=>P0 v fun cs=>pQ cs.toList kk (WD kk r fun l=>rZ cs.toList l f)
section
variable (B:Nat) (w0:World) (N:Nat) (l:Slots) (o:Oper) (n:Nat) (m:List fP) (bs:List Bx) (rs:List Rw) (w:World) (k:List fP→List Bx→List Rw→World→Prop)
def FB:Prop:=Mz l m [] (ij o.op) fun vs=>match o.dst with
 | some d=>bif Nat.blt d N then bif jx d m then
  ∃ R:Value→World→Prop,(∀ (a:Act) (o':Oper),o'.op=o.op→o'.type=o.type→uP a (ij o.op) vs→∃ v w',(execOp a.eval o').run Tryz.prog w=.ok (.value v) w'∧R v w') ∧
   ∀ v w',R v w'→∃ bs' rs',bg B w0 w' bs' rs'∧k (⟨d,n,[],true,v⟩::m) bs' rs' w'
  else False else False
 | none=>∃ R:World→Prop,(∀ (a:Act) (o':Oper),o'.op=o.op→o'.type=o.type→uP a (ij o.op) vs→∃ w',(execOp a.eval o').run Tryz.prog w=.ok .skip w'∧R w') ∧
  ∀ w',R w'→∃ bs' rs',bg B w0 w' bs' rs'∧k m bs' rs' w'
def cK(π:Pa)(t:Bool)(f:FuncId)(vs:List Value):Prop:=bif jr f QF then False else bif Nat.blt f NF then dK N m o.dst fun d=>(∃ v,ob π t (Calls Tryz.prog f vs.toArray w fun e w'=>e=.returned v∧asD w.heap.size w w') (∀ w',bg B w0 w' bs rs→k (⟨d,n,π,t,v⟩::m) bs rs w')) ∨
 (match π with
 | []=>∃ R:Value→World→Prop,(Calls Tryz.prog f vs.toArray w fun e w'=>∃ v,e=.returned v∧R v w')∧∀ v w',R v w'→∃ bs' rs',bg B w0 w' bs' rs'∧k (⟨d,n,[],true,v⟩::m) bs' rs' w'
 | π=>∃ R:Value→World→Prop,(t=true→Calls Tryz.prog f vs.toArray w fun e w'=>∃ v,e=.returned v∧R v w')∧(t=false→∃ v,R v w)∧∀ v w',R v w'→∃ bs' rs',bg B w0 w' bs' rs'∧k (⟨d,n,π,t,v⟩::m) bs' rs' w')
 else False
def apK(π:Pa)(c:Call):Prop:=Qx π (match c.args.toList with
 | [s,x]=>(match c.argTypes.toList with
  | [ty,ty']=>bif Nat.beq ty ty' then dK N m o.dst fun d=>pI l m π s fun v=>pI l m π x fun u=>Bz ty (fun D=>match D with
   | .sl e kk QE=>bif Nat.blt 0 kk then apO B w0 bs rs w u v e kk QE (fun v'=>k (⟨d,n,[],true,v'⟩::m)) else False
   | _=>False) TT else False
  | _=>False)
 | _=>False)
def Ro:Prop:=gK m o.guard fun π t=>match o.op with
 | .load ty x=>dK N m o.dst fun d=>pI l m π x fun u=>DQ u (yV π t fun v=>k (⟨d,n,π,t,v⟩::m) bs rs w) fun g off=>Bz ty (fun D=>ldK π t bs w D g off fun v=>k (⟨d,n,π,t,v⟩::m) bs rs w) TT
 | .store ty x y=>Qx π (match o.dst with
  | none=>(pI l m π x fun u=>pI l m π y fun v=>DQ u False fun g off=>Bz ty (fun D=>stK B w0 bs D g off v fun bs'=>∀ w',bg B w0 w' bs' rs→k m bs' rs w') TT) ∨
   (pI l m π x fun u=>pI l m π y fun v=>DQ u False fun g off=>Bz ty (fun D=>stR B w0 rs D g off v fun rs'=>∀ w',bg B w0 w' bs rs'→k m bs rs' w') TT)∨FB B w0 N l o n m w k
  | some _=>False)
 | .alloc ty=>Qx π (dK N m o.dst fun d=>∃ z,(Tryz.prog.info? ty).bind (·.zero)=some z∧bif Nat.blt ty 9000 then P0 z fun cs=>∀ g w',bg B w0 w' ((g,ty,cs)::bs) rs→k (⟨d,n,[],true,.pointer (some ⟨g,0,none⟩)⟩::m) ((g,ty,cs)::bs) rs w' else False)
 | .box ty x=>Qx π (dK N m o.dst fun d=>pI l m π x fun u=>bif Nat.blt ty 9000 then P0 u fun cs=>∀ g w',bg B w0 w' ((g,ty,cs)::bs) rs→k (⟨d,n,[],true,.pointer (some ⟨g,0,none⟩)⟩::m) ((g,ty,cs)::bs) rs w' else False)
 | .buildSlice ty len parts=>Qx π (dK N m o.dst fun d=>Bz ty (fun D=>match D with
  | .sl e kk _=>bif rI 0 parts.toList then pQ parts.toList len (bif Nat.blt 0 (len*kk) then bif Nat.ble (len*kk) 16777216 then bif Nat.blt e 9000 then Mz l m π (parts.toList.map (·.2)) fun vs=>WD kk vs fun cs=>∀ g w',bg B w0 w' ((g,e,cs.toArray)::bs) rs→k (⟨d,n,[],true,.slice (some ⟨g,0,none⟩) len len⟩::m) ((g,e,cs.toArray)::bs) rs w'
   else False else False else False) else False
  | _=>False) TT)
 | .call c=>(match c.callee with
  | .value (.func f)=>Mz l m π c.args.toList fun vs=>cK B w0 N o n m bs rs w k π t f vs
  | .value y=>pI l m π y fun u=>(match u with
   | .func (.func f) first cap=>Mz l m π c.args.toList fun vs=>rZ first.toList vs fun xs=>rZ xs cap.toList fun ys=>cK B w0 N o n m bs rs w k π t f ys
   | _=>False)
  | .builtin .append=>apK B w0 N l o n m bs rs w k π c
  | .builtin .len=>dK N m o.dst fun d=>pop l m π t (fun v=>k (⟨d,n,π,t,v⟩::m) bs rs w) (.call c)
  | _=>Qx π (FB B w0 N l o n m w k))
 | .insert _ _ _ _|.makeMap _ _|.makeChan _ _|.makeSlice _ _ _|.mapUpdate _ _ _ _|.mapEntry _ _ _|.entryStore _ _ _ _|.range _ _|.next _ _|.entry _|.typeAssert _ _ _ _|.panic _|.lookup _ _ _ _|.slice _ _ _ _ _=>Qx π (FB B w0 N l o n m w k)
 | op=>dK N m o.dst fun d=>pop l m π t (fun v=>k (⟨d,n,π,t,v⟩::m) bs rs w) op
end
def isN(o:Option Value):Bool:=match o with
 | none=>true
 | some _=>false
def nQ:List fP→Slots→(Slots→Prop)→Prop
 | [],l,f=>f l
 | ⟨s,_,p,t,v⟩::r,l,f=>match p with
  | []=>nQ r l fun l'=>f ((s,v)::l')
  | _::_=>bif isN (look s l) then nQ r l f else nQ r l fun l'=>f ((s,gd t v)::l')
theorem lQ:∀ {m:List fP} {l:Slots} {f:Slots→Prop},nQ m l f→∃ l',f l'∧∀ q v,look q l'=some v→(∃ e∈m,e.s=q∧((e.p=[]∧v=e.v)∨v=gd e.t e.v))∨(look q l=some v∧∀ e∈m,e.s≠q)
 | [],l,_,h=>⟨l,h,fun _ _ h=>.inr ⟨h,by simp⟩⟩
 | ⟨s,j,p,t,v⟩::r,l,f,h=>by
  have key:∀ (v':Value),((p=[]∧v'=v)∨v'=gd t v)→(∃ l',f ((s,v')::l')∧∀ q v,look q l'=some v→(∃ e∈r,e.s=q∧((e.p=[]∧v=e.v)∨v=gd e.t e.v))∨(look q l=some v∧∀ e∈r,e.s≠q)) →
   ∃ l',f l'∧∀ q u,look q l'=some u→(∃ e∈(⟨s,j,p,t,v⟩:fP)::r,e.s=q∧((e.p=[]∧u=e.v)∨u=gd e.t e.v))∨(look q l=some u∧∀ e∈(⟨s,j,p,t,v⟩:fP)::r,e.s≠q):=by
   rintro v' hv ⟨l',h1,h2⟩;refine⟨_,h1,fun q u hq=>?_⟩;rw[bG] at hq
   cases e:q == s with
   | true=>
    rw[e] at hq;have e1:v'=u:=asp hq;subst e1;exact .inl ⟨_,asC ..,(by simpa using e:q=s).symm,hv⟩
   | false=>
    rw[e] at hq;rcases h2 q u hq with⟨e',h3,h4⟩|⟨h3,h4⟩
    ·exact .inl ⟨e',asB _ h3,h4⟩
    ·refine .inr ⟨h3,fun e' he'=>?_⟩;rcases aso.1 he' with rfl|he'
     ·exact fun h=>(by simpa using e:q≠s) h.symm
     ·exact h4 e' he'
  cases p with
  | nil=>exact key v (.inl ⟨rfl,rfl⟩) (lQ (f:=fun l'=>f ((s,v)::l')) h)
  | cons x p=>
   have h:bif isN (look s l) then nQ r l f else nQ r l fun l'=>f ((s,gd t v)::l'):=h
   cases hn:isN (look s l) with
   | false=>
    rw[hn] at h;exact key _ (.inr rfl) (lQ (f:=fun l'=>f ((s,gd t v)::l')) h)
   | true=>
    rw[hn] at h
    have hnone:look s l=none:=by
     cases hl:look s l with
     | none=>rfl
     | some u=>rw[hl] at hn;cases hn
    obtain⟨l',h1,h2⟩:=lQ h;refine⟨l',h1,fun q u hq=>?_⟩;rcases h2 q u hq with⟨e',h3,h4⟩|⟨h3,h4⟩
    ·exact .inl ⟨e',asB _ h3,h4⟩
    ·refine .inr ⟨h3,fun e' he'=>?_⟩;rcases aso.1 he' with rfl|he'
     ·intro hs;have hs:s=q:=hs;rw[← hs,hnone] at h3;cases h3
     ·exact h4 e' he'
def vc(B:Nat)(w0:World)(N:Nat)(l:Slots):List Oper→Nat→List fP→List Bx→List Rw→World→(Slots→List Bx→List Rw→World→Prop)→Prop
 | [],_,m,bs,rs,w,K=>nQ m l fun l'=>K l' bs rs w
 | o::r,n,m,bs,rs,w,K=>Ro B w0 N l o n m bs rs w fun m' bs' rs' w'=>vc B w0 N l r (n+1) m' bs' rs' w' K
structure Inv (ops:Array Oper) (a:Act) (N:Nat) (l:Slots) (m:List fP) (n:Nat):Prop where
 fr:Fr a N
 L:jm m n
 dst:∀ e∈m,(ops[e.j]?).bind (·.dst)=some e.s
 at_:∀ e∈m,At a e.s (gd e.t e.v)
 base:∀ q v,(∀ e∈m,e.s≠q)→look q l=some v→At a q v
section
variable {ops:Array Oper} {a a':Act} {N:Nat} {l:Slots} {m:List fP} {n:Nat} {o:Oper}
theorem Inv.start(F:Fs a N l):Inv ops a N l [] 0:=⟨F.fr,.nil 0,by simp,by simp,fun q v _ h=>F.at_ q v h⟩
theorem Inv.E(I:Inv ops a N l m n){x:Operand}{π:Pa}{v:Value}(h:Db l m π x v)(hc:∀ y∈π,Cond m y):a.eval x=v:=by
 cases x with
 | tmp q=>
  rcases h with⟨e,he,rfl,rfl,hs⟩|⟨h1,h2⟩
  ·have ht:e.t=true:=(I.L.tv e he).2 fun y hy=>hc y (yF hs y hy)
   exact((I.at_ e he).on ht).ev
  ·exact(I.base q v h1 h2).ev
 | const u=>exact h
 | global=>exact h.elim
 | func f=>exact h
theorem Inv.put(I:Inv ops a N l m n)(ho:ops[n]?=some o){d:Nat}(hd:o.dst=some d)(hfr:jx d m=true){π:Pa}(hp:∀ x∈π,∃ e∈m,e.j=x.1){t:Bool}(ht:t=true↔∀ x∈π,Cond m x){v:Value}(p:Put a d (gd t v) a'):Inv ops a' N l (⟨d,n,π,t,v⟩::m) (n+1):=by
 have hne:=PF hfr;refine⟨p.fr I.fr,I.L.put hp ht,?_,?_,?_⟩
 ·intro e he;rcases aso.1 he with rfl|he
  ·simp[ho,hd]
  ·exact I.dst e he
 ·intro e he;rcases aso.1 he with rfl|he
  ·exact p.now
  ·exact p.old (by simpa using hne e he) (I.at_ e he)
 ·intro q u hq hl;exact p.old (by have:=hq _ (asC ..);simp only at this;simpa using fun e=>this e.symm) (I.base q u (fun e he=>hq e (asB _ he)) hl)
theorem Inv.next(I:Inv ops a N l m n):Inv ops a N l m (n+1):=⟨I.fr,I.L.mono (Nat.le_succ n),I.dst,I.at_,I.base⟩
theorem Inv.fsK(I:Inv ops a N l m n){f:Slots→Prop}(h:nQ m l f):∃ l',f l'∧Fs a N l':=by
 obtain⟨l',h1,h2⟩:=lQ h;refine⟨l',h1,I.fr,fun q v hq=>?_⟩;rcases h2 q v hq with⟨e,he,rfl,h3⟩|⟨h3,h4⟩
 ·rcases h3 with⟨hp,rfl⟩|rfl
  ·exact(I.at_ e he).on ((I.L.tv e he).2 (by rw[hp];simp))
  ·exact I.at_ e he
 ·exact I.base q v h4 h3
theorem Ni(hL:jm m n){g:Option (Nat×Bool)}{f:Pa→Bool→Prop}(h:gK m g f):∃ π t,f π t∧(∀ x∈π,∃ e∈m,e.j=x.1)∧(t=true↔∀ x∈π,Cond m x)∧(π=[]→t=true) ∧
 ((g=none∧t=true)∨∃ e∈m,∃ b c,g=some (e.j,b)∧e.v=.bool c∧(t=true↔e.t=true∧c=b)):=by
 unfold gK at h;split at h
 ·exact⟨_,_,h,by simp,by simp,fun _=>rfl,.inl ⟨rfl,rfl⟩⟩
 ·rename_i j b;obtain⟨e,he,rfl,h⟩:=Y4 h;split at h
  ·rename_i c hv;have h:=YB h;obtain⟨h1,h2,h3⟩:=hL.guard he hv (b:=b);exact⟨_,_,h,h1,h2,fun h=>(by cases h),.inr ⟨e,he,b,c,rfl,hv,h3⟩⟩
  ·exact h.elim
theorem qo{t:Bool}(hg:(o.guard=none∧t=true)∨∃ e∈m,∃ b c,o.guard=some (e.j,b)∧e.v=.bool c∧(t=true↔e.t=true∧c=b))
 (hd:∀ e∈m,(∃ b,o.guard=some (e.j,b))→(ops[e.j]?).bind (·.dst)=some e.s∧At a e.s (gd e.t e.v)):Region.wanted o (yielded ops a.tmps)=t:=by
 rcases hg with⟨h1,rfl⟩|⟨e,he,b,c,hg,hv,h3⟩
 ·exact jN h1
 ·obtain⟨hds,hat⟩:=hd e he ⟨b,hg⟩;rw[hv] at hat
  cases t with
  | true=>
   obtain⟨h4,rfl⟩:=h3.1 rfl;exact GS hg hds (hat.on h4)
  | false=>
   cases h4:e.t with
   | false=>
    rw[h4] at hat
    exact CA hg hds hat
   | true=>
    have hne:¬ c=b:=fun e2=>by
     have:=h3.2 ⟨h4,e2⟩;cases this
    exact CB hg hds (hat.on h4) (by cases c<;>cases b<;>simp_all)
theorem adZ(I:Inv ops a N l m n){f:Pa→Bool→Prop}(h:gK m o.guard f):∃ π t,f π t∧(∀ x∈π,∃ e∈m,e.j=x.1)∧(t=true↔∀ x∈π,Cond m x)∧Region.wanted o (yielded ops a.tmps)=t∧(π=[]→t=true):=by
 obtain⟨π,t,h1,h2,h3,h4,h5⟩:=Ni I.L h;exact⟨π,t,h1,h2,h3,qo h5 fun e he _=>⟨I.dst e he,I.at_ e he⟩,h4⟩
theorem iu{dst:Option Nat}{f:Nat→Prop}(h:dK N m dst f):∃ d,dst=some d∧Nat.blt d N=true∧jx d m=true∧f d:=by
 unfold dK at h;split at h
 ·rename_i d
  cases h1:Nat.blt d N with
  | false=>rw[h1] at h;exact h.elim
  | true=>
   rw[h1] at h
   cases h2:jx d m with
   | false=>rw[h2] at h;exact h.elim
   | true=>rw[h2] at h;exact⟨d,rfl,h1,h2,h⟩
 ·exact h.elim
theorem mq{π:Pa}{p:Prop}(h:Qx π p):π=[]∧p:=by
 unfold Qx at h;split at h
 ·exact⟨rfl,h⟩
 ·exact h.elim
theorem bH{b:Bool}{p:Prop}(h:bif b then p else False):b=true∧p:=by
 cases b with
 | true=>exact⟨rfl,h⟩
 | false=>exact h.elim
end
section
variable {ops:Array Oper} {a:Act} {N:Nat} {l:Slots} {m:List fP} {n:Nat} {o:Oper} {B:Nat} {w0 w:World} {bs:List Bx} {rs:List Rw} {k:List fP→List Bx→List Rw→World→Prop} {rest:List Oper} {Q:Exit→Act→World→Prop} {π:Pa} {t:Bool} {d:Nat} {v:Value}
theorem afr(hw:Region.wanted o (yielded ops a.tmps)=t)(hr:t=true→(execOp a.eval o).run Tryz.prog w=.ok (.value v) w)(hd:o.dst=some d)(hf:Fr a N)(hN:Nat.blt d N=true)(next:∀ a',Put a d (gd t v) a'→wpList Tryz.prog ops Q rest a' w):wpList Tryz.prog ops Q (o::rest) a w:=by
 cases t with
 | true=>exact nD hw (hr rfl) hd hf (by simpa using hN) next
 | false=>exact uX hw hd hf (by simpa using hN) next
theorem tU{a:Act}:∀ {xs:List Operand} {vs:List Value},uP a xs vs→xs.map a.eval=vs
 | _,_,.nil=>rfl
 | _,_,.cons h r=>by rw[List.map_cons,tU r];exact congrArg (·::_) h
theorem jA{a:Act}{xs:Array Operand}{vs:List Value}(h:uP a xs.toList vs):xs.map a.eval=vs.toArray:=by
 apply Array.toList_inj.1;rw[Array.toList_map];exact tU h
theorem Inv.evs(I:Inv ops a N l m n){xs:List Operand}{vs:List Value}(h:Bm (Db l m π) xs vs)(hc:∀ y∈π,Cond m y):uP a xs vs:=vY h hc fun _ _ _ _ h hc=>I.E h hc
theorem zP{f:FuncId}(h1:Nat.blt f NF=true)(h2:jr f QF=false):sC Tryz.prog f=true:=by
 have:=asq.1 aen f (by simpa using h1);rw[h2,Bool.or_false] at this;exact this
theorem GU{f:FuncId}(hf:sC Tryz.prog f=true){x:Operand}{xs:Array Operand}{ts:Array TypeId}{first cap args:Array Value}(ho:o.op=.call { callee:=.value x,args:=xs,argTypes:=ts })(hx:a.eval x=.func (.func f) first cap)(ha:first++xs.map a.eval++cap=args):(execOp a.eval o).run Tryz.prog w=.ok (.enter f args) w:=by
 unfold sC at hf;split at hf
 ·rename_i fn hfn;rw[asG,Bool.not_eq_true'] at hf;obtain⟨c,hc⟩:=Option.isSome_iff_exists.1 hf.2;exact lW ho hx hfn hf.1 hc ha
 ·cases hf
theorem X8(I:Inv ops a N l m n)(M:bg B w0 w bs rs)(ho:ops[n]?=some o)(hp:∀ x∈π,∃ e∈m,e.j=x.1)(ht:t=true↔∀ x∈π,Cond m x)(hw:Region.wanted o (yielded ops a.tmps)=t)(h0:π=[]→t=true){f:FuncId}{vs:List Value}
 (h:cK B w0 N o n m bs rs w k π t f vs) (hrun:t=true→sC Tryz.prog f=true→(execOp a.eval o).run Tryz.prog w=.ok (.enter f vs.toArray) w)
 (next:∀ a' m' bs' rs' w',Inv ops a' N l m' (n+1)→bg B w0 w' bs' rs'→k m' bs' rs' w'→wpList Tryz.prog ops Q rest a' w'):wpList Tryz.prog ops Q (o::rest) a w:=by
 unfold cK at h
 cases hm:jr f QF with
 | true=>rw[hm] at h;exact h.elim
 | false=>
  rw[hm] at h;obtain⟨hb,h⟩:=bH h;obtain⟨d,hd,hN,hfr,h⟩:=iu h;have hok:=zP hb hm;rcases h with⟨v,h⟩|h
  ·obtain⟨h1,h2⟩:=gT h
   cases t with
   | true=>
    refine kg hw (hrun rfl hok) (wk (h1 rfl)) hd I.fr (by simpa using hN) fun u a' w' h3 p=>?_
    obtain⟨rfl,h3⟩:=h3;exact next a' _ _ _ _ (I.put ho hd hfr hp ht p) (M.keep h3) (h2 w' (M.keep h3))
   | false=>exact uX hw hd I.fr (by simpa using hN) fun a' p=>next a' _ _ _ _ (I.put ho hd hfr hp ht p) M (h2 w M)
  ·split at h
   ·obtain⟨R,h1,h2⟩:=h;obtain rfl:=h0 rfl;refine kg hw (hrun rfl hok) h1 hd I.fr (by simpa using hN) fun u a' w' h3 p=>?_
    obtain⟨bs',rs',M',h4⟩:=h2 u w' h3;exact next a' _ _ _ _ (I.put (t:=true) (v:=u) ho hd hfr (by simp) (by simp) p) M' h4
   ·obtain⟨R,h1,h2,h5⟩:=h
    cases t with
    | true=>
     refine kg hw (hrun rfl hok) (h1 rfl) hd I.fr (by simpa using hN) fun u a' w' h3 p=>?_
     obtain⟨bs',rs',M',h4⟩:=h5 u w' h3;exact next a' _ _ _ _ (I.put (t:=true) (v:=u) ho hd hfr hp ht p) M' h4
    | false=>
     obtain⟨v,hv⟩:=h2 rfl;obtain⟨bs',rs',M',h4⟩:=h5 v w hv;exact uX hw hd I.fr (by simpa using hN) fun a' p=>next a' _ _ _ _ (I.put (t:=false) (v:=v) ho hd hfr hp ht p) M' h4
theorem Uq(I:Inv ops a N l m n)(ho:ops[n]?=some o)(hw:Region.wanted o (yielded ops a.tmps)=true)(h:FB B w0 N l o n m w k)
 (next:∀ a' m' bs' rs' w',Inv ops a' N l m' (n+1)→bg B w0 w' bs' rs'→k m' bs' rs' w'→wpList Tryz.prog ops Q rest a' w'):wpList Tryz.prog ops Q (o::rest) a w:=by
 obtain⟨vs,h1,h⟩:=j4 h;have ny:=I.evs h1 (by simp);split at h
 ·rename_i d hd;obtain⟨hN,h⟩:=bH h;obtain⟨hfr,R,h2,h3⟩:=bH h;obtain⟨v,w',h4,h5⟩:=h2 a o rfl rfl ny;obtain⟨bs',rs',M',h6⟩:=h3 v w' h5;exact nD hw h4 hd I.fr (by simpa using hN) fun a' p=>next a' _ _ _ _ (I.put (t:=true) (v:=v) ho hd hfr (by simp) (by simp) p) M' h6
 ·rename_i hd;obtain⟨R,h2,h3⟩:=h;obtain⟨w',h4,h5⟩:=h2 a o rfl rfl ny;obtain⟨bs',rs',M',h6⟩:=h3 w' h5;exact UR hw h4 hd (next a _ _ _ _ I.next M' h6)
theorem R_{D:TD}{g off:Nat}{kk:Value→Prop}(M:bg B w0 w bs rs)(h:ldK π t bs w D g off kk){ty:TypeId}(hD:jI Tryz.prog ty D=true):∃ v,kk v∧(t=true→∀ w',asD w.heap.size w w'→∀ (a:Act) (o:Oper) (x:Operand),o.op=.load ty x→a.eval x=.pointer (some ⟨g,off,none⟩)→(execOp a.eval o).run Tryz.prog w'=.ok (.value v) w'):=by
 unfold ldK at h
 cases h1:D.one' with
 | true=>
  rw[h1] at h;obtain⟨dd,hu,hd⟩:=Ri hD h1;rcases h with⟨i,h⟩|⟨v,h⟩
  ·obtain⟨⟨b,T,cs⟩,hb,h⟩:=gF h;obtain⟨hT,h⟩:=bH h;obtain⟨h2,h3⟩:=gT h;obtain⟨v,h4,h5⟩:=gF h3;refine⟨v,h5,fun bF w' hb' a o x ho hx=>?_⟩;obtain rfl:=h2 bF;exact aD ho hx hu (by cases dd<;>first|rfl|cases hd) (((M.keep hb').b i hb hT).cell off▸by simpa using h4)
  ·obtain⟨h2,h3⟩:=gT h;exact⟨v,h3,fun bF w' hb' a o x ho hx=>aD ho hx hu (by cases dd<;>first|rfl|cases hd) (asw hb' (h2 bF))⟩
 | false=>
  rw[h1] at h;obtain⟨dd,hu,hd,hs⟩:=yE hD h1;rcases h with⟨i,h⟩|⟨cs,h⟩
  ·obtain⟨⟨b,T,cs⟩,hb,h⟩:=gF h;obtain⟨hT,h⟩:=bH h;obtain⟨h2,h3⟩:=gT h;obtain⟨h4,h5⟩:=Iq h3;obtain⟨h6,h7⟩:=Gj h5;refine⟨_,h7,fun bF w' hb' a o x ho hx=>?_⟩;obtain rfl:=h2 bF;refine bT _ ho hx hu (by cases dd<;>first|rfl|cases hd) (hs.trans ?_) (fU ((M.keep hb').b i hb hT) ?_)
   ·rw[asH,Nat.min_eq_left h6]
   ·rw[asH,Nat.min_eq_left h6]
  ·obtain⟨h2,h3⟩:=gT h;obtain⟨h4,h5⟩:=iz h3;exact⟨_,h5,fun bF w' hb' a o x ho hx=>bT cs ho hx hu (by cases dd<;>first|rfl|cases hd) (hs.trans (by rw[h4])) fun j u hu=>asw hb' (h2 bF j u hu)⟩
theorem Vz{w':World}{B e n cap kk off j g:Nat}{xs l:List Value}{cur:Array Value}(hg:B≤g)(hnc:n≤cap)(hcm:cap≤maxLen)(hcs:cur.size=cap*kk)(ht:cur.toList.take (n*kk)=xs)(hoff:off=j*kk)(hj:j<n)(hl:l.length=kk)
 (h':Whole w' g e (splice cur off l)):w'.ownsRow B e kk (.slice (some ⟨g,0,none⟩) n cap) n (xs.take off++l++xs.drop (off+kk)):=by
 have h1:off+kk≤n*kk:=by rw[hoff,← Nat.succ_mul];exact asI _ hj
 have h2:n*kk≤cap*kk:=asI _ hnc;have hx:xs.length=n*kk:=by rw[← ht,asH,Array.length_toList,hcs];omega
 refine⟨by simp[hx,hl];omega,.inr ⟨g,cap,_,rfl,hg,h',hnc,hcm,by rw[wQ,hcs],?_⟩⟩;rw[jC _ _ _ (by rw[hcs,hl];omega),hl,← ht];have hlen:(cur.toList.take off++l).length=off+kk:=by rw[asx,asH,Array.length_toList,hl,hcs];omega
 rw[List.take_append,List.take_of_length_le (by rw[hlen];omega),hlen,List.take_take,Nat.min_eq_left (by omega),List.drop_take]
theorem YF{D:TD}{g off:Nat}{kk:List Rw→Prop}(M:bg B w0 w bs rs)(h:stR B w0 rs D g off v kk){ty:TypeId}(hD:jI Tryz.prog ty D=true)(hw:Region.wanted o (yielded ops a.tmps)=true){x y:Operand}(ho:o.op=.store ty x y)(hx:a.eval x=.pointer (some ⟨g,off,none⟩))(hy:a.eval y=v)(hd:o.dst=none)
 (next:∀ rs' w',bg B w0 w' bs rs'→kk rs'→wpList Tryz.prog ops Q rest a w'):wpList Tryz.prog ops Q (o::rest) a w:=by
 obtain⟨i,j,e,n,cap,xs,⟨hi,hoff,hj⟩,h1,hW,h⟩:=h;obtain⟨h2,h3⟩:=iz h;have h4:=yG h3;obtain⟨g',cap',cur,hv,hg,hH,hn,hm,hs,ht⟩:=tH (M.r i hi) (Nat.zero_lt_of_lt hj);injection hv with e1 e2 e3;injection e1 with e1;injection e1 with e1;subst e1 e3
 have hfit:off+(bh v).length≤cur.size:=by
  have h5:off+iV D≤n*iV D:=by rw[hoff,← Nat.succ_mul];exact asI _ hj
  rw[h2,hs];exact asz h5 (asI _ hn)
 exact oK hw ho hx hy hH (kN v) hfit ((yD hD).trans (by rw[h2])) h1 rfl hd fun w' s h'=>next _ w' (M.grow i hi (Vz hg hn hm hs ht hoff hj h2 h') s.grown (.inl rfl) hW) h4
theorem YG{D:TD}{g off:Nat}{kk:List Bx→Prop}(M:bg B w0 w bs rs)(h:stK B w0 bs D g off v kk){ty:TypeId}(hD:jI Tryz.prog ty D=true)(hw:Region.wanted o (yielded ops a.tmps)=true){x y:Operand}(ho:o.op=.store ty x y)(hx:a.eval x=.pointer (some ⟨g,off,none⟩))(hy:a.eval y=v)(hd:o.dst=none)
 (next:∀ bs' w',bg B w0 w' bs' rs→kk bs'→wpList Tryz.prog ops Q rest a w'):wpList Tryz.prog ops Q (o::rest) a w:=by
 obtain⟨i,h⟩:=h;obtain⟨⟨b,T,cs⟩,hb,h⟩:=gF h;obtain⟨hT,h⟩:=bH h
 have key:(b=g∧(bh v).all (·.oneCell')=true)→(Nat.beq T 52=false∨w0.heap.size≤B)→pQ (bh v) (iV D) (Gu cs.toList off (bh v) fun cs'=>zH bs i (b,T,cs'.toArray) kk)→wpList Tryz.prog ops Q (o::rest) a w:=by
  rintro⟨rfl,h1⟩ hW h;obtain⟨h2,h3⟩:=iz h;obtain⟨h4,h5⟩:=Vc h3;have h6:=yG h5;rw[Array.length_toList] at h4
  have hsp:splice cs off (bh v)=(cs.toList.take off++bh v++cs.toList.drop (off+(bh v).length)).toArray:=by
   apply Array.toList_inj.1;rw[jC _ _ _ h4]
  refine oK hw ho hx hy (M.b i hb hT) (kN v) h4 ((yD hD).trans (by rw[h2])) h1 hsp hd fun w' s h'=>next _ w' (M.sto i hb s h' hT hW) h6
 cases hq:Nat.beq T 52 with
 | true=>
  rw[hq] at h;obtain⟨⟨h1,h2⟩,h3⟩:=h;exact key h1 (.inr h2) h3
 | false=>
  rw[hq] at h;exact key h.1 (.inl hq) h.2
end
theorem zk(off:Nat):∀ (l:List Value) (j:Nat) (cs:Array Value),(l.zipIdx j).foldl (fun cs (c,j)=>cs.setIfInBounds (off+j) c) cs=splice cs (off+j) l
 | [],_,_=>rfl
 | v::r,j,cs=>by
  rw[List.zipIdx_cons,List.foldl_cons,zk off r (j+1)];rfl
def AF:Nat→List Value→List (Nat×Value)
 | _,[]=>[]
 | i,v::r=>(i,v)::AF (i+1) r
theorem zD(cs:Array Value):∀ (o:Nat) (l r:List Value),splice (splice cs o l) (o+l.length) r=splice cs o (l++r)
 | _,[],_=>rfl
 | o,v::l,r=>by
  show splice (splice (cs.setIfInBounds o v) (o+1) l) (o+(l.length+1)) r=splice (cs.setIfInBounds o v) (o+1) (l++r);rw[← zD _ (o+1) l r];congr 1;omega
theorem Ij(k:Nat):∀ (vs:List Value) (i:Nat) (cells:Array Value),(∀ v∈vs,v.cells.size=k)→(i+vs.length)*k≤cells.size →
 Instr.fill (fun i=>some (i*k,k)) cells (AF i vs)=some (splice cells (i*k) (vs.flatMap fun v=>v.cells.toList))
 | [],_,_,_,_=>rfl
 | v::r,i,cells,h,hs=>by
  have hv:=h v (asC ..)
  have hk:i*k+k≤cells.size:=by
   refine asz ?_ hs;rw[← Nat.succ_mul];exact asI _ (by simp)
  have hst:v.cells.zipIdx.foldl (fun cs (c,j)=>cs.setIfInBounds (i*k+j) c) cells=splice cells (i*k) v.cells.toList:=by
   rw[← Array.foldl_toList,Array.toList_zipIdx];exact zk (i*k) v.cells.toList 0 cells
  show(if v.cells.size≠k||i*k+v.cells.size>cells.size then none else Instr.fill (fun i=>some (i*k,k)) (v.cells.zipIdx.foldl (fun cs (c,j)=>cs.setIfInBounds (i*k+j) c) cells) (AF (i+1) r))=_
  rw[hst,if_neg (by rw[hv];simp;omega),Ij k r (i+1) _ (fun u hu=>h u (asB _ hu)) (by
   rw[wQ];refine asz (Nat.le_of_eq ?_) hs;congr 1;simp only[List.length_cons];omega)]
  rw[List.flatMap_cons,← zD];have:(i+1)*k=i*k+v.cells.toList.length:=by rw[Nat.succ_mul,Array.length_toList,hv]
  rw[this]
theorem Fk{kk:Nat}:∀ {vs:List Value} {f:List Value→Prop},WD kk vs f→f (vs.flatMap fun v=>v.cells.toList)∧∀ v∈vs,v.cells.size=kk
 | [],_,h=>⟨h,by simp⟩
 | v::r,f,h=>by
  have h1:=uo h;obtain⟨h2,h3⟩:=iz h1;obtain⟨h4,h5⟩:=Fk h3;refine⟨by rw[List.flatMap_cons];exact jk h4,fun u hu=>?_⟩;rcases aso.1 hu with rfl|hu
  ·simpa using h2
  ·exact h5 u hu
theorem Cw{a:Act}:∀ {i:Nat} {ps:List (Nat×Operand)} {vs:List Value},rI i ps=true→uP a (ps.map (·.2)) vs→ps.map (fun(i,x)=>(i,a.eval x))=AF i vs
 | _,[],_,_,h=>by cases h;rfl
 | i,(j,x)::r,vs,hp,h=>by
  cases h with
  | cons h1 h2=>
   unfold rI at hp
   cases hb:Nat.beq i j with
   | false=>rw[hb] at hp;cases hp
   | true=>
    rw[hb] at hp;rw[List.map_cons,Cw hp h2,← asJ hb];simp only[AF,h1]
theorem Wv{a:Act}{xs:List Operand}{vs:List Value}(h:uP a xs vs):vs.length=xs.length:=by
 rw[← tU h,List.length_map]
section
variable {ops:Array Oper} {a:Act} {N:Nat} {l:Slots} {m:List fP} {n:Nat} {o:Oper} {B:Nat} {w0 w:World} {bs:List Bx} {rs:List Rw} {k:List fP→List Bx→List Rw→World→Prop} {rest:List Oper} {Q:Exit→Act→World→Prop}
theorem qq{ty len e kk QE:Nat}{parts:Array (Nat×Operand)}(ho:o.op=.buildSlice ty len parts)(hD:jI Tryz.prog ty (.sl e kk QE)=true)(hp:rI 0 parts.toList=true)(hl:parts.toList.length=len)(h0:0<len*kk)(h1:len*kk≤2^24)
 {vs:List Value} (ny:uP a (parts.toList.map (·.2)) vs) (hc:∀ v∈vs,v.cells.size=kk) :
 (execOp a.eval o).run Tryz.prog w=.ok (.value (.slice (some ⟨w.heap.size,0,none⟩) len len)) (w.alloc (.cells (vs.flatMap fun v=>v.cells.toList).toArray e)):=by
 obtain⟨hu,hi⟩:=Gi hD;obtain⟨ti,z,i1,i2,i3,i4,i5⟩:=mG hi;have hvl:vs.length=len:=by rw[Wv ny,List.length_map,hl]
 have hcl:(vs.flatMap fun v=>v.cells.toList).length=len*kk:=by
  rw[← hvl];clear ny hvl
  induction vs with
  | nil=>simp
  | cons v r ih=>
   rw[List.flatMap_cons,asx,ih (fun u hu=>hc u (asB _ hu)),Array.length_toList,hc v (asC ..),List.length_cons,Nat.succ_mul,Nat.add_comm]
 refine kB (z:=z) (pv:=(AF 0 vs).toArray) ho hu (Ag hi) (by rw[i1];exact i2) h1 h0 ?_ ?_
 ·apply Array.toList_inj.1;rw[Array.toList_map];exact Cw hp ny
 ·have hsz:((Array.range (len*kk)).map (z.cells[·%z.cells.size]!)).size=len*kk:=by simp
  show Instr.fill _ _ (AF 0 vs)=_;rw[Ij kk vs 0 _ hc (by rw[hsz,Nat.zero_add,hvl];exact Nat.le_refl _),Nat.zero_mul,iG _ _ (by rw[hsz,hcl])]
theorem DC(I:Inv ops a N l m n)(M:bg B w0 w bs rs)(ho:ops[n]?=some o)(h:Ro B w0 N l o n m bs rs w k)
 (next:∀ a' m' bs' rs' w',Inv ops a' N l m' (n+1)→bg B w0 w' bs' rs'→k m' bs' rs' w'→wpList Tryz.prog ops Q rest a' w'):wpList Tryz.prog ops Q (o::rest) a w:=by
 obtain⟨π,t,h,hp,ht,hw,h0⟩:=adZ I h
 have hval:∀ {d:Nat} {v:Value},o.dst=some d→Nat.blt d N=true→jx d m=true→(t=true→(execOp a.eval o).run Tryz.prog w=.ok (.value v) w)→k (⟨d,n,π,t,v⟩::m) bs rs w→wpList Tryz.prog ops Q (o::rest) a w:=
  fun hd hN hfr hr hk=>afr hw hr hd I.fr hN fun a' p=>next a' _ _ _ _ (I.put ho hd hfr hp ht p) M hk
 have SF:∀ {op:Op} {d:Nat},o.op=op→o.dst=some d→Nat.blt d N=true→jx d m=true→pop l m π t (fun v=>k (⟨d,n,π,t,v⟩::m) bs rs w) op→wpList Tryz.prog ops Q (o::rest) a w:=fun hop hd hN hfr h=>by
  obtain⟨v,h1,h2⟩:=Kk I.L ht h;exact hval hd hN hfr (fun bF=>h2 a w o hop (fun x _ π' v h hc=>I.E h hc) bF) h1
 have hnew:∀ {d:Nat} {f:Nat→Value} {ty:TypeId} {cs:Array Value},π=[]→Nat.blt ty 9000=true→(execOp a.eval o).run Tryz.prog w=.ok (.value (f w.heap.size)) (w.alloc (.cells cs ty))→o.dst=some d→Nat.blt d N=true→jx d m=true →
  (∀ g w',bg B w0 w' ((g,ty,cs)::bs) rs→k (⟨d,n,[],true,f g⟩::m) ((g,ty,cs)::bs) rs w')→wpList Tryz.prog ops Q (o::rest) a w:=fun hπ hty hr hd hN hfr hk=>
  zn (hw.trans (h0 hπ)) hr hd I.fr (by simpa using hN) fun g a' w' nn p=>next a' _ _ _ _ (I.put (t:=true) ho hd hfr (by simp) (by simp) p) (M.new nn hty) (hk g w' (M.new nn hty))
 split at h
 ·rename_i ty x hop;obtain⟨d,hd,hN,hfr,h⟩:=iu h;obtain⟨u,h1,h⟩:=cq h;rcases nI h with⟨g,off,rfl,hq⟩|h
  case inr=>
   obtain⟨h2,h3⟩:=Tl h;exact hval hd hN hfr (fun bF=>(h2 bF).elim) h3
  obtain⟨D,hD,h⟩:=jH hq;obtain⟨v,h2,h3⟩:=R_ M h hD;exact hval hd hN hfr (fun bF=>h3 bF w (Below.refl _ _) a o x hop (I.E h1 (ht.1 bF))) h2
 ·rename_i ty x y hop;obtain⟨rfl,h⟩:=mq h;obtain rfl:=h0 rfl;split at h
  ·rename_i hd;rcases h with h|h|h
   ·obtain⟨u,h1,h⟩:=cq h;obtain⟨v,h2,h⟩:=cq h;rcases nI h with⟨g,off,rfl,hq⟩|h
    case inr=>exact h.elim
    obtain⟨D,hD,h⟩:=jH hq;exact YG M h hD hw hop (I.E h1 (by simp)) (I.E h2 (by simp)) hd fun bs' w' M' h=>next a _ _ _ _ I.next M' (h w' M')
   ·obtain⟨u,h1,h⟩:=cq h;obtain⟨v,h2,h⟩:=cq h;rcases nI h with⟨g,off,rfl,hq⟩|h
    case inr=>exact h.elim
    obtain⟨D,hD,h⟩:=jH hq;exact YF M h hD hw hop (I.E h1 (by simp)) (I.E h2 (by simp)) hd fun rs' w' M' h=>next a _ _ _ _ I.next M' (h w' M')
   ·exact Uq I ho hw h next
  ·exact h.elim
 ·rename_i ty hop;obtain⟨hπ,h⟩:=mq h;obtain⟨d,hd,hN,hfr,z,hz,h⟩:=iu h;obtain⟨hty,h⟩:=bH h;exact hnew (f:=fun n=>.pointer (some ⟨n,0,none⟩)) hπ hty (tY hop hz) hd hN hfr (uo h)
 ·rename_i ty x hop;obtain⟨hπ,h⟩:=mq h;subst hπ;obtain⟨d,hd,hN,hfr,h⟩:=iu h;obtain⟨u,h1,h⟩:=cq h;obtain⟨hty,h⟩:=bH h;exact hnew (f:=fun n=>.pointer (some ⟨n,0,none⟩)) rfl hty (Nx hop (I.E h1 (by simp))) hd hN hfr (uo h)
 ·rename_i ty len parts hop;obtain⟨hπ,h⟩:=mq h;subst hπ;obtain⟨d,hd,hN,hfr,h⟩:=iu h;obtain⟨D,hD,h⟩:=jH h;split at h
  ·obtain⟨hps,h⟩:=bH h;obtain⟨hl,h⟩:=iz h;obtain⟨b0,h⟩:=bH h;obtain⟨b1,h⟩:=bH h;obtain⟨b2,h⟩:=bH h;obtain⟨vs,h1,h⟩:=j4 h;obtain⟨h2,h3⟩:=Fk h;exact hnew (f:=fun n=>.slice (some ⟨n,0,none⟩) len len) rfl b2 (qq hop hD hps hl (by simpa using b0) (by simpa using b1) (I.evs h1 (by simp)) h3) hd hN hfr h2
  ·exact h.elim
 ·rename_i c hop;split at h
  ·rename_i f pS;obtain⟨vs,h1,h⟩:=j4 h;refine X8 I M ho hp ht hw h0 h (fun bF hok=>?_) next
   have e3:c={ callee:=.value (.func f),args:=c.args,argTypes:=c.argTypes }:=by cases c;simp only at pS;rw[pS]
   exact qx hok (hop.trans (congrArg Op.call e3)) (jA (I.evs h1 (ht.1 bF)))
  ·rename_i y hy pS;obtain⟨u,h1,h⟩:=cq h;split at h
   ·rename_i f first cap
    obtain⟨vs,h2,h⟩:=j4 h;have h:=jk (jk h);refine X8 I M ho hp ht hw h0 h (fun bF hok=>?_) next
    have e3:c={ callee:=.value y,args:=c.args,argTypes:=c.argTypes }:=by cases c;simp only at pS;rw[pS]
    refine GU hok (hop.trans (congrArg Op.call e3)) (I.E h1 (ht.1 bF)) ?_;rw[jA (I.evs h2 (ht.1 bF))];apply Array.toList_inj.1;simp
   ·exact h.elim
  ·rename_i pS;obtain⟨rfl,h⟩:=mq h;obtain rfl:=h0 rfl;split at h
   ·rename_i s x hargs;split at h
    ·rename_i ty ty' agy;obtain⟨hty,hq⟩:=bH h;obtain rfl:=asJ hty;obtain⟨d,hd,hN,hfr,h⟩:=iu hq;obtain⟨v,h1,h⟩:=cq h;obtain⟨u,h2,h⟩:=cq h;obtain⟨D,hD,h⟩:=jH h;split at h
     ·rename_i e kk QE;obtain⟨hkk,P6,OG,i,nn,xs,mm,news,hM,Zk,hsl,h63,hW,h⟩:=bH h;have e1:c.args=#[s,x]:=Array.toList_inj.1 hargs;have e2:c.argTypes=#[ty,ty]:=Array.toList_inj.1 agy;have e3:c={ callee:=.builtin .append,args:=#[s,x],argTypes:=#[ty,ty] }:=by cases c;simp only at pS e1 e2;rw[pS,e1,e2]
      obtain⟨hu,hi⟩:=Gi hD;exact kpP hw (hop.trans (congrArg Op.call e3)) hu hi hkk (hM M) i Zk (I.E h1 (by simp)) (I.E h2 (by simp)) hsl h63 hd I.fr hN (fun v' a' w' p M'=>next a' _ _ _ _ (I.put (t:=true) (v:=v') ho hd hfr (by simp) (by simp) p) M' (yG (h v' w') M')) hW
     ·exact h.elim
    ·exact h.elim
   ·exact h.elim
  ·obtain⟨d,hd,hN,hfr,h⟩:=iu h;exact SF hop hd hN hfr h
  ·obtain⟨rfl,h⟩:=mq h;obtain rfl:=h0 rfl;exact Uq I ho hw h next
 all_goals first
  | (obtain⟨rfl,h⟩:=mq h
     obtain rfl:=h0 rfl;exact Uq I ho hw h next)
  | (obtain⟨d,hd,hN,hfr,h⟩:=iu h
     exact SF rfl hd hN hfr h)
theorem Xd{K:Slots→List Bx→List Rw→World→Prop}:∀ {L:List Oper} {n:Nat} {a:Act} {m:List fP} {bs:List Bx} {rs:List Rw} {w:World},(∀ i o,L[i]?=some o→ops[n+i]?=some o)→Inv ops a N l m n→bg B w0 w bs rs→vc B w0 N l L n m bs rs w K →
 (∀ a l' bs' rs' w',Fs a N l'→bg B w0 w' bs' rs'→K l' bs' rs' w'→Q .normal a w')→wpList Tryz.prog ops Q L a w
 | [],_,_,_,_,_,_,_,I,M,h,next=>by
  obtain⟨l',h1,F⟩:=I.fsK h;exact asF (next _ _ _ _ _ F M h1)
 | o::r,n,_,_,_,_,_,qJ,I,M,h,next=>by
  refine DC I M (by simpa using qJ 0 o rfl) h fun a' m' bs' rs' w' I' M' h'=>?_
  exact Xd (fun i o hi=>by have:=qJ (i+1) o (by simpa using hi);rwa [show n+1+i=n+(i+1) by omega]) I' M' h' next
theorem Dr{K:Slots→List Bx→List Rw→World→Prop}{C:Act→World→Prop}:∀ {L:List Oper} {n:Nat} {a:Act} {m:List fP} {bs:List Bx} {rs:List Rw} {w:World},(∀ i o,L[i]?=some o→ops[n+i]?=some o)→Inv ops a N l m n→bg B w0 w bs rs→vc B w0 N l L n m bs rs w K →
 (∀ a l' bs' rs' w',Fs a N l'→bg B w0 w' bs' rs'→K l' bs' rs' w'→C a w')→dh Tryz.prog ops C L a w
 | [],_,_,_,_,_,_,_,I,M,h,next=>by
  obtain⟨l',h1,F⟩:=I.fsK h;exact next _ _ _ _ _ F M h1
 | o::r,n,_,_,_,_,_,qJ,I,M,h,next=>by
  intro Q' hQ;refine DC I M (by simpa using qJ 0 o rfl) h fun a' m' bs' rs' w' I' M' h'=>?_
  exact asF (hQ _ _ (Dr (fun i o hi=>by have:=qJ (i+1) o (by simpa using hi);rwa [show n+1+i=n+(i+1) by omega]) I' M' h' next))
end
def blk:Value→Option Nat
 | .pointer (some p)=>some p.block
 | .slice (some p) _ _=>some p.block
 | _=>none
def aem(w:World)(v:Value):Prop:=∀ b,blk v=some b→w.heap.size≤b
def Far(v u:Value):Prop:=∀ b,blk v=some b→blk u≠some b
theorem Far.symm{v u:Value}(h:Far v u):Far u v:=fun b hb hv=>h b hv hb
section
variable {Q':Exit→Act→World→Prop} {a:Act} {w:World} {g:Good} {s:Nat} {p:Prop}
theorem pa(hP:∀ v a' w',asD w.heap.size w w'→g v w'→(p→aem w v)→Put a s v a'→Q' .normal a' w'):∀ v a' w',asD w.heap.size w w'→(fun v u=>g v u∧aem w v:Good) v w'→Put a s v a'→Q' .normal a' w':=fun v a' w' h1 h2 h3=>hP v a' w' h1 h2.1 (fun _=>h2.2) h3
end
def acV(o:Oper):Nat:=match o.op with
 | .assign _=>3
 | .move _|.pick _ _ _|.nilCheck _|.load _ _|.binOp _ _ _ _ _|.unOp _ _ _|.fieldAddr _ _ _|.indexAddr _ _ _|.index _ _ _|.extract _ _|.convert _ _ _|.makeFunc _ _ _|.build _ _|.field _ _ _|.buildSlice _ _ _|.slice _ _ _ _ _=>0
 | .alloc _|.box _ _=>1
 | .call c=>(match c.callee with|.value _=>0|.builtin .len=>0|.builtin .min=>0|.builtin .max=>0|_=>2)
 | _=>2
def lK(d:Nat):List Operand→Bool
 | []=>false
 | .tmp q::r=>bif Nat.beq d q then true else lK d r
 | _::r=>lK d r
def Xj(o:Oper):List (List Operand)→Bool
 | []=>false
 | x::r=>(match o.dst with|some d=>bif lK d x then true else Xj o r|none=>false)
def dkN:Bool→List (List Operand)→List Oper→Nat
 | _,_,[]=>0
 | u,seen,o::r=>match acV o with
  | 0=>dkN u (ij o.op::seen) r+1
  | 1=>(match u with|true=>0|false=>dkN true (ij o.op::seen) r+1)
  | 3=>bif Xj o seen then 0 else dkN u (ij o.op::seen) r+1
  | _=>0
def gX(k:Nat)(L:List Oper):List Nat:=(L.take k).filterMap (·.dst)
def aar(slots:List Nat)(o:Oper):Operand→Bool
 | .tmp q=>!slots.contains q||o.after.toList.any fun e=>Region.binds .any e&&(slots[e.on]? == some q)
 | _=>true
def Ez(slots:List Nat)(o:Oper):Bool:=(ij o.op).all (aar slots o)&&(match o.guard with
 | none=>true
 | some (j,_)=>o.after.toList.any fun e=>Region.binds .any e&&(e.on == j))
def aec(N:Nat)(L:List Oper)(k:Nat):Bool:=
 ordered 0 L&&(vg k L&&((L.take k).all (fun o=>o.dst.isSome)&&((L.take k).all (Ez (gX k L))&&((gX k L).all (fun s=>decide (s<N))&&decide (gX k L).Nodup))))
def UE(ds:List Nat):Slots→(Slots→Prop)→Prop
 | [],f=>f []
 | (s,v)::r,f=>bif jr s ds then UE ds r f else UE ds r fun l=>f ((s,v)::l)
theorem mW{x:Nat}{l:List Nat}:jr x l=true↔x∈l:=by
 induction l with
 | nil=>simp[jr]
 | cons y r ih=>
  unfold jr
  cases h:Nat.beq x y with
  | true=>simp[asJ h]
  | false=>
   have hne:x≠y:=fun e=>by rw[e,Nat.beq_refl] at h;cases h
   simp[ih,hne]
theorem Ar{ds:List Nat}:∀ {l:Slots} {f:Slots→Prop},UE ds l f→∃ l',f l'∧∀ q,look q l'=bif jr q ds then none else look q l
 | [],f,h=>⟨[],h,fun q=>by cases jr q ds<;>rfl⟩
 | (s,v)::r,f,h=>by
  unfold UE at h
  cases hm:jr s ds with
  | true=>
   rw[hm] at h;obtain⟨l',h1,h2⟩:=Ar h;refine⟨l',h1,fun q=>?_⟩;rw[h2,bG]
   cases hq:jr q ds with
   | true=>rfl
   | false=>
    have:(q == s)=false:=by
     cases e:q == s with
     | false=>rfl
     | true=>have e':q=s:=by simpa using e
             rw[e',hm] at hq;cases hq
    rw[this];rfl
  | false=>
   rw[hm] at h;obtain⟨l',h1,h2⟩:=Ar h;refine⟨_,h1,fun q=>?_⟩;rw[bG,bG,h2]
   cases e:q == s with
   | false=>rfl
   | true=>
    have e':q=s:=by simpa using e
    rw[e',hm];rfl
structure AlD where
 d:Nat
 j:Nat
 ty:TypeId
 cs:Array Value
 sl:Option Nat
structure kC where
 d:Nat
 j:Nat
 R:Value→World→Prop
def alV(s:Option Nat)(g:Nat):Value:=match s with
 | none=>.pointer (some ⟨g,0,none⟩)
 | some len=>.slice (some ⟨g,0,none⟩) len len
section
variable (B:Nat) (w0:World) (N:Nat) (l:Slots) (bs:List Bx) (rs:List Rw) (w:World) (K:Slots→List Bx→List Rw→World→Prop)
def cD(o:Oper)(n:Nat)(m:List fP)(π:Pa)(t:Bool)(f:FuncId)(vs:List Value)(k:fP→Prop):Prop:=bif jr f QF then False else bif Nat.blt f NF then dK N m o.dst fun d=>∃ v,ob π t (∀ w',asD w.heap.size w w'→bg B w0 w' bs rs→Calls Tryz.prog f vs.toArray w' fun e w''=>e=.returned v∧asD w'.heap.size w' w'') (k ⟨d,n,π,t,v⟩)
 else False
def gR(π:Pa)(t:Bool)(R:Value→World→Prop):Value→World→Prop:=match π with
 | []=>R
 | _::_=>fun v w=>t=true→R v w
def cRl(o:Oper)(n:Nat)(m:List fP)(π:Pa)(t:Bool)(f:FuncId)(vs:List Value)(k:kC→Prop):Prop:=bif jr f QF then False else bif Nat.blt f NF then dK N m o.dst fun d=>∃ R:Value→World→Prop,eN R∧ob π t (∀ w',asD w.heap.size w w'→bg B w0 w' bs rs→Calls Tryz.prog f vs.toArray w' fun e w''=>∃ v,e=.returned v∧(R v w''∧asD w'.heap.size w' w'')) (k ⟨d,n,gR π t R⟩)
 else False
def aaz(R:World→Prop)(P:Option (World→Prop)):Option (World→Prop):=match P with
 | none=>some R
 | some P=>some fun w=>R w∧P w
def Ph(P:Option (World→Prop))(w:World)(q:Prop):Prop:=match P with
 | none=>q
 | some P=>P w→q
def Kf(xs:List Operand):List kC→List fP→Option (World→Prop)→(List fP→Option (World→Prop)→Prop)→Prop
 | [],m,P,f=>f m P
 | ⟨d,j,R⟩::r,m,P,f=>bif lK d xs then ∀ u,Kf xs r (⟨d,j,[],true,u⟩::m) (aaz (R u) P) f else Kf xs r m P f
def Kg(xs:List Operand):List kC→(List kC→Prop)→Prop
 | [],f=>f []
 | ⟨d,j,R⟩::r,f=>bif lK d xs then Kg xs r f else Kg xs r fun r'=>f (⟨d,j,R⟩::r')
def RE(xs:List Operand):List kC→Bool
 | []=>false
 | A::r=>bif lK A.d xs then true else RE xs r
def cU(o:Oper)(n:Nat)(m:List fP)(π:Pa)(t:Bool)(f:FuncId)(xs:List Operand)(rel:List kC)(k:fP→List kC→Prop):Prop:=bif jr f QF then False else bif Nat.blt f NF then bif RE xs rel then dK N m o.dst fun d=>∃ v,Kf xs rel m none (fun m' P=>Mz l m' π xs fun vs=>(t=true→∀ w',asD w.heap.size w w'→bg B w0 w' bs rs→Ph P w' (Calls Tryz.prog f vs.toArray w' fun e w''=>e=.returned v∧asD w'.heap.size w' w'')))∧Kg xs rel fun r=>k ⟨d,n,π,t,v⟩ r
 else False else False
def cV(o:Oper)(n:Nat)(m:List fP)(π:Pa)(t:Bool)(f:FuncId)(xs:List Operand)(rel:List kC)(k:List kC→Prop):Prop:=bif jr f QF then False else bif Nat.blt f NF then bif RE xs rel then dK N m o.dst fun d=>∃ R':Value→World→Prop,eN R'∧Kf xs rel m none (fun m' P=>Mz l m' π xs fun vs=>(t=true→∀ w',asD w.heap.size w w'→bg B w0 w' bs rs→Ph P w' (Calls Tryz.prog f vs.toArray w' fun e w''=>∃ v,e=.returned v∧(R' v w''∧asD w'.heap.size w' w''))))∧Kg xs rel fun r=>k (⟨d,n,gR π t R'⟩::r)
 else False else False
def obI(π:Pa)(t:Bool)(p:Prop):Prop:=match π with
 | []=>p
 | _::_=>t=true→p
theorem YR{π:Pa}{t:Bool}{p:Prop}(h:obI π t p)(ht:t=true):p:=by
 cases π with
 | nil=>exact h
 | cons=>exact h ht
def fD(o:Oper)(n:Nat)(m:List fP)(π:Pa)(t:Bool)(rel:List kC)(k:List kC→Prop):Prop:=dK N m o.dst fun d=>∃ R':Value→World→Prop,eN R'∧Kf (ij o.op) rel m none (fun m' P=>Mz l m' π (ij o.op) fun vs=>obI π t (∀ (w1:World) (a:Act) (o':Oper),asD w.heap.size w w1→bg B w0 w1 bs rs→Ph P w1 (o'.op=o.op→uP a (ij o.op) vs →
  ∃ v w2,(execOp a.eval o').run Tryz.prog w1=.ok (.value v) w2∧R' v w2∧asD w1.heap.size w1 w2)))∧Kg (ij o.op) rel fun r=>k (⟨d,n,gR π t R'⟩::r)
def alN(a:Option AlD)(p:Prop):Prop:=match a with
 | none=>p
 | some _=>False
abbrev Uo:=List Oper→Nat→List fP→Option AlD→List kC→Bool→Prop
def YL:List kC→List fP→Option (World→Prop)→(List fP→Option (World→Prop)→Prop)→Prop
 | [],m,P,f=>f m P
 | ⟨d,j,R⟩::r,m,P,f=>bif jx d m then ∀ u,YL r (⟨d,j,[],true,u⟩::m) (aaz (R u) P) f else False
def vF:Uo:=fun L n m al rel _=>YL rel m none fun m' P=>match al with
 | none=>∀ w',Ph P w' (asD w.heap.size w w'→bg B w0 w' bs rs→vc B w0 N l L n m' bs rs w' K)
 | some ⟨d,j,ty,cs,s⟩=>bif jx d m' then ∀ g w',Ph P w' (asD w.heap.size w w'→bg B w0 w' ((g,ty,cs)::bs) rs→vc B w0 N l L n (⟨d,j,[],true,alV s g⟩::m') ((g,ty,cs)::bs) rs w' K) else False
section
variable (F:Uo)
def vd:Nat→List Oper→Nat→List fP→Option AlD→List kC→Bool→Prop
 | 0,L,n,m,al,rel,us=>F L n m al rel us
 | _+1,[],_,_,_,_,_=>False
 | k+1,o::r,n,m,al,rel,us=>gK m o.guard fun π t=>match o.op with
  | .load ty x=>dK N m o.dst fun d=>pI l m π x fun u=>DQ u (yV π t fun v=>vd k r (n+1) (⟨d,n,π,t,v⟩::m) al rel us) fun g off=>Bz ty (fun D=>ldK π t bs w D g off fun v=>vd k r (n+1) (⟨d,n,π,t,v⟩::m) al rel us) TT
  | .alloc ty=>Qx π (alN al (dK N m o.dst fun d=>∃ z,(Tryz.prog.info? ty).bind (·.zero)=some z∧bif Nat.blt ty 9000 then P0 z fun cs=>vd k r (n+1) m (some ⟨d,n,ty,cs,none⟩) rel us else False))
  | .box ty x=>Qx π (alN al (dK N m o.dst fun d=>pI l m π x fun u=>bif Nat.blt ty 9000 then P0 u fun cs=>vd k r (n+1) m (some ⟨d,n,ty,cs,none⟩) rel us else False))
  | .buildSlice ty len parts=>(Qx π (alN al (dK N m o.dst fun d=>Bz ty (fun D=>match D with
   | .sl e kk _=>bif rI 0 parts.toList then pQ parts.toList len (bif Nat.blt 0 (len*kk) then bif Nat.ble (len*kk) 16777216 then bif Nat.blt e 9000 then Mz l m π (parts.toList.map (·.2)) fun vs=>WD kk vs fun cs=>vd k r (n+1) m (some ⟨d,n,e,cs.toArray,some len⟩) rel us
    else False else False else False) else False
   | _=>False) TT))∨fD B w0 N l bs rs w o n m π t rel (fun rel=>vd k r (n+1) m al rel true))
  | .call c=>(match c.callee with
   | .value (.func f)=>(Mz l m π c.args.toList fun vs=>cD B w0 N bs rs w o n m π t f vs fun e=>vd k r (n+1) (e::m) al rel us) ∨
    cU B w0 N l bs rs w o n m π t f c.args.toList rel (fun e rel=>vd k r (n+1) (e::m) al rel us) ∨
    (Mz l m π c.args.toList fun vs=>cRl B w0 N bs rs w o n m π t f vs fun A=>vd k r (n+1) m al (A::rel) true) ∨
    cV B w0 N l bs rs w o n m π t f c.args.toList rel (fun rel=>vd k r (n+1) m al rel true)
   | .value y=>pI l m π y fun u=>(match u with
    | .func (.func f) first cap=>Mz l m π c.args.toList fun vs=>rZ first.toList vs fun xs=>rZ xs cap.toList fun ys=>cD B w0 N bs rs w o n m π t f ys fun e=>vd k r (n+1) (e::m) al rel us
    | _=>False)
   | _=>dK N m o.dst fun d=>pop l m π t (fun v=>vd k r (n+1) (⟨d,n,π,t,v⟩::m) al rel us) (.call c))
  | op=>bif RE (ij op) rel then fD B w0 N l bs rs w o n m π t rel (fun rel=>vd k r (n+1) m al rel true) else dK N m o.dst fun d=>pop l m π t (fun v=>vd k r (n+1) (⟨d,n,π,t,v⟩::m) al rel us) op
end
end
structure FE (slots:List Nat) (gp:List Good) (m:List fP) (n:Nat):Prop where
 L:jm m n
 len:gp.length=n
 at_:∀ e∈m,slots[e.j]?=some e.s∧gp[e.j]?=some (bL (gd e.t e.v))
theorem FE.put{slots:List Nat}{gp:List Good}{m:List fP}{n:Nat}(D:FE slots gp m n){d:Nat}(hs:slots[n]?=some d){π:Pa}(hp:∀ x∈π,∃ e∈m,e.j=x.1){t:Bool}(ht:t=true↔∀ x∈π,Cond m x){v:Value}:FE slots (gp++[bL (gd t v)]) (⟨d,n,π,t,v⟩::m) (n+1):=by
 refine⟨D.L.put hp ht,by simp[D.len],fun e he=>?_⟩;rcases aso.1 he with rfl|he
 ·exact⟨hs,by simp[← D.len]⟩
 ·obtain⟨h1,h2⟩:=D.at_ e he;exact⟨h1,by rw[asK (asn.1 h2).1];exact h2⟩
theorem FE.skip{slots:List Nat}{gp:List Good}{m:List fP}{n:Nat}(D:FE slots gp m n)(g:Good):FE slots (gp++[g]) m (n+1):=
 ⟨D.L.mono (Nat.le_succ n),by simp[D.len],fun e he=>⟨(D.at_ e he).1,by rw[asK (asn.1 (D.at_ e he).2).1];exact(D.at_ e he).2⟩⟩
theorem pK{d:Nat}:∀ {xs:List Operand},lK d xs=true→Operand.tmp d∈xs
 | .tmp q::r,h=>by
  unfold lK at h
  cases hb:Nat.beq d q with
  | true=>rw[asJ hb];exact asC ..
  | false=>rw[hb] at h;exact asB _ (pK h)
 | .const _::r,h=>asB _ (pK h)
 | .global _::r,h=>asB _ (pK h)
 | .func _::r,h=>asB _ (pK h)
theorem Ey{slots:List Nat}{o:Oper}(jR:Ez slots o=true)(hnd:slots.Nodup){j d:Nat}(hj:slots[j]?=some d)(hx:Operand.tmp d∈ij o.op):∃ gr,(⟨j,gr⟩:Edge)∈o.after.toList∧Region.binds .any ⟨j,gr⟩=true:=by
 unfold Ez at jR;rw[asG,asq] at jR;have h3:=jR.1 _ hx;simp only[aar] at h3;have h5:slots.contains d=true:=by simpa using asr hj
 rw[h5,Bool.not_true,Bool.false_or,List.any_eq_true] at h3;obtain⟨ed,h6,h7⟩:=h3;rw[asG,beq_iff_eq] at h7;have h8:ed.on=j:=kV hnd h7.2 hj;obtain⟨on,gr⟩:=ed;simp only at h8;subst h8;exact⟨gr,h6,h7.1⟩
theorem Wu{l:Slots}{m:List fP}{π:Pa}{a:Act}{xs:List Operand}{vs:List Value}(h:Bm (Db l m π) xs vs)(E:∀ x∈xs,∀ v,Db l m π x v→a.eval x=v):uP a xs vs:=by
 induction h with
 | nil=>exact .nil
 | cons h1 _ ih=>exact .cons (E _ (asC ..) _ h1) (ih fun x hx=>E x (asB _ hx))
theorem Iu{slots:List Nat}{gp G':List Good}{m:List fP}{n:Nat}(D:FE slots gp m n)(hnd:slots.Nodup){ops:Array Oper}(qJ:∀ (i:Nat) (s:Nat),slots[i]?=some s→(ops[i]?).bind (fun o=>o.dst)=some s){o:Oper}(jR:Ez slots o=true){l:Slots}(hl:∀ q v,look q l=some v→slots.contains q=false){a a0:Act}{N:Nat}(F0:Fs a0 N l){w:World}
 (CQ:∀ k,(∃ gr,(⟨k,gr⟩:Edge)∈o.after.toList∧Region.binds .any ⟨k,gr⟩=true)→∀ s g,slots[k]?=some s→(gp++G')[k]?=some g→∃ v,At a s v∧g v w)
 (hrest:∀ j u,slots.contains j=false→At a0 j u→At a j u) :
 (∀ x∈ij o.op,∀ π' v,Db l m π' x v→(∀ y∈π',Cond m y)→a.eval x=v) ∧
 ∀ e∈m,(∃ b,o.guard=some (e.j,b))→(ops[e.j]?).bind (·.dst)=some e.s∧At a e.s (gd e.t e.v):=by
 unfold Ez at jR;rw[asG,asq] at jR
 have hat:∀ e∈m,(∃ gr,(⟨e.j,gr⟩:Edge)∈o.after.toList∧Region.binds .any ⟨e.j,gr⟩=true)→At a e.s (gd e.t e.v):=fun e he hk=>by
  obtain⟨h1,h2⟩:=D.at_ e he;obtain⟨v,h3,rfl⟩:=CQ _ hk _ _ h1 (by rw[asK (asn.1 h2).1];exact h2);exact h3
 constructor
 ·intro x hx π' v MZ hc
  cases x with
  | tmp q=>
   rcases MZ with⟨e,he,rfl,rfl,hs⟩|⟨h1,h2⟩
   ·have ht:e.t=true:=(D.L.tv e he).2 fun y hy=>hc y (yF hs y hy)
    refine((hat e he ?_).on ht).ev;have h3:=jR.1 _ hx;simp only[aar] at h3;obtain⟨h4,-⟩:=D.at_ e he;have h5:slots.contains e.s=true:=by simpa using asr h4
    rw[h5,Bool.not_true,Bool.false_or,List.any_eq_true] at h3;obtain⟨ed,h6,h7⟩:=h3;rw[asG,beq_iff_eq] at h7;have h8:ed.on=e.j:=kV hnd h7.2 h4;obtain⟨on,gr⟩:=ed;simp only at h8;subst h8;exact⟨gr,h6,h7.1⟩
   ·exact(hrest q v (hl q v h2) (F0.at_ q v h2)).ev
  | const u=>exact MZ
  | global=>exact MZ.elim
  | func f=>exact MZ
 ·rintro e he ⟨b,hg⟩;refine⟨qJ _ _ (D.at_ e he).1,hat e he ?_⟩;have h3:=jR.2;rw[hg] at h3;simp only[List.any_eq_true,asG,beq_iff_eq] at h3;obtain⟨⟨on,gr⟩,h6,h7,h8⟩:=h3;simp only at h8;subst h8;exact⟨gr,h6,h7⟩
structure Fin (slots:List Nat) (G:List Good) (m:List fP) (al:Option AlD) (rel:List kC) (us:Bool) (n:Nat) (w:World):Prop where
 D:FE slots G m n
 al_:∀ A,al=some A→slots[A.j]?=some A.d∧G[A.j]?=some (Made w (alV A.sl) A.ty A.cs)∧Nat.blt A.ty 9000=true∧A.j<n∧∀ e∈m,e.j≠A.j
 cov:al=none→us=false→∀ i,i<n→∃ e∈m,e.j=i
 Ke:∀ A∈rel,slots[A.j]?=some A.d∧G[A.j]?=some A.R∧A.j<n∧(∀ e∈m,e.j≠A.j)∧∀ C,al=some C→C.j≠A.j
 vC:(rel.map (·.j)).Nodup
section
variable {slots:List Nat} {gp:List Good} {m:List fP} {al:Option AlD} {rel rel':List kC} {us:Bool} {n:Nat} {w:World}
theorem Fin.sub(F:Fin slots gp m al rel us n w)(h:rel'.Sublist rel):Fin slots gp m al rel' us n w:=⟨F.D,F.al_,F.cov,fun A hA=>F.Ke A (h.subset hA),(h.map _).nodup F.vC⟩
theorem A9{g g':Good}{j:Nat}(h:gp[j]?=some g):(gp++[g'])[j]?=some g:=by rw[asK (asn.1 h).1];exact h
theorem Fin.put(F:Fin slots gp m al rel us n w){g:Good}{e0:fP}(h0:e0.j=n)(D:FE slots (gp++[g]) (e0::m) (n+1)):Fin slots (gp++[g]) (e0::m) al rel us (n+1) w:=by
 refine⟨D,fun A hA=>?_,fun ha hr i hi=>?_,fun A hA=>?_,F.vC⟩
 ·obtain⟨c1,c2,c3,c4,c5⟩:=F.al_ A hA;refine⟨c1,A9 c2,c3,by omega,fun e he=>?_⟩;rcases aso.1 he with rfl|he
  ·omega
  ·exact c5 e he
 ·by_cases h:i=n
  ·exact⟨e0,asC ..,h0.trans h.symm⟩
  ·obtain⟨e,h1,h2⟩:=F.cov ha hr i (by omega);exact⟨e,asB _ h1,h2⟩
 ·obtain⟨c1,c2,c4,c5,c6⟩:=F.Ke A hA;refine⟨c1,A9 c2,by omega,fun e he=>?_,c6⟩;rcases aso.1 he with rfl|he
  ·omega
  ·exact c5 e he
theorem Fin.ahX(F:Fin slots gp m al rel us n w){d:Nat}{R:Value→World→Prop}(hs:slots[n]?=some d):Fin slots (gp++[R]) m al (⟨d,n,R⟩::rel) true (n+1) w:=by
 refine⟨F.D.skip _,fun A hA=>?_,(fun _ h=>by cases h),fun A hA=>?_,?_⟩
 ·obtain⟨c1,c2,c3,c4,c5⟩:=F.al_ A hA;exact⟨c1,A9 c2,c3,by omega,c5⟩
 ·rcases aso.1 hA with rfl|hA
  ·refine⟨hs,by simp[← F.D.len],Nat.lt_succ_self n,fun e he=>?_,fun C hC=>?_⟩
   ·have:=F.D.L.lt e he;simp only;omega
   ·have:=(F.al_ C hC).2.2.2.1;simp only;omega
  ·obtain⟨c1,c2,c4,c5,c6⟩:=F.Ke A hA;exact⟨c1,A9 c2,by omega,c5,c6⟩
 ·rw[List.map_cons,List.nodup_cons];refine⟨fun h=>?_,F.vC⟩;obtain⟨A,hA,e⟩:=asy.1 h;have:=(F.Ke A hA).2.2.1;simp only at e;omega
theorem Fin.ahY(F:Fin slots gp m none rel us n w){d:Nat}{ty:TypeId}{cs:Array Value}{s:Option Nat}(hs:slots[n]?=some d)(hty:Nat.blt ty 9000=true):Fin slots (gp++[Made w (alV s) ty cs]) m (some ⟨d,n,ty,cs,s⟩) rel us (n+1) w:=by
 refine⟨F.D.skip _,fun A hA=>?_,(fun h=>by cases h),fun A hA=>?_,F.vC⟩
 ·obtain rfl:=asp hA;refine⟨hs,by simp[← F.D.len],hty,Nat.lt_succ_self n,fun e he=>?_⟩;have:=F.D.L.lt e he;simp only;omega
 ·obtain⟨c1,c2,c4,c5,c6⟩:=F.Ke A hA;refine⟨c1,A9 c2,by omega,c5,fun C hC=>?_⟩;obtain rfl:=asp hC;simp only;omega
theorem tA{xs:List Operand}:∀ {rel:List kC} {f:List kC→Prop},Kg xs rel f→∃ rel',f rel'∧rel'.Sublist rel
 | [],_,h=>⟨[],h,.slnil⟩
 | ⟨d,j,R⟩::r,f,h=>by
  unfold Kg at h
  cases hb:lK d xs with
  | true=>
   rw[hb] at h;obtain⟨r',h1,h2⟩:=tA h;exact⟨r',h1,h2.cons _⟩
  | false=>
   rw[hb] at h;obtain⟨r',h1,h2⟩:=tA (f:=fun r'=>f (⟨d,j,R⟩::r')) h;exact⟨_,h1,h2.cons_cons _⟩
theorem tu{xs:List Operand}{a:Act}{w1:World}{f:List fP→Option (World→Prop)→Prop}:∀ {rel:List kC} {m:List fP} {P:Option (World→Prop)},(∀ p,P=some p→p w1)→(∀ A∈rel,lK A.d xs=true→∃ u,At a A.d u∧A.R u w1)→Kf xs rel m P f →
 ∃ m' P',f m' P'∧(∀ p,P'=some p→p w1)∧(∀ e∈m',e∈m∨At a e.s e.v)∧∀ e∈m,e∈m'
 | [],m,P,hP,_,h=>⟨m,P,h,hP,fun e he=>.inl he,fun _ he=>he⟩
 | ⟨d,j,R⟩::r,m,P,hP,hr,h=>by
  unfold Kf at h
  cases hb:lK d xs with
  | false=>
   rw[hb] at h;exact tu hP (fun A hA=>hr A (asB _ hA)) h
  | true=>
   rw[hb] at h;obtain⟨u,h1,h2⟩:=hr _ (asC ..) hb
   have hP':∀ p,aaz (R u) P=some p→p w1:=fun p hp=>by
    cases P with
    | none=>obtain rfl:=asp hp;exact h2
    | some q=>obtain rfl:=asp hp;exact⟨h2,hP q rfl⟩
   obtain⟨m',P',k1,k2,k3,k4⟩:=tu hP' (fun A hA=>hr A (asB _ hA)) (h u);refine⟨m',P',k1,k2,fun e he=>?_,fun e he=>k4 e (asB _ he)⟩;rcases k3 e he with h|h
   ·rcases aso.1 h with rfl|h
    ·exact .inr h1
    ·exact .inl h
   ·exact .inr h
theorem tN{P:Option (World→Prop)}{w:World}{q:Prop}(h:Ph P w q)(hP:∀ p,P=some p→p w):q:=by
 cases P with
 | none=>exact h
 | some p=>exact h (hP p rfl)
theorem adY{π:Pa}{t:Bool}{R:Value→World→Prop}{v:Value}{w:World}(h:R v w):gR π t R v w:=by
 cases π with
 | nil=>exact h
 | cons=>exact fun _=>h
theorem Z2{π:Pa}{R:Value→World→Prop}{v:Value}{w:World}(h:π≠[]):gR π false R v w:=by
 cases π with
 | nil=>exact absurd rfl h
 | cons=>exact fun h=>by cases h
theorem Sd{π:Pa}{t:Bool}{R:Value→World→Prop}(h:eN R):eN (gR π t R):=by
 cases π with
 | nil=>exact h
 | cons=>exact fun v w w' h1 hb ht=>h v w w' (h1 ht) hb
end
section
variable {N:Nat} {l:Slots} {B:Nat} {w0 w:World} {bs:List Bx} {rs:List Rw} {F:Uo} {slots:List Nat} {ops:Array Oper} {a0:Act}
def X_(N:Nat)(l:Slots)(B:Nat)(w0 w:World)(bs:List Bx)(rs:List Rw)(F:Uo)(slots:List Nat)(ops:Array Oper)(a0:Act)(gp:List Good)(L:List Oper)(k n:Nat):Prop:=
 ∃ G' m' al' rel' us',jU (gp++G')∧G'.length=k∧kO Tryz.prog ops slots (gp++G') (asD w.heap.size w) a0 N (L.take k) G'∧Fin slots (gp++G') m' al' rel' us' (n+k) w∧vd B w0 N l bs rs w F 0 (L.drop k) (n+k) m' al' rel' us'
theorem Xc(M:bg B w0 w bs rs)(hnd:slots.Nodup)(qJ:∀ (i s:Nat),slots[i]?=some s→(ops[i]?).bind (fun o=>o.dst)=some s)(hl:∀ q v,look q l=some v→slots.contains q=false)(F0:Fs a0 N l):
 ∀ {k:Nat} {L:List Oper} {n:Nat} {m:List fP} {al:Option AlD} {rel:List kC} {us:Bool} {gp:List Good},vd B w0 N l bs rs w F k L n m al rel us→Fin slots gp m al rel us n w→(∀ i o,(L.take k)[i]?=some o→Ez slots o=true∧slots[n+i]?=o.dst)→k≤L.length→jU gp →
  X_ N l B w0 w bs rs F slots ops a0 gp L k n:=by
 intro k
 induction k with
 | zero=>intro L n m al rel us gp h hF _ _ hla;exact⟨[],m,al,rel,us,by simpa using hla,rfl,trivial,by simpa using hF,h⟩
 | succ k ih=>
  intro L n m al rel us gp h hF jR hkl hla
  cases L with
  | nil=>simp at hkl
  | cons o r=>
   have agY:k≤r.length:=by simpa using hkl
   have XI:=jR 0 o (by simp)
   have adC:∀ i o,(r.take k)[i]?=some o→Ez slots o=true∧slots[n+1+i]?=o.dst:=fun i o' hi=>by
    have:=jR (i+1) o' (by simpa using hi)
    rwa [show n+1+i=n+(i+1) by omega]
   have one:∀ (g:Good) (m1:List fP) (al1:Option AlD) (tB:List kC) (us1:Bool),eN g→Fin slots (gp++[g]) m1 al1 tB us1 (n+1) w→vd B w0 N l bs rs w F k r (n+1) m1 al1 tB us1 →
    (∀ (a:Act) (w1:World) (Q':Exit→Act→World→Prop),Fr a N→asD w.heap.size w w1 →
     (∀ x∈ij o.op,∀ π' v,Db l m π' x v→(∀ y∈π',Cond m y)→a.eval x=v)→(∀ e∈m,(∃ b,o.guard=some (e.j,b))→(ops[e.j]?).bind (·.dst)=some e.s∧At a e.s (gd e.t e.v)) →
     (∀ A∈rel,lK A.d (ij o.op)=true→∃ u,At a A.d u∧A.R u w1) →
     (∀ v a' w',asD w1.heap.size w1 w'→g v w'→Put a (o.dst.getD 0) v a'→Q' .normal a' w')→wpList Tryz.prog ops Q' [o] a w1) →
    X_ N l B w0 w bs rs F slots ops a0 gp (o::r) (k+1) n:=by
    intro g m1 al1 tB us1 hg hF1 h1 hst
    have agX:jU (gp++[g]):=by
     clear ih h hF hF1 h1 hst
     induction gp with
     | nil=>exact⟨hg,trivial⟩
     | cons x r ih=>exact⟨hla.1,ih hla.2⟩
    obtain⟨G',m',al',rel',us',k1,k2,k3,k4,k5⟩:=ih h1 hF1 adC agY agX;refine⟨g::G',m',al',rel',us',by simpa using k1,by simp[k2],⟨?_,by simpa using k3⟩,by simpa[show n+(k+1)=n+1+k by omega] using k4,by simpa[show n+(k+1)=n+1+k by omega] using k5⟩;intro a w1 Q' hf hb CQ hrest hK;obtain⟨E,Am⟩:=Iu hF.D hnd qJ XI.1 hl F0 (G':=g::G') CQ hrest;refine hst a w1 Q' hf hb E Am (fun A hA hop=>?_) hK;obtain⟨c1,c2,c4,c5,-⟩:=hF.Ke A hA;refine CQ A.j ?_ _ _ c1 (by rw[asK (asn.1 c2).1];exact c2);exact Ey XI.1 hnd c1 (pK hop)
   obtain⟨π,t,h,hp,ht,h0,hgd⟩:=Ni hF.D.L h;have SD:∀ {d:Nat},o.dst=some d→slots[n]?=some d:=fun hd=>by have:=XI.2;rw[hd] at this;simpa using this
   have off:∀ {d:Nat} {a:Act} {w1:World} {g:Good} {Q':Exit→Act→World→Prop},Region.wanted o (yielded ops a.tmps)=false→o.dst=some d→Nat.blt d N=true→Fr a N→g undef w1→(∀ v a' w',asD w1.heap.size w1 w'→g v w'→Put a (o.dst.getD 0) v a'→Q' .normal a' w')→wpList Tryz.prog ops Q' [o] a w1:=
    fun hw hd hN hf hg hK=>uX hw hd hf (by simpa using hN) fun a' p=>asF (hK undef a' _ (Below.refl _ _) hg (by rw[hd];exact p))
   have val:∀ {d:Nat} {v:Value} {tB:List kC},tB.Sublist rel→o.dst=some d→Nat.blt d N=true→vd B w0 N l bs rs w F k r (n+1) (⟨d,n,π,t,v⟩::m) al tB us →
    (t=true→∀ (a:Act) (w1:World) (Q':Exit→Act→World→Prop),Fr a N→asD w.heap.size w w1→Region.wanted o (yielded ops a.tmps)=true→(∀ x∈ij o.op,∀ π' v,Db l m π' x v→(∀ y∈π',Cond m y)→a.eval x=v) →
     (∀ A∈rel,lK A.d (ij o.op)=true→∃ u,At a A.d u∧A.R u w1)→(∀ v' a' w',asD w1.heap.size w1 w'→bL v v' w'→Put a (o.dst.getD 0) v' a'→Q' .normal a' w')→wpList Tryz.prog ops Q' [o] a w1) →
    X_ N l B w0 w bs rs F slots ops a0 gp (o::r) (k+1) n:=by
    intro d v tB hsub hd hN h1 hr;refine one (bL (gd t v)) _ _ _ _ (aj _) ((hF.sub hsub).put rfl (hF.D.put (SD hd) hp ht)) h1 fun a w1 Q' hf hb E Am hrel hK=>?_
    have hw:=qo hgd Am
    cases t with
    | true=>exact hr rfl a w1 Q' hf hb hw E hrel hK
    | false=>exact off hw hd hN hf rfl hK
   have SF:∀ {op:Op} {d:Nat},o.op=op→o.dst=some d→Nat.blt d N=true→pop l m π t (fun v=>vd B w0 N l bs rs w F k r (n+1) (⟨d,n,π,t,v⟩::m) al rel us) op→X_ N l B w0 w bs rs F slots ops a0 gp (o::r) (k+1) n:=fun hop hd hN h=>by
    obtain⟨v,h1,h2⟩:=Kk hF.D.L ht h;exact val (.refl _) hd hN h1 fun bF a w1 Q' hf hb hw E _ hK=>dv hw (h2 a w1 o hop (hop▸E) bF) hd hf hN hK rfl
   have new:∀ {d:Nat} {ty:TypeId} {cs:Array Value} {s:Option Nat},π=[]→al=none→o.dst=some d→Nat.blt d N=true→Nat.blt ty 9000=true→vd B w0 N l bs rs w F k r (n+1) m (some ⟨d,n,ty,cs,s⟩) rel us →
    (∀ (a:Act) (w1:World),(∀ x∈ij o.op,∀ π' v,Db l m π' x v→(∀ y∈π',Cond m y)→a.eval x=v)→(execOp a.eval o).run Tryz.prog w1=.ok (.value (alV s w1.heap.size)) (w1.alloc (.cells cs ty))) →
    X_ N l B w0 w bs rs F slots ops a0 gp (o::r) (k+1) n:=by
    intro d ty cs s hπ hal hd hN hty h1 hr;subst hal;refine one (Made w (alV s) ty cs) _ _ _ _ (KO _ _ _ _) (hF.ahY (SD hd) hty) h1 fun a w1 Q' hf hb E Am _ hK=>?_
    have hw:=(qo hgd Am).trans (h0 hπ);exact dn (f:=alV s) hw (hr a w1 E) hd hf hN hK fun b w' nn=>R7 hb b w' nn
   have X7:∀ {f:FuncId} {vs:List Value},cD B w0 N bs rs w o n m π t f vs (fun e=>vd B w0 N l bs rs w F k r (n+1) (e::m) al rel us) →
    (t=true→sC Tryz.prog f=true→∀ (a:Act) (w1:World),(∀ x∈ij o.op,∀ π' v,Db l m π' x v→(∀ y∈π',Cond m y)→a.eval x=v)→(execOp a.eval o).run Tryz.prog w1=.ok (.enter f vs.toArray) w1) →
    X_ N l B w0 w bs rs F slots ops a0 gp (o::r) (k+1) n:=by
    intro f vs h hr;unfold cD at h
    cases hm:jr f QF with
    | true=>rw[hm] at h;exact h.elim
    | false=>
     rw[hm] at h;obtain⟨hb,h⟩:=bH h;obtain⟨d,hd,hN,hfr,v,h⟩:=iu h;obtain⟨h1,h2⟩:=gT h;have hok:=zP hb hm;exact val (.refl _) hd hN h2 fun bF a w1 Q' hf hb hw E _ hK=>dc hw (hr bF hok a w1 E) (h1 bF w1 hb (M.keep hb)) hd hf hN hK fun _=>rfl
   have newR:∀ {d:Nat} {R':Value→World→Prop} {tB:List kC},tB.Sublist rel→o.dst=some d→Nat.blt d N=true→eN R'→vd B w0 N l bs rs w F k r (n+1) m al (⟨d,n,gR π t R'⟩::tB) true →
    (t=true→∀ (a:Act) (w1:World) (Q':Exit→Act→World→Prop),Fr a N→asD w.heap.size w w1→Region.wanted o (yielded ops a.tmps)=true→(∀ x∈ij o.op,∀ π' v,Db l m π' x v→(∀ y∈π',Cond m y)→a.eval x=v) →
     (∀ A∈rel,lK A.d (ij o.op)=true→∃ u,At a A.d u∧A.R u w1)→(∀ v' a' w',asD w1.heap.size w1 w'→R' v' w'→Put a (o.dst.getD 0) v' a'→Q' .normal a' w')→wpList Tryz.prog ops Q' [o] a w1) →
    X_ N l B w0 w bs rs F slots ops a0 gp (o::r) (k+1) n:=by
    intro d R' tB hsub hd hN hR' h2 hst;refine one (gR π t R') _ _ _ _ (Sd hR') ((hF.sub hsub).ahX (SD hd)) h2 fun a w1 Q' hf hb E Am hrel hK=>?_
    have hw:=qo hgd Am
    cases t with
    | true=>exact hst rfl a w1 Q' hf hb hw E hrel fun v a' w' hb' hv hp=>hK v a' w' hb' (adY hv) hp
    | false=>exact off hw hd hN hf (Z2 fun h=>by cases h0 h) hK
   have evR:∀ {a:Act} {m':List fP} {xs:List Operand} {vs:List Value} {π':Pa},(∀ y∈π',Cond m y)→(∀ e∈m',e∈m∨At a e.s e.v)→(∀ e∈m,e∈m')→Bm (Db l m' π') xs vs→(∀ x∈xs,x∈ij o.op) →
    (∀ x∈ij o.op,∀ π' v,Db l m π' x v→(∀ y∈π',Cond m y)→a.eval x=v)→uP a xs vs:=fun {a m' xs vs π'} hc h1 h2 h3 hx E=>Wu h3 fun x hxs v MZ=>by
    cases x with
    | tmp q=>
     rcases MZ with⟨e,he,rfl,rfl,hsub⟩|⟨h5,h6⟩
     ·rcases h1 e he with he|he
      ·exact E _ (hx _ hxs) π' _ (.inl ⟨e,he,rfl,rfl,hsub⟩) hc
      ·exact he.ev
     ·exact E _ (hx _ hxs) π' _ (.inr ⟨fun e he=>h5 e (h2 e he),h6⟩) hc
    | const u=>exact MZ
    | global=>exact MZ.elim
    | func f=>exact MZ
   have hfD:fD B w0 N l bs rs w o n m π t rel (fun rel=>vd B w0 N l bs rs w F k r (n+1) m al rel true)→X_ N l B w0 w bs rs F slots ops a0 gp (o::r) (k+1) n:=fun hB=>by
    unfold fD at hB;obtain⟨d,hd,hN,hfr,R',hR',h1,h2⟩:=iu hB;obtain⟨tB,h2,hsub⟩:=tA h2;refine newR hsub hd hN hR' h2 fun bF a w1 Q' hf hb hw E hrel hK=>?_
    obtain⟨m',P',k1,k2,k3,k4⟩:=tu (fun _ h=>by cases h) hrel h1;obtain⟨vs,h3,h4⟩:=j4 k1;obtain⟨v,w2,h5,h6,h7⟩:=tN (YR h4 bF w1 a o hb (M.keep hb)) k2 rfl (evR (ht.1 bF) k3 k4 h3 (fun x hx=>hx) E);exact nD hw h5 hd hf (by simpa using hN) fun a' p=>asF (hK v a' w2 h7 h6 (by rw[hd];exact p))
   split at h
   ·rename_i ty x hop;obtain⟨d,hd,hN,hfr,h⟩:=iu h;obtain⟨u,h1,h⟩:=cq h;rcases nI h with⟨g,off',rfl,hq⟩|h
    case inr=>
     obtain⟨h2,h3⟩:=Tl h;exact val (.refl _) hd hN h3 fun bF=>(h2 bF).elim
    obtain⟨D,hD,h⟩:=jH hq;obtain⟨v,h2,h3⟩:=R_ M h hD;exact val (.refl _) hd hN h2 fun bF a w1 Q' hf hb hw E _ hK=>dv hw (h3 bF w1 hb a o x hop (E x (by rw[hop];simp[ij]) _ _ h1 (ht.1 bF))) hd hf hN hK rfl
   ·rename_i ty hop;obtain⟨hπ,h⟩:=mq h
    cases al with
    | some A=>exact h.elim
    | none=>
     obtain⟨d,hd,hN,hfr,z,hz,h⟩:=iu h;obtain⟨hty,h⟩:=bH h;exact new hπ rfl hd hN hty (uo h) fun a w1 _=>tY hop hz
   ·rename_i ty x hop;obtain⟨hπ,h⟩:=mq h
    cases al with
    | some A=>exact h.elim
    | none=>
     obtain⟨d,hd,hN,hfr,h⟩:=iu h;obtain⟨u,h1,h⟩:=cq h;obtain⟨hty,h⟩:=bH h;exact new hπ rfl hd hN hty (uo h) fun a w1 E=>Nx hop (E x (by rw[hop];simp[ij]) _ _ h1 (by rw[hπ];simp))
   ·rename_i ty len parts hop;rcases h with hA|hB
    case inr=>exact hfD hB
    obtain⟨hπ,hA⟩:=mq hA
    cases al with
    | some A=>exact hA.elim
    | none=>
     obtain⟨d,hd,hN,hfr,h⟩:=iu hA;obtain⟨D,hD,h⟩:=jH h;split at h
     ·obtain⟨hps,h⟩:=bH h;obtain⟨hlen,h⟩:=iz h;obtain⟨b0,h⟩:=bH h;obtain⟨b1,h⟩:=bH h;obtain⟨b2,h⟩:=bH h;obtain⟨vs,h1,h⟩:=j4 h;obtain⟨h2,h3⟩:=Fk h;exact new hπ rfl hd hN b2 h2 fun a w1 E=>qq hop hD hps hlen (by simpa using b0) (by simpa using b1) (vY h1 (by rw[hπ];simp) (by rw[hop] at E;exact E)) h3
     ·exact h.elim
   ·rename_i c hop;split at h
    ·rename_i f pS;have e3:c={ callee:=.value (.func f),args:=c.args,argTypes:=c.argTypes }:=by cases c;simp only at pS;rw[pS]
     have SG:ij o.op=c.args.toList:=by rw[hop];simp only[ij,pS];rfl
     rcases h with h|h|h|h
     case inr.inr.inr=>
      unfold cV at h
      cases hm:jr f QF with
      | true=>rw[hm] at h;exact h.elim
      | false=>
       rw[hm] at h;obtain⟨hb,h⟩:=bH h;obtain⟨hu,h⟩:=bH h;have hok:=zP hb hm;obtain⟨d,hd,hN,hfr,R',hR',h1,h2⟩:=iu h;obtain⟨tB,h2,hsub⟩:=tA h2;refine newR hsub hd hN hR' h2 fun bF a w1 Q' hf hb hw E hrel hK=>?_
       obtain⟨m',P',k1,k2,k3,k4⟩:=tu (fun _ h=>by cases h) (fun A hA hx=>hrel A hA (by rw[SG];exact hx)) h1;obtain⟨vs,h3,h4⟩:=j4 k1;exact dx hw (qx hok (hop.trans (congrArg Op.call e3)) (jA (evR (ht.1 bF) k3 k4 h3 (by rw[SG];exact fun x hx=>hx) E))) (tN (h4 bF w1 hb (M.keep hb)) k2) hd hf hN hK
     case inr.inl=>
      unfold cU at h
      cases hm:jr f QF with
      | true=>rw[hm] at h;exact h.elim
      | false=>
       rw[hm] at h;obtain⟨hb,h⟩:=bH h;obtain⟨hu,h⟩:=bH h;have hok:=zP hb hm;obtain⟨d,hd,hN,hfr,v,h1,h2⟩:=iu h;obtain⟨tB,h2,hsub⟩:=tA h2;refine val hsub hd hN h2 fun bF a w1 Q' hf hb hw E hrel hK=>?_
       obtain⟨m',P',k1,k2,k3,k4⟩:=tu (fun _ h=>by cases h) (fun A hA hx=>hrel A hA (by rw[SG];exact hx)) h1;obtain⟨vs,h3,h4⟩:=j4 k1;exact dc hw (qx hok (hop.trans (congrArg Op.call e3)) (jA (evR (ht.1 bF) k3 k4 h3 (by rw[SG];exact fun x hx=>hx) E))) (tN (h4 bF w1 hb (M.keep hb)) k2) hd hf hN hK fun _=>rfl
     case inr.inr.inl=>
      obtain⟨vs,h1,h⟩:=j4 h;unfold cRl at h
      cases hm:jr f QF with
      | true=>rw[hm] at h;exact h.elim
      | false=>
       rw[hm] at h;obtain⟨hb,h⟩:=bH h;have hok:=zP hb hm;obtain⟨d,hd,hN,hfr,R,hR,h⟩:=iu h;obtain⟨hc,h2⟩:=gT h;exact newR (.refl _) hd hN hR h2 fun bF a w1 Q' hf hb hw E _ hK=>dx hw (qx hok (hop.trans (congrArg Op.call e3)) (jA (vY h1 (ht.1 bF) fun x hx=>E x (by rw[SG];exact hx)))) (hc bF w1 hb (M.keep hb)) hd hf hN hK
     obtain⟨vs,h1,h⟩:=j4 h;refine X7 h fun bF hok a w1 E=>?_
     exact qx hok (hop.trans (congrArg Op.call e3)) (jA (vY h1 (ht.1 bF) fun x hx=>E x (by rw[hop];simp only[ij,pS];exact hx)))
    ·rename_i y hy pS;obtain⟨u,h1,h⟩:=cq h;split at h
     ·rename_i f first cap
      obtain⟨vs,h2,h⟩:=j4 h;have h:=jk (jk h);refine X7 h fun bF hok a w1 E=>?_
      have e3:c={ callee:=.value y,args:=c.args,argTypes:=c.argTypes }:=by cases c;simp only at pS;rw[pS]
      have ado:ij o.op=y::c.args.toList:=by
       rw[hop];simp only[ij,pS];cases y<;>first|rfl|exact absurd rfl (hy _)
      refine GU hok (hop.trans (congrArg Op.call e3)) (E y (by rw[ado];exact asC ..) _ _ h1 (ht.1 bF)) ?_;rw[jA (vY h2 (ht.1 bF) fun x hx=>E x (by rw[ado];exact asB _ hx))];apply Array.toList_inj.1;simp
     ·exact h.elim
    ·obtain⟨d,hd,hN,hfr,h⟩:=iu h;exact SF hop hd hN h
   all_goals
    cases hu:RE (ij o.op) rel with
    | true=>rw[hu] at h;exact hfD h
    | false=>
     rw[hu] at h;obtain⟨d,hd,hN,hfr,h⟩:=iu h;exact SF rfl hd hN h
end
def rS(o:Oper)(j:Nat):Bool:=o.after.toList.any fun e=>Region.binds .any e&&(e.on == j)
def pOp(o:Oper):Bool:=o.guard.isNone
def ab8(N:Nat)(L:List Oper)(k:Nat):Bool:=
 ordered 0 L&&((L.take (k+2)).all (fun o=>o.dst.isSome)&&((L.take k).all (Ez (gX (k+2) L))&&((gX (k+2) L).all (fun s=>decide (s<N))&&(decide (gX (k+2) L).Nodup&&(decide (L.length=k+4) &&
  ((L.drop k).all pOp&&((L.drop (k+2)).all (Ez (gX (k+2) L)))))))))
section
variable (B:Nat) (w0:World) (N:Nat) (l:Slots) (bs:List Bx) (rs:List Rw) (w:World) (K:Slots→List Bx→List Rw→World→Prop)
def vP:Uo:=fun L _ m al _ us=>match L,al,us with
 | [a1,a2,s1,s2],none,false=>(match a1.op,a2.op,s1.op,s2.op with
  | .alloc yC,.alloc yB,.store t1 (.tmp x1) y1,.store t2 (.tmp x2) y2=>dK N m a1.dst fun d1=>dK N m a2.dst fun d2=>bif Nat.beq x1 d1 then bif Nat.beq x2 d2 then (match s1.dst,s2.dst with
   | none,none=>∃ z1 z2,((Tryz.prog.info? yC).bind (·.zero)=some z1∧(Tryz.prog.info? yB).bind (·.zero)=some z2)∧pI l m [] y1 fun u1=>pI l m [] y2 fun u2=>Bz t1 (fun D1=>Bz t2 (fun D2=>bif Nat.blt yC 9000 then bif Nat.blt yB 9000 then pQ (bh u1) (iV D1) (pQ (bh z1) (iV D1) (pQ (bh u2) (iV D2) (pQ (bh z2) (iV D2)
     (((bh u1).all (·.oneCell')=true∧(bh u2).all (·.oneCell')=true)∧∀ g1 g2 w',asD w.heap.size w w'→bg B w0 w' ((g1,yC,(bh u1).toArray)::(g2,yB,(bh u2).toArray)::bs) rs →
       nQ m l fun l'=>K ((d1,.pointer (some ⟨g1,0,none⟩))::(d2,.pointer (some ⟨g2,0,none⟩))::l') ((g1,yC,(bh u1).toArray)::(g2,yB,(bh u2).toArray)::bs) rs w')))) else False else False) TT) TT
   | _,_=>False) else False else False
  | _,_,_,_=>False)
 | _,_,_=>False
end
structure PI (L:List Oper) (k:Nat) (slots:List Nat) (G:List Good) (N:Nat) (a0:Act) (w:World) (d1 d2 yC yB:Nat) (z1 z2 c1 c2:Array Value) (Lf:Nat→Bool) (b:Act) (u:World):Prop where
 fr:Fr b N
 inv:asD w.heap.size w u
 done:∀ i,i<k→Lf i=true→∀ s g,slots[i]?=some s→G[i]?=some g→∃ v,At b s v∧g v u
 rest:∀ j x,slots.contains j=false→At a0 j x→At b j x
 o1:Lf (k+2)=true→Lf k=true
 o2:Lf (k+3)=true→Lf (k+1)=true
 one:Lf k=true→∃ g,At b d1 (.pointer (some ⟨g,0,none⟩))∧w.heap.size≤g∧Whole u g yC (if Lf (k+2)=true then c1 else z1)
 two:Lf (k+1)=true→∃ g,At b d2 (.pointer (some ⟨g,0,none⟩))∧w.heap.size≤g∧Whole u g yB (if Lf (k+3)=true then c2 else z2)
 ne:Lf k=true→Lf (k+1)=true→∀ g,At b d1 (.pointer (some ⟨g,0,none⟩))→At b d2 (.pointer (some ⟨g,0,none⟩))→False
theorem At.PE{a:Act}{s:Nat}{v u:Value}(h:At a s v)(h':At a s u):v=u:=asp (h.symm.trans h')
theorem qu{g g':Nat}(h:Value.pointer (some ⟨g,0,none⟩)=.pointer (some ⟨g',0,none⟩)):g=g':=by
 injection h with h;injection h with h;injection h
section
variable {B:Nat} {w0 w:World} {N:Nat} {l:Slots} {bs:List Bx} {rs:List Rw} {K:Slots→List Bx→List Rw→World→Prop} {Q:Exit→Act→World→Prop} {a:Act} {id:Nat} {L:List Oper}
theorem fM{Lf:Nat→Bool}{i j:Nat}(h:j≠i):upd Lf i j=Lf j:=by
 have:(j == i)=false:=by simpa using h
 simp[upd,this]
theorem F9{Lf:Nat→Bool}{i:Nat}:upd Lf i i=true:=by simp[upd]
theorem Km{k:Nat}{slots:List Nat}{G:List Good}{d1 d2 yC yB:Nat}{u1 u2 z1 z2:Value}{a1 a2 s1 s2:Oper}{t1 t2:TypeId}{y1 y2:Operand}{D1 D2:TD}
 (hL:L.length=k+4) (hnd:slots.Nodup) (hsl:slots.length=k+2) (hlt:∀ s∈slots,s<N)
 (hG:G.length=k) (V_:∀ g∈G,∃ v,g=bL v) (hst:kO Tryz.prog L.toArray slots G (asD w.heap.size w) a N (L.take k) G)
 (eM:ordered 0 L=true) (rP:∀ (i:Nat) (o:Oper),i<k+2→L[i]?=some o→slots[i]?=o.dst)
 (e1:L[k]?=some a1) (e2:L[k+1]?=some a2) (e3:L[k+2]?=some s1) (e4:L[k+3]?=some s2)
 (p1:a1.op=.alloc yC) (p2:a2.op=.alloc yB) (p3:s1.op=.store t1 (.tmp d1) y1) (p4:s2.op=.store t2 (.tmp d2) y2)
 (g1:a1.guard=none) (g2:a2.guard=none) (g3:s1.guard=none) (g4:s2.guard=none) (q1:a1.dst=some d1) (q2:a2.dst=some d2) (q3:s1.dst=none) (q4:s2.dst=none)
 (hz1:(Tryz.prog.info? yC).bind (·.zero)=some z1) (hz2:(Tryz.prog.info? yB).bind (·.zero)=some z2)
 (hD1:jI Tryz.prog t1 D1=true) (hD2:jI Tryz.prog t2 D2=true) (n1:(bh u1).length=iV D1) (n2:(bh z1).length=iV D1) (n3:(bh u2).length=iV D2) (n4:(bh z2).length=iV D2)
 (c1:(bh u1).all (·.oneCell')=true) (c2:(bh u2).all (·.oneCell')=true)
 (hy1:∀ (b:Act) (u:World) (Lf:Nat→Bool),PI L k slots G N a w d1 d2 yC yB z1.cells z2.cells (bh u1).toArray (bh u2).toArray Lf b u→(∀ e∈s1.after.toList,Region.binds .any e=true→Lf e.on=true)→b.eval y1=u1∧Lf k=true)
 (hy2:∀ (b:Act) (u:World) (Lf:Nat→Bool),PI L k slots G N a w d1 d2 yC yB z1.cells z2.cells (bh u1).toArray (bh u2).toArray Lf b u→(∀ e∈s2.after.toList,Region.binds .any e=true→Lf e.on=true)→b.eval y2=u2∧Lf (k+1)=true) :
 ∀ (i:Nat) (o:Oper),L[i]?=some o→∀ (Lf:Nat→Bool) (b:Act) (u:World) (Q':Exit→Act→World→Prop),PI L k slots G N a w d1 d2 yC yB z1.cells z2.cells (bh u1).toArray (bh u2).toArray Lf b u→Lf i=false →
  (∀ e∈o.after.toList,Region.binds .any e=true→Lf e.on=true)→(∀ b u,PI L k slots G N a w d1 d2 yC yB z1.cells z2.cells (bh u1).toArray (bh u2).toArray (upd Lf i) b u→Q' .normal b u)→wpList Tryz.prog L.toArray Q' [o] b u:=by
 have Vm:slots[k]?=some d1:=by rw[rP k a1 (by omega) e1,q1]
 have Vl:slots[k+1]?=some d2:=by rw[rP (k+1) a2 (by omega) e2,q2]
 have adb:∀ {i j s s':Nat},slots[i]?=some s→slots[j]?=some s'→i≠j→s≠s':=fun h1 h2 hne e=>hne (kV hnd (e▸h1) h2)
 have XS:∀ (i:Nat) (g:Good),G[i]?=some g→i<k∧eN g:=fun i g hg=>⟨hG▸(asn.1 hg).1,by obtain⟨v,rfl⟩:=V_ g (asr hg);exact aj v⟩
 have hN:∀ {i s:Nat},slots[i]?=some s→s<N:=fun h=>hlt _ (asr h)
 have hin:∀ {i s:Nat},slots[i]?=some s→slots.contains s=true:=fun h=>by simpa using asr h
 have upT:∀ {Lf:Nat→Bool} {i j:Nat},Lf j=true→upd Lf i j=true:=fun h=>by simp[upd,h]
 have put:∀ {i s:Nat} {v:Value} {Lf:Nat→Bool} {b b':Act} {u u':World},PI L k slots G N a w d1 d2 yC yB z1.cells z2.cells (bh u1).toArray (bh u2).toArray Lf b u→i<k+2→slots[i]?=some s→Lf i=false→Put b s v b'→asD u.heap.size u u' →
  (∀ g,G[i]?=some g→g v u')→(i=k→∃ g,v=.pointer (some ⟨g,0,none⟩)∧w.heap.size≤g∧Whole u' g yC z1.cells∧u.heap.size≤g)→(i=k+1→∃ g,v=.pointer (some ⟨g,0,none⟩)∧w.heap.size≤g∧Whole u' g yB z2.cells∧u.heap.size≤g) →
  PI L k slots G N a w d1 d2 yC yB z1.cells z2.cells (bh u1).toArray (bh u2).toArray (upd Lf i) b' u':=by
  intro i s v Lf b b' u u' I hi hs Uz hp hb hg hk1 hk2;have old:∀ {j s':Nat} {x:Value},slots[j]?=some s'→j≠i→At b s' x→At b' s' x:=fun h1 hne h2=>hp.old (by simpa using adb h1 hs hne) h2
  have hx2:upd Lf i (k+2)=Lf (k+2):=fM (by omega);have hx3:upd Lf i (k+3)=Lf (k+3):=fM (by omega);refine⟨hp.fr I.fr,I.inv.trans (hb.mono I.inv.size),?_,?_,?_,?_,?_,?_,?_⟩
  ·intro j hj tQ s' g hs' hg';by_cases hji:j=i
   ·subst hji;obtain rfl:s=s':=asp (hs.symm.trans hs');exact⟨v,hp.now,hg g hg'⟩
   ·rw[fM hji] at tQ;obtain⟨x,h1,h2⟩:=I.done j hj tQ s' g hs' hg';exact⟨x,old hs' hji h1,(XS j g hg').2 _ _ _ h2 hb⟩
  ·intro j x hj hx;have:j≠s:=fun e=>by rw[e,hin hs] at hj;cases hj
   exact hp.old (by simpa using this) (I.rest j x hj hx)
  ·intro h;rw[hx2] at h;exact upT (I.o1 h)
  ·intro h;rw[hx3] at h;exact upT (I.o2 h)
  ·intro h;by_cases hik:i=k
   ·subst hik;obtain rfl:s=d1:=asp (hs.symm.trans Vm);obtain⟨g,rfl,h1,h2,-⟩:=hk1 rfl
    have h3:Lf (i+2)=false:=by
     cases h4:Lf (i+2) with
     | false=>rfl
     | true=>rw[I.o1 h4] at Uz;cases Uz
    exact⟨g,hp.now,h1,by rw[hx2,h3];exact h2⟩
   ·rw[fM (Ne.symm hik)] at h;obtain⟨g,h1,h2,h3⟩:=I.one h;exact⟨g,old Vm (Ne.symm hik) h1,h2,by rw[hx2];exact Whole.under hb h3 h3.lt⟩
  ·intro h;by_cases hik:i=k+1
   ·subst hik;obtain rfl:s=d2:=asp (hs.symm.trans Vl);obtain⟨g,rfl,h1,h2,-⟩:=hk2 rfl
    have h3:Lf (k+3)=false:=by
     cases h4:Lf (k+3) with
     | false=>rfl
     | true=>rw[I.o2 h4] at Uz;cases Uz
    exact⟨g,hp.now,h1,by rw[hx3,h3];exact h2⟩
   ·rw[fM (Ne.symm hik)] at h;obtain⟨g,h1,h2,h3⟩:=I.two h;exact⟨g,old Vl (Ne.symm hik) h1,h2,by rw[hx3];exact Whole.under hb h3 h3.lt⟩
  ·intro ha hb' g h1 h2;by_cases hik:i=k
   ·subst hik;obtain rfl:s=d1:=asp (hs.symm.trans Vm);obtain⟨g',rfl,-,-,h5⟩:=hk1 rfl;rw[fM (by omega)] at hb';obtain⟨g2,h6,-,h7⟩:=I.two hb';obtain rfl:=qu (hp.now.PE h1);obtain rfl:=qu ((old Vl (by omega) h6).PE h2);have:=h7.lt;omega
   ·by_cases Zz:i=k+1
    ·subst Zz;obtain rfl:s=d2:=asp (hs.symm.trans Vl);obtain⟨g',rfl,-,-,h5⟩:=hk2 rfl;rw[fM (by omega)] at ha;obtain⟨g2,h6,-,h7⟩:=I.one ha;obtain rfl:=qu (hp.now.PE h2);obtain rfl:=qu ((old Vm (by omega) h6).PE h1);have:=h7.lt;omega
    ·rw[fM (Ne.symm hik)] at ha;rw[fM (Ne.symm Zz)] at hb';obtain⟨x1,h3,-,-⟩:=I.one ha;obtain⟨x2,h4,-,-⟩:=I.two hb';obtain rfl:=qu ((old Vm (Ne.symm hik) h3).PE h1);obtain rfl:=qu ((old Vl (Ne.symm Zz) h4).PE h2);exact I.ne ha hb' _ h3 h4
 have sto:∀ {Lf:Nat→Bool} {b:Act} {u u':World} {i g:Nat},PI L k slots G N a w d1 d2 yC yB z1.cells z2.cells (bh u1).toArray (bh u2).toArray Lf b u→w.heap.size≤g→uO u u' g→(i=k+2∧Lf k=true∧At b d1 (.pointer (some ⟨g,0,none⟩))∧Whole u' g yC (bh u1).toArray)∨(i=k+3∧Lf (k+1)=true∧At b d2 (.pointer (some ⟨g,0,none⟩))∧Whole u' g yB (bh u2).toArray) →
  PI L k slots G N a w d1 d2 yC yB z1.cells z2.cells (bh u1).toArray (bh u2).toArray (upd Lf i) b u':=by
  intro Lf b u u' i g I hg s hcase;refine⟨I.fr,I.inv.trans (s.below hg),?_,I.rest,?_,?_,?_,?_,?_⟩
  ·intro j hj tQ s' g' hs' hg';rw[fM (by rcases hcase with⟨rfl,-⟩|⟨rfl,-⟩<;>omega)] at tQ;obtain⟨x,h1,h2⟩:=I.done j hj tQ s' g' hs' hg';obtain⟨v,rfl⟩:=V_ g' (asr hg');exact⟨x,h1,h2⟩
  ·intro h;rcases hcase with⟨rfl,hk,-⟩|⟨rfl,-⟩
   ·exact upT hk
   ·rw[fM (by omega)] at h;exact upT (I.o1 h)
  ·intro h;rcases hcase with⟨rfl,-⟩|⟨rfl,hk,-⟩
   ·rw[fM (by omega)] at h;exact upT (I.o2 h)
   ·exact upT hk
  ·intro h;rcases hcase with⟨rfl,hk,hat,hW⟩|⟨rfl,hk,hat,hW⟩
   ·exact⟨g,hat,hg,by rw[F9,if_pos rfl];exact hW⟩
   ·rw[fM (by omega)] at h;obtain⟨x,h1,h2,h3⟩:=I.one h;refine⟨x,h1,h2,?_⟩;rw[fM (by omega)];exact s.whole h3 fun e=>I.ne h hk x h1 (e▸hat)
  ·intro h;rcases hcase with⟨rfl,hk,hat,hW⟩|⟨rfl,hk,hat,hW⟩
   ·rw[fM (by omega)] at h;obtain⟨x,h1,h2,h3⟩:=I.two h;refine⟨x,h1,h2,?_⟩;rw[fM (by omega)];exact s.whole h3 fun e=>I.ne hk h x (e▸hat) h1
   ·exact⟨g,hat,hg,by rw[F9,if_pos rfl];exact hW⟩
  ·intro h1 h2;have hne:k≠i∧k+1≠i:=by rcases hcase with⟨rfl,-⟩|⟨rfl,-⟩<;>omega
   rw[fM hne.1] at h1;rw[fM hne.2] at h2;exact I.ne h1 h2
 intro i o ho Lf b u Q' I Uz jR hK;have hil:=(asn.1 ho).1;rw[hL] at hil;by_cases hik:i<k
 ·obtain⟨s,hs⟩:∃ s,slots[i]?=some s:=⟨_,List.getElem?_eq_getElem (by omega)⟩;have hd:o.dst=some s:=by rw[← rP i o (by omega) ho,hs]
  refine Ew (L.take k) G hst i o (by rw[List.getElem?_take,if_pos hik];exact ho) b u Q' I.fr I.inv (fun j ⟨gr,hj,hb⟩ s g hs hg=>?_) I.rest ?_
  ·have hji:j<i:=by have:=kT 0 L eM i o ho _ hj hb;simpa using this
   exact I.done j (by omega) (jR _ hj hb) s g hs hg
  ·intro v b' u' hb hg hp;rw[hd] at hp;exact hK b' u' (put I (by omega) hs Uz hp hb (fun g h=>hg g h) (fun e=>by omega) (fun e=>by omega))
 ·by_cases h0:i=k
  ·subst h0;obtain rfl:a1=o:=asp (e1.symm.trans ho);exact zn (f:=fun n=>.pointer (some ⟨n,0,none⟩)) (jN g1) (tY p1 hz1) q1 I.fr (hN Vm) fun g b' u' n p=>asF (hK _ _ (put I (by omega) Vm Uz p n.below (fun g' hg'=>absurd (XS _ _ hg').1 (by omega)) (fun _=>⟨g,rfl,n.at_▸I.inv.size,n.whole,n.at_▸Nat.le_refl _⟩) (fun e=>by omega)))
  ·by_cases h1:i=k+1
   ·subst h1;obtain rfl:a2=o:=asp (e2.symm.trans ho);exact zn (f:=fun n=>.pointer (some ⟨n,0,none⟩)) (jN g2) (tY p2 hz2) q2 I.fr (hN Vl) fun g b' u' n p=>asF (hK _ _ (put I (by omega) Vl Uz p n.below (fun g' hg'=>absurd (XS _ _ hg').1 (by omega)) (fun e=>by omega) (fun _=>⟨g,rfl,n.at_▸I.inv.size,n.whole,n.at_▸Nat.le_refl _⟩)))
   ·by_cases h2:i=k+2
    ·subst h2;obtain rfl:s1=o:=asp (e3.symm.trans ho);obtain⟨hv,hk⟩:=hy1 b u Lf I jR;obtain⟨g,hat,hge,hW⟩:=I.one hk;rw[Uz] at hW;have hsz:z1.cells.size=(bh u1).length:=by rw[← Array.length_toList,kN,n2,n1]
     exact oK (jN g3) p3 hat.ev hv hW (kN u1) (by rw[Nat.zero_add,if_neg (by decide),hsz];exact Nat.le_refl _) ((yD hD1).trans (by rw[n1])) c1 rfl q3 fun u' s hW'=>asF (hK _ _ (sto I hge s (.inl ⟨rfl,hk,hat,by rw[if_neg (by decide)] at hW';rw[iG _ _ hsz] at hW';exact hW'⟩)))
    ·obtain rfl:i=k+3:=by omega
     obtain rfl:s2=o:=asp (e4.symm.trans ho);obtain⟨hv,hk⟩:=hy2 b u Lf I jR;obtain⟨g,hat,hge,hW⟩:=I.two hk;rw[Uz] at hW;have hsz:z2.cells.size=(bh u2).length:=by rw[← Array.length_toList,kN,n4,n3]
     exact oK (jN g4) p4 hat.ev hv hW (kN u2) (by rw[Nat.zero_add,if_neg (by decide),hsz];exact Nat.le_refl _) ((yD hD2).trans (by rw[n3])) c2 rfl q4 fun u' s hW'=>asF (hK _ _ (sto I hge s (.inr ⟨rfl,hk,hat,by rw[if_neg (by decide)] at hW';rw[iG _ _ hsz] at hW';exact hW'⟩)))
end
end Go.Proofs.YtdcofoaihmongaaGreat

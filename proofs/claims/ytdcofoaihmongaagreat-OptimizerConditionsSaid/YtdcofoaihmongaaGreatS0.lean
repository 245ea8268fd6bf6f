import Derived.Below
import Derived.Deep.MidRow
import Derived.DeepKeys4
import Derived.Great.BuildSlice
import Derived.Laws.OwnMore
import Derived.Laws.Pointers
import Derived.Laws.Rows
import Derived.Laws.StructEq
import Derived.Laws.Tables
import Derived.Lib.Hide
import Derived.Maps.Own
import Derived.Maps.OwnSet
import Derived.Maps.Range
import Derived.Maps.RangeWalk
import Derived.OpenShut
import Derived.Orders
import Derived.ProofKit
import Derived.SizedLaws
import Derived.Tactics
import Derived.Test.YtdcofoaihmongaaGreatProg
import Derived.Test.YtdcofoaihmongaaGreatRows
import Derived.WalkKit
import Derived.WalkSmall
import Derived.WalkSpells
import Derived.WideKeyMaps
open Array renaming getD_eq_getD_getElem?→ath
open Bool renaming and_eq_true→ata
open Go.RowKit renaming Below→ato
open Go.Sem renaming run_bind→atf
open List renaming getElem?_append_left→atb,getElem?_append_right→atc,getElem?_eq_getElem→atd,all_eq_true→atg,mem_cons→ati,getElem?_eq_some_iff→atj,mem_of_getElem?→atk,getElem?_map→atm,length_take→atp,mem_map→atq,mem_cons_self→att,mem_cons_of_mem→atu
open Nat renaming le_trans→ate,lt_of_lt_of_le→atn,eq_of_beq_eq_true→atr
open Option.some renaming inj→atl
set_option maxRecDepth 100000
set_option maxHeartbeats 8000000
namespace Go.Proofs.YtdcofoaihmongaaGreat
open Go.RowKit
def iP(o:Option TypeInfo)(k b:Nat):Bool:=
 match o with
 | some i=>(match i.zero with|some z=>z.cells.size == k|none=>false)&&i.size == k&&i.bytes == b
 | none=>false
theorem ng{o:Option TypeInfo}{k b:Nat}(h:iP o k b=true):∃ i z,o=some i∧i.zero=some z∧i.size=k∧i.bytes=b∧z.cells.size=k:=by
 unfold iP at h;split at h
 ·rename_i i;split at h
  ·rename_i z hz;simp only[ata,beq_iff_eq] at h;exact⟨i,z,rfl,hz,h.1.2,h.2,h.1.1⟩
  ·simp at h
 ·simp at h
theorem dQ{k:IntKind}{a b:Int}(h:a=b):Ending.returned (.int k a)=.returned (.int k b):=by rw[h]
theorem aD{a b:Bool}(h:a=b):Ending.returned (.bool a)=.returned (.bool b):=by rw[h]
theorem bw{α}{l:List α}{k:Nat}{t:α}(h:l[k]?=some t):l.take (k+1)=l.take k++[t]:=by
 rw[List.take_add_one,h];rfl
theorem kM{α}{f:α→List Value}{k:Nat}(hf:∀ x,(f x).length=k){l:List α}{i:Nat}{t:α}(h:l[i]?=some t)(j:Nat)(hj:j<k):(l.flatMap f)[i*k+j]?=(f t)[j]?:=by
 induction l generalizing i with
 | nil=>simp at h
 | cons x l ih=>
  have hl:=hf x
  cases i with
  | zero=>
   simp at h;subst h;rw[List.flatMap_cons,Nat.zero_mul,Nat.zero_add,atb (by omega)]
  | succ i=>
   have:=ih (i:=i) (by simpa using h);rw[List.flatMap_cons,atc (by rw[hl,Nat.add_mul];omega),← this];congr 1;rw[hl,Nat.add_mul];omega
def SliceAt(w:World)(v:Value)(k n:Nat)(cs:List Value):Prop:=
 cs.length=n*k∧n≤maxLen∧(∀ u∈cs,u.oneCell'=true) ∧
  ((v=.slice none 0 0∧n=0)∨∃ a c,v=.slice (some a) n c∧n≤c∧∀ j u,cs[j]?=some u→w.cell? (a.add j)=some u)
theorem block_add(a:Addr)(n:Nat):(a.add n).block=a.block:=by unfold Addr.add;split<;>rfl
theorem SliceAt.keep{w w':World}{v:Value}{k n:Nat}{cs:List Value}(h:SliceAt w v k n cs)(hb:Below w.heap.size w w'):SliceAt w' v k n cs:=
 ⟨h.1,h.2.1,h.2.2.1,h.2.2.2.imp id fun⟨a,c,hv,hn,hc⟩=>⟨a,c,hv,hn,fun j u hu=>cell_later hb (hc j u hu)⟩⟩
theorem SliceAt.nil(w:World)(k:Nat):SliceAt w (.slice none 0 0) k 0 []:=⟨by simp,by simp[maxLen],by simp,.inl ⟨rfl,rfl⟩⟩
theorem DI{w:World}{a:Addr}{u:Value}(h:w.cell? (a.add 0)=some u):∃ b off,a=⟨b,off,none⟩:=by
 obtain⟨b,off,s⟩:=a;refine⟨b,off,?_⟩
 cases s with
 | none=>rfl
 | some x=>
  exfalso;unfold World.cell? Addr.add at h;split at h<;>simp at h
theorem SliceAt.form{w:World}{v:Value}{k n:Nat}{cs:List Value}(h:SliceAt w v k n cs)(hk:0<k):
 ∃ a c,v=.slice a n c∧n≤c∧n≤9223372036854775807∧∀ i,i<n→∃ b off,a=some ⟨b,off,none⟩∧∀ j u,cs[i*k+j]?=some u→w.cell? ⟨b,off+i*k+j,none⟩=some u:=by
 have hm:=h.2.1;unfold maxLen at hm;rcases h.2.2.2 with⟨rfl,rfl⟩|⟨a,c,rfl,hn,hc⟩
 ·exact⟨none,0,rfl,Nat.le_refl _,by omega,fun i hi=>by omega⟩
 ·refine⟨_,c,rfl,hn,by omega,fun i hi=>?_⟩;have hlt:i*k<cs.length:=by rw[h.1];exact Nat.mul_lt_mul_of_pos_right hi hk
  obtain⟨b,off,rfl⟩:=DI (hc 0 _ (atd (by omega)));exact⟨b,off,rfl,fun j u hu=>by have:=hc _ u hu;rwa [Addr.add_mid,← Nat.add_assoc] at this⟩
theorem SliceAt.bF{w:World}{base:Nat}{e:TypeId}{k n:Nat}{v:Value}{cs:List Value}(h:w.ownsRow base e k v n cs)(h1:∀ u∈cs,u.oneCell'=true):SliceAt w v k n cs:=by
 refine⟨h.1,?_,h1,?_⟩
 ·rcases h.2 with⟨_,rfl⟩|⟨g,cap,cur,_,_,_,hn,hc,_⟩
  ·simp[maxLen]
  ·omega
 ·rcases h.2 with h2|⟨g,cap,cur,rfl,_,hg,hn,hc,hs,ht⟩
  ·exact .inl h2
  ·exact .inr ⟨_,cap,rfl,hn,World.ownsRow.cells h (g:=g) rfl⟩
def Whole(w:World)(g:Nat)(t:TypeId)(cs:Array Value):Prop:=w.heap[g]?=some (.cells cs t (0,0))
section
variable {w w':World} {g:Nat} {t:TypeId} {cs:Array Value}
theorem Whole.lt(h:Whole w g t cs):g<w.heap.size:=by
 rcases Nat.lt_or_ge g w.heap.size with hlt|hge
 ·exact hlt
 ·unfold Whole at h;rw[Array.getElem?_eq_none hge] at h;cases h
theorem Whole.cell(h:Whole w g t cs)(i:Nat):w.cell? ⟨g,i,none⟩=cs[i]?:=cell_of_row w g i cs t (0,0) h
theorem Whole.frozen(h:Whole w g t cs)(i:Nat):w.frozen? ⟨g,i,none⟩=false:=frozen_of_row w g i cs t h
theorem Whole.new(w:World)(t:TypeId)(cs:Array Value):Whole (w.alloc (.cells cs t)) w.heap.size t cs:=heap_alloc_new w _
theorem Whole.alloc(h:Whole w g t cs)(o:Obj):Whole (w.alloc o) g t cs:=(Below.heap_alloc w o g h.lt).trans h
theorem Whole.drewN(h:Whole w g t cs)(n:Nat):Whole (w.drewN n) g t cs:=h
theorem Whole.below{B:Nat}(h:Whole w g t cs)(hb:Below B w w')(hg:g<B):Whole w' g t cs:=(hb.block g hg).trans h
theorem Whole.under{B:Nat}(hb:Below B w w')(h:Whole w g t cs)(hg:g<B):Whole w' g t cs:=h.below hb hg
theorem Whole.grown{row:Option Nat}(h:Whole w g t cs)(hb:w.grownBy w' row)(hg:some g≠row):Whole w' g t cs:=(hb.block g h.lt hg).trans h
end
structure vH (w w':World) (g:Nat):Prop where
 os:w'.os=w.os
 tape:w'.tape=w.tape
 output:w'.output=w.output
 size:w'.heap.size=w.heap.size
 block:∀ k,k≠g→w'.heap[k]?=w.heap[k]?
theorem vH.refl(w:World)(g:Nat):vH w w g:=⟨rfl,rfl,rfl,rfl,fun _ _=>rfl⟩
theorem vH.trans{a b c:World}{g:Nat}(h:vH a b g)(k:vH b c g):vH a c g:=
 ⟨k.os.trans h.os,k.tape.trans h.tape,k.output.trans h.output,k.size.trans h.size,fun i hi=>(k.block i hi).trans (h.block i hi)⟩
theorem vH.cell(w:World)(g i:Nat)(v:Value):vH w (w.setCell ⟨g,i,none⟩ v) g:=
 ⟨rfl,rfl,rfl,by simp[World.setCell],fun k hk=>heap_setCell_other w _ k v hk⟩
theorem vH.below{w w':World}{g B:Nat}(h:vH w w' g)(hg:B≤g):Below B w w':=
 ⟨h.os,h.tape,h.output,by rw[h.size];exact Nat.le_refl _,fun k hk=>h.block k (by omega)⟩
theorem vH.whole{w w':World}{g g':Nat}{t:TypeId}{cs:Array Value}(h:vH w w' g)(hw:Whole w g' t cs)(hne:g'≠g):Whole w' g' t cs:=(h.block g' hne).trans hw
theorem vH.grown{w w':World}{g:Nat}(h:vH w w' g):w.grownBy w' (some g):=
 ⟨h.os,h.tape,h.output,by rw[h.size];exact Nat.le_refl _,fun k _ hk=>h.block k fun e=>hk (by rw[e])⟩
theorem vH.own{w w':World}{g base:Nat}{e:TypeId}{size n:Nat}{v:Value}{xs:List Value}(h:vH w w' g)(ho:w.ownsRow base e size v n xs)(hne:v.ownBlock≠some g):w'.ownsRow base e size v n xs:=
 ho.kept h.grown (.inr hne)
theorem vH.cell'{w w':World}{g:Nat}(h:vH w w' g){a:Addr}(ha:a.block≠g):w'.cell? a=w.cell? a:=World.cell?_of_block (h.block _ ha)
theorem vH.slice{w w':World}{g:Nat}{v:Value}{k n:Nat}{cs:List Value}(h:vH w w' g)(hs:SliceAt w v k n cs)(hne:v.ownBlock≠some g):SliceAt w' v k n cs:=
 ⟨hs.1,hs.2.1,hs.2.2.1,hs.2.2.2.imp id fun⟨a,c,hv,hn,hc⟩=>⟨a,c,hv,hn,fun j u hu=>(h.cell' (by rw[block_add];intro e;exact hne (by rw[hv];exact congrArg some e))).trans (hc j u hu)⟩⟩
theorem oH{w:World}{base base':Nat}{e:TypeId}{size n:Nat}{v:Value}{xs:List Value}(h:w.ownsRow base e size v n xs)(hb:base'≤base):w.ownsRow base' e size v n xs:=
 ⟨h.1,h.2.imp id fun⟨g,cap,cur,hv,hg,r⟩=>⟨g,cap,cur,hv,ate hb hg,r⟩⟩
def splice(cs:Array Value)(o:Nat):List Value→Array Value
 | []=>cs
 | v::r=>splice (cs.setIfInBounds o v) (o+1) r
theorem yd(cs:Array Value)(o:Nat)(l:List Value):(splice cs o l).size=cs.size:=by
 induction l generalizing cs o with
 | nil=>rfl
 | cons v r ih=>rw[splice,ih];simp
theorem jG(cs:Array Value)(o:Nat)(l:List Value)(h:o+l.length≤cs.size):(splice cs o l).toList=cs.toList.take o++l++cs.toList.drop (o+l.length):=by
 induction l generalizing cs o with
 | nil=>simp[splice]
 | cons v r ih=>
  simp only[List.length_cons] at h;rw[splice,ih _ _ (by rw[Array.size_setIfInBounds];omega)];rw[Array.toList_setIfInBounds,List.length_cons,List.drop_set_of_lt (by omega),List.take_succ_eq_append_getElem (by rw[List.length_set,Array.length_toList];omega)];rw[List.getElem_set_self,List.take_set_of_le (Nat.le_refl _)];simp only[List.append_assoc,List.cons_append,List.nil_append];rw[show o+1+r.length=o+(r.length+1) by omega]
theorem ud{g:Nat}{t:TypeId}:∀ (l:List Value) (o:Nat) (cs:Array Value) (w:World),Whole w g t cs→vH w (w.setCells g o l) g∧Whole (w.setCells g o l) g t (splice cs o l)
 | [],_,_,w,h=>⟨vH.refl w g,h⟩
 | v::r,o,cs,w,h=>by
  have h1:Whole (w.setCell ⟨g,o,none⟩ v) g t (cs.setIfInBounds o v):=heap_setCell_same w g o cs t v h;have:=ud r (o+1) _ _ h1;exact⟨(vH.cell w g o v).trans this.1,this.2⟩
theorem uF{w:World}{base:Nat}{e:TypeId}{k n:Nat}{v:Value}{cs:List Value}(h:w.ownsRow base e k v n cs)(hn:0<n):
 ∃ g cap cur,v=.slice (some ⟨g,0,none⟩) n cap∧base≤g∧Whole w g e cur∧n≤cap∧cap≤maxLen∧cur.size=cap*k∧cur.toList.take (n*k)=cs:=by
 rcases h.2 with⟨_,rfl⟩|⟨g,cap,cur,hv,hg,hh,h1,h2,h3,h4⟩
 ·omega
 ·exact⟨g,cap,cur,hv,hg,hh,h1,h2,h3,h4⟩
theorem JK{k:Nat}{xs:List (List Value)}(hx:∀ x∈xs,x.length=k){i:Nat}{x:List Value}(h:xs[i]?=some x)(j:Nat)(hj:j<k):xs.flatten[i*k+j]?=x[j]?:=by
 induction xs generalizing i with
 | nil=>simp at h
 | cons y xs ih=>
  have hy:=hx y (by simp)
  cases i with
  | zero=>
   simp at h;subst h;rw[List.flatten_cons,Nat.zero_mul,Nat.zero_add,atb (by omega)]
  | succ i=>
   have:=ih (fun z hz=>hx z (by simp[hz])) (i:=i) (by simpa using h);rw[List.flatten_cons,atc (by rw[hy,Nat.add_mul];omega),← this];congr 1;rw[hy,Nat.add_mul];omega
section
variable {P:Program}
theorem wj(w:World)(b o:Nat)(ty:TypeId)(v:Value)(ht:w.there b o v.cells.size)(hi:(P.info? ty).map (·.size)=some v.cells.size)(h1:v.cells.toList.all (·.oneCell')=true):
 (storeVar ty ⟨b,o,none⟩ v).run P w=.ok () (w.setCells b o v.cells.toList):=by
 have h:=run_storeVar_mid (P:=P) w b o ty v.cells ht hi (by rw[← Array.all_toList];exact h1);have e:(Value.agg v.cells).cells=v.cells:=rfl;unfold storeVar at h ⊢;rw[e] at h;exact h
theorem Whole.there{w:World}{g:Nat}{t:TypeId}{cs:Array Value}(h:Whole w g t cs)(o n:Nat)(hn:o+n≤cs.size):w.there g o n:=fun j hj=>by
 refine⟨?_,h.frozen _⟩;rw[h.cell,Array.getElem?_eq_getElem (by omega)];rfl
theorem tU{op:Oper}{a:Act}{w:World}{K:Act→World→Prop}{Q:Exit→Act→World→Prop}(ty:TypeId)(x y:Operand)(ho:op.op=.store ty x y)
 (g o:Nat) (v:Value) (hx:a.eval x=.pointer (some ⟨g,o,none⟩)) (hy:a.eval y=v) (t:TypeId) (cs:Array Value) (hw:Whole w g t cs) (hfit:o+v.cells.size≤cs.size)
 (hi:(P.info? ty).map (·.size)=some v.cells.size) (h1:v.cells.toList.all (·.oneCell')=true)
 (h:∀ w',vH w w' g→Whole w' g t (splice cs o v.cells.toList)→K (a.put op.dst undef) w'):op.wp P a w K Q:=by
 unfold Oper.wp execOp;simp only[ho,hx,hy,Instr.storeAt,Instr.sureAddr,atf,Sem.run_pure,Result.andThen_ok,wj w g o ty v (hw.there o _ hfit) hi h1];have:=ud v.cells.toList o cs w hw;exact h _ this.1 this.2
theorem bp{ops:Array Oper}{rest:List Oper}{op:Oper}{a:Act}{w:World}{Q:Exit→Act→World→Prop}(hgd:op.guard=none)(ty:TypeId)(x y:Operand)(ho:op.op=.store ty x y)
 (g o:Nat) (v:Value) (hx:a.eval x=.pointer (some ⟨g,o,none⟩)) (hy:a.eval y=v) (t:TypeId) (cs:Array Value) (hw:Whole w g t cs) (hfit:o+v.cells.size≤cs.size)
 (hi:(P.info? ty).map (·.size)=some v.cells.size) (h1:v.cells.toList.all (·.oneCell')=true)
 (h:∀ w',vH w w' g→Whole w' g t (splice cs o v.cells.toList)→wpList P ops Q rest (a.put op.dst undef) w'):wpList P ops Q (op::rest) a w:=
 wpList_plain hgd fun _ hK=>tU ty x y ho g o v hx hy t cs hw hfit hi h1 fun w' h2 h3=>hK _ _ (h w' h2 h3)
end
end Go.Proofs.YtdcofoaihmongaaGreat
namespace Go.Proofs.YtdcofoaihmongaaGreat
def upd(L:Nat→Bool)(i:Nat):Nat→Bool:=fun j=>j == i||L j
def jj(P:Program)(ops:Array Oper)(I:(Nat→Bool)→Act→World→Prop):Nat→List Oper→Prop
 | _,[]=>True
 | i,o::r=>(∀ (L:Nat→Bool) (a:Act) (w:World) (Q':Exit→Act→World→Prop),I L a w→L i=false→(∀ e∈o.after.toList,Region.binds .any e=true→L e.on=true) →
  (∀ a w,I (upd L i) a w→Q' .normal a w)→wpList P ops Q' [o] a w)∧jj P ops I (i+1) r
def ordered:Nat→List Oper→Bool
 | _,[]=>true
 | i,o::r=>o.after.toList.all (fun e=>!Region.binds .any e||decide (e.on<i))&&ordered (i+1) r
theorem lE:∀ (k:Nat) (l:List Oper),ordered k l=true→∀ i o,l[i]?=some o→∀ e∈o.after.toList,Region.binds .any e=true→e.on<k+i
 | _,[],_,i,o,h,_,_,_=>by simp at h
 | k,x::r,h,0,o,ho,e,he,hb=>by
  simp only[ordered,ata,atg] at h;simp at ho;subst ho;have:=h.1 e he;rw[hb] at this;simpa using this
 | k,x::r,h,i+1,o,ho,e,he,hb=>by
  simp only[ordered,ata] at h;have:=lE (k+1) r h.2 i o (by simpa using ho) e he hb;omega
theorem Iu{P:Program}{ops:Array Oper}{I:(Nat→Bool)→Act→World→Prop}:∀ (k:Nat) (l:List Oper),jj P ops I k l→∀ i o,l[i]?=some o →
 ∀ (L:Nat→Bool) (a:Act) (w:World) (Q':Exit→Act→World→Prop),I L a w→L (k+i)=false→(∀ e∈o.after.toList,Region.binds .any e=true→L e.on=true) →
  (∀ a w,I (upd L (k+i)) a w→Q' .normal a w)→wpList P ops Q' [o] a w
 | _,[],_,i,o,h=>by simp at h
 | k,x::r,h,0,o,ho=>by
  simp at ho;subst ho;exact h.1
 | k,x::r,h,i+1,o,ho=>by
  have:=Iu (k+1) r h.2 i o (by simpa using ho)
  rwa [show k+1+i=k+(i+1) by omega] at this
section
variable {P:Program} {ops:Array Oper} {Q:Exit→Act→World→Prop}
theorem CB{listed:Array Bool}(hs:listed.size=ops.size)(eS:∀ (i:Nat) (o:Oper),ops[i]?=some o→∀ e∈o.after.toList,Region.binds .any e=true→e.on<i)(hr:Region.ready .any ops listed=[]):
 ∀ i,i<ops.size→listed.getD i false=true:=by
 intro i
 induction i using Nat.strongRecOn with
 | ind i ih=>
  intro hi;refine Classical.byContradiction fun hn=>?_
  have hm:i∈Region.ready .any ops listed:=mem_ready.2 ⟨by
   rw[ath,Array.getElem?_eq_getElem (by omega)] at hn ⊢;simpa using hn,ops[i],Array.getElem?_eq_getElem hi,fun e he hb=>ih e.on (eS i _ (Array.getElem?_eq_getElem hi) e (by simpa using he) hb) (Nat.lt_trans (eS i _ (Array.getElem?_eq_getElem hi) e (by simpa using he) hb) hi)⟩
  rw[hr] at hm;cases hm
theorem EF{i:Nat}{o:Oper}{a:Act}{w:World}{K:Act→World→Prop}(ho:ops[i]?=some o)
 (h:∀ Q':Exit→Act→World→Prop,(∀ a w,K a w→Q' .normal a w)→wpList P ops Q' [o] a w):wpOp P ops Q i K a w:=by
 have h1:=h (fun e a w=>match e with|.normal=>K a w|e=>Q e a w) (fun _ _ h=>h);unfold wpOp;rw[ho];simp only[wpList] at h1;dsimp only;split
 ·rename_i hw;rw[if_pos hw] at h1;refine h1.imp (fun h2=>?_) (fun h2=>⟨h2.1,h2.2⟩);unfold Oper.wp at *;generalize (execOp a.eval o).run P w=r at *
  cases r with
  | ok n w'=>
   cases n<;>simp only[Oper.upon] at h2 ⊢<;>first|exact h2|exact Calls.mono h2 (fun e w'' he=>by cases e<;>exact he)
  | halt x w'=>cases x<;>simp only[Oper.upon] at h2 ⊢<;>exact h2
 ·rename_i hw;rw[if_neg hw] at h1;exact h1
theorem PV(I:(Nat→Bool)→Act→World→Prop)(eS:∀ (i:Nat) (o:Oper),ops[i]?=some o→∀ e∈o.after.toList,Region.binds .any e=true→e.on<i)
 (hstep:∀ (i:Nat) (o:Oper),ops[i]?=some o→∀ (L:Nat→Bool) (a:Act) (w:World),I L a w→L i=false→(∀ e∈o.after.toList,Region.binds .any e=true→L e.on=true)→wpOp P ops Q i (I (upd L i)) a w)
 (hend:∀ (L:Nat→Bool) (a:Act) (w:World),I L a w→(∀ i,i<ops.size→L i=true)→Q .normal a w) :
 ∀ (fuel:Nat) (listed:Array Bool) (a:Act) (w:World),listed.size=ops.size→listed.toList.count false≤fuel→I (fun j=>listed.getD j false) a w→wpAny P .any ops Q fuel listed a w:=by
 intro fuel
 induction fuel with
 | zero=>
  intro listed a w hs hc hI
  have hr:Region.ready .any ops listed=[]:=by
   refine List.eq_nil_iff_forall_not_mem.2 fun j hj=>?_
   have h:=mem_ready.1 hj;obtain⟨h0,o,ho,_⟩:=h;have hlt:j<ops.size:=(Array.getElem?_eq_some_iff.1 ho).1
   have hmem:false∈listed.toList:=by
    rw[ath,Array.getElem?_eq_getElem (by omega)] at h0;simp only[Option.getD_some] at h0;rw[← h0];simp
   have:=List.count_pos_iff.2 hmem;omega
  exact⟨hr,hend _ a w hI (CB hs eS hr)⟩
 | succ fuel ih=>
  intro listed a w hs hc hI;refine⟨fun hr=>hend _ a w hI (CB hs eS hr),fun j hj=>?_⟩;have h:=mem_ready.1 hj;obtain⟨h0,o,ho,ha⟩:=h;have hlt:j<ops.size:=(Array.getElem?_eq_some_iff.1 ho).1;have hjl:j<listed.size:=by omega
  have h0':listed[j]=false:=by
   rw[ath,Array.getElem?_eq_getElem hjl] at h0;simpa using h0
  refine wpOp_mono (fun a' w' hI'=>ih (listed.setIfInBounds j true) a' w' (by simpa using hs) ?_ ?_) (hstep j o ho _ a w hI ?_ (fun e he hb=>ha e (by simpa using he) hb))
  ·rw[Array.toList_setIfInBounds,List.count_set (by simpa using hjl)]
   have hmem:false∈listed.toList:=by
    rw[← h0'];simp
   have:=List.count_pos_iff.2 hmem;have hb:(listed.toList[j] == false)=true:=by simpa using h0'
   rw[if_pos hb,if_neg (by simp)];omega
  ·have:(fun k=>(listed.setIfInBounds j true).getD k false)=upd (fun k=>listed.getD k false) j:=by
    funext k
    unfold upd;by_cases hk:k=j
    ·subst hk;simp[ath,hjl]
    ·have:(k == j)=false:=by simpa using hk
     simp only[this,Bool.false_or];rw[ath,ath,Array.getElem?_setIfInBounds_ne (Ne.symm hk)]
   rw[this];exact hI'
  ·rw[ath,Array.getElem?_eq_getElem hjl,Option.getD_some,h0']
theorem fV{id:Nat}{l:List Oper}{a:Act}{w:World}(hm:P.follows .mixedOrders=true)(eS:ordered 0 l=true)(I:(Nat→Bool)→Act→World→Prop)
 (h0:I (fun _=>false) a w.drew) (hstep:jj P l.toArray I 0 l) (hend:∀ (L:Nat→Bool) (a:Act) (w:World),I L a w→(∀ i,i<l.length→L i=true)→Q .normal a w) :
 (Code.region id l.toArray true).wp P Q a w:=by
 refine wp_region_any hm (PV I (fun i o ho e he hb=>?_) (fun i o ho L a w hI hL ha=>?_) (fun L a w hI hL=>hend L a w hI (by simpa using hL)) _ _ a _ (by simp) ?_ ?_)
 ·have:=lE 0 l eS i o (by simpa using ho) e he hb;omega
 ·refine EF ho fun Q' hQ'=>?_
  have:=Iu 0 l hstep i o (by simpa using ho) L a w Q' hI (by simpa using hL) ha (by simpa using hQ');exact this
 ·exact ate (List.count_le_length ..) (by simp)
 ·have:(fun j=>(Array.replicate l.toArray.size false).getD j false)=fun _=>false:=by
   funext j
   rw[ath,Array.getElem?_replicate];split<;>rfl
  rw[this];exact h0
end
end Go.Proofs.YtdcofoaihmongaaGreat
namespace Go.Proofs.YtdcofoaihmongaaGreat
open Go.RowKit
structure G5 (slots:List Nat) (aH:List (Value→World→Prop)) (inv:World→Prop) (t:Array Value) (d:List Deferred) (L:Nat→Bool) (a:Act) (w:World):Prop where
 defers:a.defers=d
 inv:inv w
 done:∀ i,L i=true→∀ s g,slots[i]?=some s→aH[i]?=some g→∃ v,a.tmps[s]?=some v∧g v w
 rest:∀ j,slots.contains j=false→a.tmps[j]?=t[j]?
 size:a.tmps.size=t.size
def eN(g:Value→World→Prop):Prop:=∀ v w w',g v w→Below w.heap.size w w'→g v w'
def j8:List (Value→World→Prop)→Prop
 | []=>True
 | g::r=>eN g∧j8 r
theorem wQ:∀ {l:List (Value→World→Prop)},j8 l→∀ g∈l,eN g
 | [],_,_,h=>by cases h
 | x::r,h,g,hg=>by
  rcases ati.1 hg with rfl|hg
  ·exact h.1
  ·exact wQ h.2 g hg
def bZ(x:Value):Value→World→Prop:=fun v _=>x=v
theorem ak(x:Value):eN (bZ x):=fun _ _ _ h _=>h
theorem lI{l:List Nat}(h:l.Nodup){i j s:Nat}(hi:l[i]?=some s)(hj:l[j]?=some s):i=j:=by
 obtain⟨hi1,hi2⟩:=atj.1 hi;obtain⟨hj1,hj2⟩:=atj.1 hj;have hp:=List.pairwise_iff_getElem.1 h;rcases Nat.lt_trichotomy i j with hlt|he|hlt
 ·exact absurd (hi2.trans hj2.symm) (hp i j hi1 hj1 hlt)
 ·exact he
 ·exact absurd (hj2.trans hi2.symm) (hp j i hj1 hi1 hlt)
def Laid(d:List Deferred)(w:World)(a:Act):List (Option Nat)→List (Value→World→Prop)→Array Value→Prop
 | some s::ss,g::gs,t=>∃ u,g u w∧Laid d w a ss gs (t.setIfInBounds s u)
 | none::ss,g::gs,t=>∃ u,g u w∧Laid d w a ss gs t
 | _,_,t=>a=⟨t,d⟩
structure vq (slots:List (Option Nat)) (aH:List (Value→World→Prop)) (inv:World→Prop) (t:Array Value) (d:List Deferred) (L:Nat→Bool) (a:Act) (w:World):Prop where
 defers:a.defers=d
 inv:inv w
 done:∀ i,L i=true→∀ g,aH[i]?=some g→∃ v,(∀ s,slots[i]?=some (some s)→a.tmps[s]?=some v)∧g v w
 rest:∀ j,slots.contains (some j)=false→a.tmps[j]?=t[j]?
 size:a.tmps.size=t.size
theorem zO{d:List Deferred}{w:World}{a:Act}(hd:a.defers=d):∀ (slots:List (Option Nat)) (aH:List (Value→World→Prop)) (t:Array Value),slots.length=aH.length →
 (∀ (i:Nat) (g:Value→World→Prop),aH[i]?=some g→∃ v,(∀ s,slots[i]?=some (some s)→a.tmps[s]?=some v)∧g v w)→(∀ j,slots.contains (some j)=false→a.tmps[j]?=t[j]?)→a.tmps.size=t.size→Laid d w a slots aH t
 | [],[],t,_,_,hr,_=>by
  show a=⟨t,d⟩;obtain⟨at',ad⟩:=a;have e1:at'=t:=Array.ext_getElem? fun j=>hr j rfl
  have e2:ad=d:=hd;rw[e1,e2]
 | none::ss,g::gs,t,hl,hg,hr,hs=>by
  obtain⟨u,_,hgu⟩:=hg 0 g rfl;refine⟨u,hgu,zO hd ss gs _ (by simpa using hl) (fun i g' h2=>?_) (fun j hj=>hr j ?_) hs⟩
  ·obtain⟨v,h3,h4⟩:=hg (i+1) g' (by simpa using h2);exact⟨v,fun s' h1=>h3 s' (by simpa using h1),h4⟩
  ·simp only[List.contains_cons,hj,Bool.or_false];rfl
 | some s::ss,g::gs,t,hl,hg,hr,hs=>by
  obtain⟨u,hu,hgu⟩:=hg 0 g rfl;have hu:=hu s rfl;refine⟨u,hgu,zO hd ss gs _ (by simpa using hl) (fun i g' h2=>?_) (fun j hj=>?_) (by rw[Array.size_setIfInBounds];exact hs)⟩
  ·obtain⟨v,h3,h4⟩:=hg (i+1) g' (by simpa using h2);exact⟨v,fun s' h1=>h3 s' (by simpa using h1),h4⟩
  ·by_cases h:s=j
   ·subst h;have hlt:s<a.tmps.size:=(Array.getElem?_eq_some_iff.1 hu).1;rw[hu,Array.getElem?_setIfInBounds_self_of_lt (by omega)]
   ·rw[Array.getElem?_setIfInBounds_ne h];refine hr j ?_;have h1:¬ j=s:=fun e=>h e.symm
    simp only[List.contains_cons,hj,Bool.or_false];simpa using h1
 | [],_::_,_,hl,_,_,_=>by simp at hl
 | _::_,[],_,hl,_,_,_=>by simp at hl
theorem vq.laid{slots:List (Option Nat)}{aH:List (Value→World→Prop)}{inv:World→Prop}{t:Array Value}{d:List Deferred}{L:Nat→Bool}{a:Act}{w:World}(h:vq slots aH inv t d L a w)(hl:slots.length=aH.length)
 (hL:∀ i,i<slots.length→L i=true):Laid d w a slots aH t:=
 zO h.defers slots aH t hl (fun i g h2=>h.done i (hL i (by rw[hl];exact(atj.1 h2).1)) g h2) h.rest h.size
def NI(R:World→World→Prop)(g:Value→World→Prop):Prop:=∀ v w w',g v w→R w w'→g v w'
def CJ(R:World→World→Prop)(m:Nat):Nat→List (Value→World→Prop)→Prop
 | _,[]=>True
 | i,g::r=>(i≠m→NI R g)∧CJ R m (i+1) r
theorem yA{R:World→World→Prop}{m:Nat}:∀ {k:Nat} {l:List (Value→World→Prop)},CJ R m k l→∀ (i:Nat) (g:Value→World→Prop),l[i]?=some g→k+i≠m→NI R g
 | _,[],_,i,_,h,_=>by simp at h
 | _,x::_,h,0,g,hg,hm=>by
  simp at hg;subst hg;exact h.1 hm
 | k,_::r,h,i+1,g,hg,hm=>yA h.2 i g (by simpa using hg) (by omega)
def Rm(R:World→World→Prop):Bool→World→World→Prop
 | true=>R
 | false=>fun w w'=>Below w.heap.size w w'
theorem aG{R:World→World→Prop}(x:Value):NI R (bZ x):=fun _ _ _ h _=>h
theorem Bb{l:List (Option Nat)}(h:(l.filterMap fun x=>x).Nodup):∀ {i j s:Nat},l[i]?=some (some s)→l[j]?=some (some s)→i=j:=by
 induction l with
 | nil=>intro i j s hi;simp at hi
 | cons x l ih=>
  have key:∀ {j s:Nat},x=some s→l[j]?=some (some s)→False:=by
   intro j s hx hj;subst hx;simp only[List.filterMap_cons,List.nodup_cons] at h;exact h.1 (List.mem_filterMap.2 ⟨some s,atk hj,rfl⟩)
  have h':(l.filterMap fun x=>x).Nodup:=by
   cases x with
   | none=>simpa[List.filterMap_cons] using h
   | some s=>simp only[List.filterMap_cons,List.nodup_cons] at h;exact h.2
  intro i j s hi hj
  cases i with
  | zero=>
   cases j with
   | zero=>rfl
   | succ j=>exact(key (by simpa using hi) (by simpa using hj)).elim
  | succ i=>
   cases j with
   | zero=>exact(key (by simpa using hj) (by simpa using hi)).elim
   | succ j=>exact congrArg (·+1) (ih h' (by simpa using hi) (by simpa using hj))
theorem vq.put{slots:List (Option Nat)}{aH:List (Value→World→Prop)}{inv:World→Prop}{t:Array Value}{d:List Deferred}{L:Nat→Bool}{a:Act}{w w':World}{i:Nat}{s:Option Nat}{v:Value}(h:vq slots aH inv t d L a w)
 (hnd:(slots.filterMap fun x=>x).Nodup) (hbd:slots.all (fun s=>decide (s.getD 0<t.size))=true) (hst:∀ (j:Nat) (g:Value→World→Prop),aH[j]?=some g→j≠i→∀ v,g v w→g v w') {UL:World→Prop} (hinv:UL w') (hs:slots[i]?=some s) (hg:∀ g:Value→World→Prop,aH[i]?=some g→g v w')
 {L':Nat→Bool} (hL:∀ j,L' j=true→j=i∨L j=true):vq slots aH UL t d L' (a.put s v) w':=by
 cases s with
 | none=>
  refine⟨h.defers,hinv,?_,h.rest,h.size⟩;intro j hj g' hg';by_cases hji:j=i
  ·subst hji;exact⟨v,fun s' hs'=>(by rw[hs] at hs';cases hs'),hg g' hg'⟩
  ·obtain⟨u,hu,hgu⟩:=h.done j ((hL j hj).resolve_left hji) g' hg';exact⟨u,hu,hst j g' hg' hji u hgu⟩
 | some s=>
  refine⟨h.defers,hinv,?_,?_,?_⟩
  ·intro j hj g' hg';by_cases hji:j=i
   ·subst hji;refine⟨v,fun s' hs'=>?_,hg g' hg'⟩;obtain rfl:s=s':=atl (atl (hs.symm.trans hs'))
    have hlt:s<a.tmps.size:=by
     rw[h.size];have:=atg.1 hbd (some s) (atk hs);simpa using this
    show(a.tmps.setIfInBounds s v)[s]?=some v;rw[Array.getElem?_setIfInBounds_self_of_lt hlt]
   ·obtain⟨u,hu,hgu⟩:=h.done j ((hL j hj).resolve_left hji) g' hg';refine⟨u,fun s' hs'=>?_,hst j g' hg' hji u hgu⟩;have hne:s≠s':=fun e=>hji (Bb hnd (e▸hs') hs)
    show(a.tmps.setIfInBounds s v)[s']?=some u;rw[Array.getElem?_setIfInBounds_ne hne];exact hu s' hs'
  ·intro j hj
   have hne:s≠j:=fun e=>by
    have hm:some j∈slots:=e▸atk hs;have:slots.contains (some j)=true:=by simpa using hm
    rw[this] at hj;cases hj
   show(a.tmps.setIfInBounds s v)[j]?=t[j]?;rw[Array.getElem?_setIfInBounds_ne hne];exact h.rest j hj
  ·show(a.tmps.setIfInBounds s v).size=t.size;rw[Array.size_setIfInBounds];exact h.size
def tR(R:World→World→Prop)(P:Program)(ops:Array Oper)(slots:List (Option Nat))(aH:List (Value→World→Prop))(inv:(Nat→Bool)→World→Prop)(m:Nat)(t:Array Value)(d:List Deferred)(Q:Exit→Act→World→Prop):Nat→List Oper→List (Value→World→Prop)→Prop
 | i,o::r,g::gs=>(∀ (L:Nat→Bool) (a:Act) (w:World) (Q':Exit→Act→World→Prop),L i=false→inv L w →
  (∀ k,(∃ gr,(⟨k,gr⟩:Edge)∈o.after.toList∧Region.binds .any ⟨k,gr⟩=true)→∀ g,aH[k]?=some g→∃ v,(∀ s,slots[k]?=some (some s)→a.tmps[s]?=some v)∧g v w) →
  (∀ j,slots.contains (some j)=false→a.tmps[j]?=t[j]?) →
  (∀ v w',Rm R (i == m) w w'→inv (upd L i) w'→g v w'→Q' .normal (a.put o.dst v) w')→wpList P ops Q' [o] a w)∧tR R P ops slots aH inv m t d Q (i+1) r gs
 | _,[o],[]=>∀ (a:Act) (w:World),Laid d w a slots aH t→∀ (L:Nat→Bool),inv L w→(∀ i,i<slots.length→L i=true)→∀ (Q':Exit→Act→World→Prop),(∀ a w,Q .normal a w→Q' .normal a w)→wpList P ops Q' [o] a w
 | _,_,_=>False
theorem IK{R:World→World→Prop}{P:Program}{ops:Array Oper}{slots:List (Option Nat)}{aH:List (Value→World→Prop)}{inv:(Nat→Bool)→World→Prop}{m:Nat}{t:Array Value}{d:List Deferred}{Q:Exit→Act→World→Prop}:∀ (k:Nat) (l:List Oper) (gs:List (Value→World→Prop)),tR R P ops slots aH inv m t d Q k l gs →
 l.length=gs.length+1 ∧
 (∀ (i:Nat) (o:Oper),l[i]?=some o→i<gs.length →
 (∀ (L:Nat→Bool) (a:Act) (w:World) (Q':Exit→Act→World→Prop),L (k+i)=false→inv L w →
  (∀ k,(∃ gr,(⟨k,gr⟩:Edge)∈o.after.toList∧Region.binds .any ⟨k,gr⟩=true)→∀ g,aH[k]?=some g→∃ v,(∀ s,slots[k]?=some (some s)→a.tmps[s]?=some v)∧g v w) →
  (∀ j,slots.contains (some j)=false→a.tmps[j]?=t[j]?) →
  (∀ v w',Rm R (k+i == m) w w'→inv (upd L (k+i)) w'→(∀ g:Value→World→Prop,gs[i]?=some g→g v w')→Q' .normal (a.put o.dst v) w')→wpList P ops Q' [o] a w)) ∧
 (∀ o,l[gs.length]?=some o→∀ (a:Act) (w:World),Laid d w a slots aH t→∀ (L:Nat→Bool),inv L w→(∀ i,i<slots.length→L i=true)→∀ (Q':Exit→Act→World→Prop),(∀ a w,Q .normal a w→Q' .normal a w)→wpList P ops Q' [o] a w)
 | k,x::r,g::gs,h=>by
  obtain⟨h1,h2,h3⟩:=IK (k+1) r gs h.2;refine⟨by simpa using h1,?_,fun o ho=>h3 o (by simpa using ho)⟩;intro i o ho hi
  cases i with
  | zero=>
   simp at ho;subst ho
   exact fun L a w Q' h0 h1 h2 h3 h4=>h.1 L a w Q' h0 h1 h2 h3 fun v w' hb hi hg=>h4 v w' hb hi fun g' e=>by
    simp at e;rw[← e];exact hg
  | succ i=>
   have:=h2 i o (by simpa using ho) (by simpa using hi);rw[show k+1+i=k+(i+1) by omega] at this;simpa using this
 | _,[o],[],h=>⟨rfl,fun i o' _ hi=>by simp at hi,fun o' ho'=>by simp at ho';subst ho';exact h⟩
 | _,[],_,h=>by cases ‹List (Value→World→Prop)›<;>exact h.elim
 | _,_::_::_,[],h=>h.elim
def consumed(l:List Oper):Bool:=(List.range (l.length-1)).all fun i=>l.any fun o=>o.after.toList.any fun e=>e.on == i&&Region.binds .any e
theorem mh{l:List Oper}(eS:ordered 0 l=true)(hc:consumed l=true)(L:Nat→Bool){n:Nat}(hn:l.length=n+1)
 (hcl:∀ j o,l[j]?=some o→j<n→L j=true→∀ e∈o.after.toList,Region.binds .any e=true→L e.on=true) (hlast:∀ o,l[n]?=some o→∀ e∈o.after.toList,Region.binds .any e=true→L e.on=true) :
 ∀ i,i<n→L i=true:=by
 have key:∀ m i,i<n→n-i=m→L i=true:=by
  intro m
  induction m using Nat.strongRecOn with
  | ind m ih=>
   intro i hi hm;have h1:=atg.1 hc i (by simp;omega);obtain⟨o,ho,h2⟩:=List.any_eq_true.1 h1;obtain⟨e,he,h3⟩:=List.any_eq_true.1 h2;simp only[ata,beq_iff_eq] at h3;obtain⟨rfl,hb⟩:=h3;obtain⟨j,hj⟩:=List.getElem?_of_mem ho;have hlt:=lE 0 l eS j o hj e he hb;have hjn:j<n+1:=by rw[← hn];exact(atj.1 hj).1
   by_cases hje:j=n
   ·subst hje;exact hlast o hj e he hb
   ·exact hcl j o hj (by omega) (ih (n-j) (by omega) j (by omega) rfl) e he hb
 exact fun i hi=>key _ i hi rfl
section
variable {P:Program} {Q:Exit→Act→World→Prop}
theorem fA{id:Nat}{l:List Oper}{t:Array Value}{d:List Deferred}{w:World}(R:World→World→Prop)(slots:List (Option Nat))(aH:List (Value→World→Prop))(inv:(Nat→Bool)→World→Prop)(m:Nat)
 (hm:P.follows .mixedOrders=true) (eS:ordered 0 l=true) (Jz:consumed l=true) (gG:(l.map (·.dst)).take slots.length=slots) (hnd:(slots.filterMap fun x=>x).Nodup) (hbd:slots.all (fun s=>decide (s.getD 0<t.size))=true) (hlen:slots.length=aH.length)
 (h0:inv (fun _=>false) w.drew) (aa_:j8 aH) (ahD:CJ R m 0 aH)
 (hstep:tR R P l.toArray slots aH inv m t d Q 0 l aH) :
 (Code.region id l.toArray true).wp P Q ⟨t,d⟩ w:=by
 obtain⟨hn,hat,hla⟩:=IK 0 l aH hstep;rw[← hlen] at hn hat hla
 have hsl:∀ (i:Nat) (o:Oper),l[i]?=some o→i<slots.length→slots[i]?=some o.dst:=fun i o ho hi=>by
  have h:=congrArg (fun x:List (Option Tmp)=>x[i]?) gG;simp only[atm,List.getElem?_take,if_pos hi,ho,Option.map_some] at h;exact h.symm
 have hst:=wQ aa_;have hsb:=yA ahD
 refine fV hm eS (fun L a w=>(∀ j o,l[j]?=some o→L j=true→∀ e∈o.after.toList,Region.binds .any e=true→L e.on=true) ∧
  (L slots.length=false→vq slots aH (inv L) t d (fun i=>L i&&decide (i<slots.length)) a w)∧(L slots.length=true→Q .normal a w)) ?_ ?_ ?_
 ·refine⟨fun _ _ _ h=>(by cases h),fun _=>?_,fun h=>(by cases h)⟩;exact⟨rfl,h0,fun i h=>by simp at h,fun _ _=>rfl,rfl⟩
 ·have key:∀ (i:Nat) (o:Oper),l[i]?=some o→∀ (L:Nat→Bool) (a:Act) (w:World) (Q':Exit→Act→World→Prop),
   ((∀ j o,l[j]?=some o→L j=true→∀ e∈o.after.toList,Region.binds .any e=true→L e.on=true)∧(L slots.length=false→vq slots aH (inv L) t d (fun i=>L i&&decide (i<slots.length)) a w)∧(L slots.length=true→Q .normal a w))→L i=false →
   (∀ e∈o.after.toList,Region.binds .any e=true→L e.on=true) →
   (∀ a w,((∀ j o,l[j]?=some o→upd L i j=true→∀ e∈o.after.toList,Region.binds .any e=true→upd L i e.on=true)∧(upd L i slots.length=false→vq slots aH (inv (upd L i)) t d (fun j=>upd L i j&&decide (j<slots.length)) a w)∧(upd L i slots.length=true→Q .normal a w))→Q' .normal a w) →
   wpList P l.toArray Q' [o] a w:=by
   intro i o ho L a w Q' ⟨hcl,hpl,hq⟩ hL hA hK;have hil:i<slots.length+1:=by rw[← hn];exact(atj.1 ho).1
   have up:∀ k,L k=true→upd L i k=true:=fun k hk=>by simp[upd,hk]
   have hcl':∀ j o,l[j]?=some o→upd L i j=true→∀ e∈o.after.toList,Region.binds .any e=true→upd L i e.on=true:=by
    intro j o' hj uN e he hb;by_cases hji:j=i
    ·subst hji;obtain rfl:o=o':=atl (ho.symm.trans hj);exact up _ (hA e he hb)
    ·have hne:(j == i)=false:=by simpa using hji
     exact up _ (hcl j o' hj (by simpa[upd,hne] using uN) e he hb)
   by_cases hin:i=slots.length
   ·subst hin;have hall:=mh eS Jz L hn (fun j o hj _=>hcl j o hj) (fun o' ho'=>by obtain rfl:o=o':=atl (ho.symm.trans ho');exact hA);refine hla o ho a w ((hpl hL).laid hlen fun i hi=>by simp[hall i hi,hi]) L (hpl hL).inv hall Q' fun a' w' hq'=>hK a' w' ⟨hcl',fun h=>?_,fun _=>hq'⟩
    simp[upd] at h
   ·have hi:i<slots.length:=by omega
    have hLn:L slots.length=false:=by
     cases hx:L slots.length with
     | false=>rfl
     | true=>
      have hall:=mh eS Jz L hn (fun j o hj _=>hcl j o hj) (fun o' ho'=>hcl _ o' ho' hx);rw[hall i hi] at hL;cases hL
    have hI:=hpl hLn;have hne:(slots.length == i)=false:=by simpa using fun e=>hin (Eq.symm e)
    have h1:=hat i o ho hi L a w Q' (by rw[Nat.zero_add];exact hL) hI.inv (fun k ⟨gr,hk,hb⟩ g hg=>hI.done k (by
     have hL1:=hA _ hk hb;have hlt:k<slots.length:=by rw[hlen];exact(atj.1 hg).1
     simp only[hlt,decide_true,Bool.and_true];exact hL1) g hg) hI.rest
    refine h1 fun v w' hb hii hg=>?_
    have hs:=hsl i o ho hi;rw[Nat.zero_add] at hii
    have MX:∀ (j:Nat) (g:Value→World→Prop),aH[j]?=some g→j≠i→∀ v,g v w→g v w':=by
     intro j g hg hne v hv;by_cases he:0+i=m
     ·have h2:(0+i == m)=true:=by simpa using he
      rw[h2] at hb;exact hsb j g hg (by omega) v w w' hv hb
     ·have h2:(0+i == m)=false:=by simpa using he
      rw[h2] at hb;exact hst g (atk hg) v w w' hv hb
    refine hK _ _ ⟨hcl',fun _=>?_,fun h=>?_⟩
    ·refine hI.put hnd hbd MX hii hs hg fun j hj=>?_
     by_cases hji:j=i
     ·exact .inl hji
     ·have:(j == i)=false:=by simpa using hji
      exact .inr (by simpa[upd,this] using hj)
    ·simp[upd,hne,hLn] at h
  have all:∀ (r:List Oper) (k:Nat),(∀ i o,r[i]?=some o→l[k+i]?=some o)→jj P l.toArray (fun L a w=>(∀ j o,l[j]?=some o→L j=true→∀ e∈o.after.toList,Region.binds .any e=true→L e.on=true) ∧
   (L slots.length=false→vq slots aH (inv L) t d (fun i=>L i&&decide (i<slots.length)) a w)∧(L slots.length=true→Q .normal a w)) k r:=by
   intro r
   induction r with
   | nil=>intro k _;trivial
   | cons o r ih=>
    intro k h;refine⟨fun L a w Q' hI hL hA hK=>key k o (h 0 o rfl) L a w Q' hI hL hA hK,ih (k+1) fun i o' ho'=>?_⟩;have:=h (i+1) o' (by simpa using ho')
    rwa [show k+1+i=k+(i+1) by omega]
  exact all l 0 fun i o ho=>by simpa using ho
 ·intro L a w hI hL;exact hI.2.2 (hL slots.length (by omega))
end
end Go.Proofs.YtdcofoaihmongaaGreat
namespace Go.Proofs.YtdcofoaihmongaaGreat
open Go Go.RowKit
def aJ(f:Nat→Int):Nat→Nat→Int
 | 0,_=>0
 | k+1,i=>if f i=0 then aJ f k (i+1) else f i
theorem cM(f:Nat→Int)(n:Nat):aJ f (n-n) n=0:=by rw[Nat.sub_self];rfl
theorem cN{f:Nat→Int}{n i:Nat}(h:i<n)(hf:f i≠0):aJ f (n-i) i=f i:=by
 obtain⟨k,hk⟩:∃ k,n-i=k+1:=⟨n-i-1,by omega⟩;rw[hk];exact if_neg hf
theorem bR{f:Nat→Int}{n i:Nat}(h:i<n)(hf:f i=0):aJ f (n-i) i=aJ f (n-(i+1)) (i+1):=by
 obtain⟨k,hk⟩:∃ k,n-i=k+1:=⟨n-i-1,by omega⟩;rw[hk,show n-(i+1)=k by omega];exact if_pos hf
theorem fJ{f:Nat→Int}:∀ (k i:Nat),aJ f k i=0↔∀ j,i≤j→j<i+k→f j=0
 | 0,i=>⟨fun _ j h1 h2=>by omega,fun _=>rfl⟩
 | k+1,i=>by
  unfold aJ;by_cases h:f i=0
  ·rw[if_pos h,fJ k (i+1)];constructor
   ·intro g j h1 h2;by_cases e:j=i
    ·subst e;exact h
    ·exact g j (by omega) (by omega)
   ·intro g j h1 h2;exact g j (by omega) (by omega)
  ·rw[if_neg h];exact⟨fun e=>absurd e h,fun g=>absurd (g i (by omega) (by omega)) h⟩
def lJ(f:Nat→Int):Nat→Int
 | 0=>0
 | i+1=>max (lJ f i) (f i)
theorem wJ{f:Nat→Int}{b:Int}(hb:0≤b):∀ n,(∀ i,i<n→f i≤b)→lJ f n≤b
 | 0,_=>hb
 | n+1,h=>Int.max_le.2 ⟨wJ hb n fun i hi=>h i (by omega),h n (by omega)⟩
theorem jH(f:Nat→Int):∀ n,0≤lJ f n
 | 0=>Int.le_refl 0
 | n+1=>Int.le_trans (jH f n) (Int.le_max_left _ _)
def fL(f:Nat→Bool):Nat→Nat→Bool
 | 0,_=>false
 | k+1,i=>f i||fL f k (i+1)
theorem iN(f:Nat→Bool)(n:Nat):fL f (n-n) n=false:=by rw[Nat.sub_self];rfl
theorem eP{f:Nat→Bool}{n i:Nat}(h:i<n)(hf:f i=true):fL f (n-i) i=true:=by
 obtain⟨k,hk⟩:∃ k,n-i=k+1:=⟨n-i-1,by omega⟩;rw[hk];show(f i||_)=true;rw[hf];rfl
theorem jR{f:Nat→Bool}{n i:Nat}(h:i<n)(hf:f i=false):fL f (n-i) i=fL f (n-(i+1)) (i+1):=by
 obtain⟨k,hk⟩:∃ k,n-i=k+1:=⟨n-i-1,by omega⟩;rw[hk,show n-(i+1)=k by omega];show(f i||_)=_;rw[hf];rfl
theorem sO{f:Nat→Bool}:∀ (k i:Nat),fL f k i=true↔∃ j,i≤j∧j<i+k∧f j=true
 | 0,i=>⟨fun h=>(by cases h),fun⟨j,h1,h2,_⟩=>by omega⟩
 | k+1,i=>by
  show(f i||fL f k (i+1))=true↔_;rw[Bool.or_eq_true,sO k (i+1)];constructor
  ·rintro(h|⟨j,h1,h2,h3⟩)
   ·exact⟨i,by omega,by omega,h⟩
   ·exact⟨j,by omega,by omega,h3⟩
  ·rintro⟨j,h1,h2,h3⟩;by_cases e:j=i
   ·subst e;exact .inl h3
   ·exact .inr ⟨j,by omega,by omega,h3⟩
section
variable {P:Program}
theorem za(w:World)(g o:Nat)(ty:TypeId)(cs:List Value)(d:TypeDesc)(hc:∀ j u,cs[j]?=some u→w.cell? ⟨g,o+j,none⟩=some u)
 (hu:P.underlying ty=some d) (hd:(match d with|.struct _|.array _ _=>true|_=>false)=true) (hi:(P.info? ty).map (·.size)=some cs.length) :
 (loadVar ty ⟨g,o,none⟩).run P w=.ok (.agg cs.toArray) w:=by
 have hl:(loadCells ⟨g,o,none⟩ cs.length).run P w=.ok cs.toArray w:=
  run_loadCells_list (P:=P) w ⟨g,o,none⟩ cs (fun j v hv=>by
   have hadd:(⟨g,o,none⟩:Addr).add j=⟨g,o+j,none⟩:=by unfold Addr.add;split<;>simp_all
   rw[hadd];exact hc j v hv)
 cases hq:P.info? ty with
 | none=>simp[hq] at hi
 | some i=>
  have hs:i.size=cs.length:=by simpa[hq] using hi
  have hagg:(isAgg ty).run P w=.ok true w:=by
   unfold isAgg;rw[atf,run_underlying hu w];cases d<;>simp_all
  simp[loadVar,atf,hagg,sizeOf,typeInfo,hq,hs,hl]
end
theorem G5.laid{slots:List Nat}{aH:List (Value→World→Prop)}{inv:World→Prop}{t:Array Value}{d:List Deferred}{L:Nat→Bool}{a:Act}{w:World}
 (h:G5 slots aH inv t d L a w) (hlen:slots.length=aH.length) (hall:∀ i,i<slots.length→L i=true):Laid d w a (slots.map some) aH t:=by
 refine zO h.defers _ _ _ (by simpa using hlen) (fun i g hg=>?_) (fun j hj=>h.rest j ?_) h.size
 ·have hi:i<slots.length:=by rw[hlen];exact(atj.1 hg).1
  obtain⟨v,h1,h2⟩:=h.done i (hall i hi) _ g (atd hi) hg;refine⟨v,fun s hs=>?_,h2⟩;simp only[atm,atd hi,Option.map_some,Option.some.injEq] at hs;rw[← hs];exact h1
 ·rw[Bool.eq_false_iff] at hj ⊢;intro e;apply hj;rw[List.contains_iff_mem] at e ⊢;exact List.mem_map_of_mem e
def LN:Array Value→List Nat→List Value→Array Value
 | t,s::ss,v::vs=>LN (t.setIfInBounds s v) ss vs
 | t,_,_=>t
theorem DZ{d:List Deferred}{w:World}{a:Act}:∀ (slots:List Nat) (vals:List Value) (t:Array Value),slots.length=vals.length→Laid d w a (slots.map some) (vals.map bZ) t→a=⟨LN t slots vals,d⟩
 | [],[],_,_,h=>h
 | s::ss,v::vs,t,hl,h=>by
  obtain⟨u,hu,h⟩:=h;cases hu;exact DZ ss vs _ (by simpa using hl) h
theorem G5.frame{slots:List Nat}{aH:List (Value→World→Prop)}{inv:World→Prop}{t:Array Value}{d:List Deferred}{L:Nat→Bool}{a:Act}{w:World}
 (h:G5 slots aH inv t d L a w) (hall:∀ i,i<slots.length→L i=true) (vals:List Value) (hg:aH=vals.map bZ) (hlen:slots.length=vals.length) {t':Array Value} (he:LN t slots vals=t'):a=⟨t',d⟩:=by
 subst hg he;exact DZ slots vals t hlen (h.laid (by simpa using hlen) hall)
end Go.Proofs.YtdcofoaihmongaaGreat
namespace Go.Proofs.YtdcofoaihmongaaGreat
open Go.RowKit
theorem gE{w w':World}{B base:Nat}{e:TypeId}{size n:Nat}{v:Value}{xs:List Value}(hb:Below B w w')(h:w.ownsRow base e size v n xs)(hB:w.heap.size≤B):w'.ownsRow base e size v n xs:=
 ⟨h.1,h.2.imp id fun⟨g,cap,cur,hv,hg,hh,r⟩=>⟨g,cap,cur,hv,hg,(hb.block g (atn (Array.getElem?_eq_some_iff.1 hh).1 hB)).trans hh,r⟩⟩
theorem jT{w:World}{base g:Nat}{e t:TypeId}{size n:Nat}{v:Value}{xs:List Value}{cs:Array Value}(h:w.ownsRow base e size v n xs)(hg:Whole w g t cs)(hne:e≠t):v.ownBlock≠some g:=by
 rcases h.2 with⟨rfl,_⟩|⟨g',cap,cur,rfl,_,hh,_⟩
 ·simp[Value.ownBlock]
 ·intro he;have hgg:g'=g:=by simpa[Value.ownBlock] using he
  subst hgg;unfold Whole at hg;rw[hh] at hg;simp only[Option.some.injEq,Obj.cells.injEq] at hg;exact hne hg.2.1
end Go.Proofs.YtdcofoaihmongaaGreat
namespace Go.Proofs.YtdcofoaihmongaaGreat
open Go Go.RowKit
def At(a:Act)(s:Nat)(v:Value):Prop:=a.tmps[s]?=some v
theorem At.ev{a:Act}{s:Nat}{v:Value}(h:At a s v):a.eval (.tmp s)=v:=by
 unfold At at h;show a.tmps.getD s undef=v;rw[ath,h];rfl
theorem At.eq{a:Act}{s:Nat}{v u:Value}(h:At a s v)(e:v=u):At a s u:=e▸h
structure Fr (a:Act) (N:Nat):Prop where
 defers:a.defers=[]
 size:a.tmps.size=N
structure Put (a:Act) (s:Nat) (v:Value) (a':Act):Prop where
 now:At a' s v
 old:∀ {j:Nat} {u:Value},(j == s)=false→At a j u→At a' j u
 fr:∀ {N:Nat},Fr a N→Fr a' N
theorem Put.eq{a a':Act}{s:Nat}{v u:Value}(h:Put a s v a')(e:v=u):Put a s u a':=e▸h
theorem qo{a:Act}{N d:Nat}{v:Value}(hf:Fr a N)(hd:d<N):Put a d v (a.put (some d) v):=by
 refine⟨?_,fun {j u} hj h=>?_,fun {N} h=>⟨h.defers,?_⟩⟩
 ·show(a.tmps.setIfInBounds d v)[d]?=some v;rw[Array.getElem?_setIfInBounds_self_of_lt (by rw[hf.size];exact hd)]
 ·show(a.tmps.setIfInBounds d v)[j]?=some u;have hne:d≠j:=fun e=>by subst e;simp at hj
  rw[Array.getElem?_setIfInBounds_ne hne];exact h
 ·show(a.tmps.setIfInBounds d v).size=N;rw[Array.size_setIfInBounds];exact h.size
section
variable {P:Program} {ops:Array Oper} {Q:Exit→Act→World→Prop} {a:Act} {w w':World} {rest:List Oper} {o:Oper} {v:Value} {d N:Nat}
theorem jU(hg:o.guard=none):Region.wanted o (yielded ops a.tmps)=true:=by simp[Region.wanted,hg]
theorem IW{j s:Nat}{b:Bool}(hg:o.guard=some (j,b))(hj:(ops[j]?).bind (·.dst)=some s)(h:At a s (.bool b)):Region.wanted o (yielded ops a.tmps)=true:=by
 unfold At at h;simp[Region.wanted,hg,yielded,hj,h]
theorem DT{j s:Nat}{b c:Bool}(hg:o.guard=some (j,b))(hj:(ops[j]?).bind (·.dst)=some s)(h:At a s (.bool c))(hne:(c == b)=false):Region.wanted o (yielded ops a.tmps)=false:=by
 unfold At at h;simp only[Region.wanted,hg,yielded,hj,Option.bind_some,h];simpa using hne
theorem QB{j s:Nat}{b:Bool}(hg:o.guard=some (j,b))(hj:(ops[j]?).bind (·.dst)=some s)(h:At a s undef):Region.wanted o (yielded ops a.tmps)=false:=by
 unfold At at h;simp only[Region.wanted,hg,yielded,hj,Option.bind_some,h];simp[undef]
theorem oA(hw:Region.wanted o (yielded ops a.tmps)=true)(hr:(execOp a.eval o).run P w=.ok (.value v) w')(hd:o.dst=some d)(hf:Fr a N)(hN:d<N)
 (next:∀ a',Put a d v a'→wpList P ops Q rest a' w'):wpList P ops Q (o::rest) a w:=
 wpList_step fun K hK=>by
  rw[if_pos hw];unfold Oper.wp;rw[hr,Oper.upon_value,hd];exact hK _ _ (next _ (qo hf hN))
theorem Ae(hw:Region.wanted o (yielded ops a.tmps)=false)(hd:o.dst=some d)(hf:Fr a N)(hN:d<N)
 (next:∀ a',Put a d undef a'→wpList P ops Q rest a' w):wpList P ops Q (o::rest) a w:=
 wpList_skip hw (by rw[hd];exact next _ (qo hf hN))
theorem W6(hw:Region.wanted o (yielded ops a.tmps)=true)(hr:(execOp a.eval o).run P w=.ok .skip w')(hd:o.dst=none)(next:wpList P ops Q rest a w'):wpList P ops Q (o::rest) a w:=
 wpList_step fun K hK=>by
  rw[if_pos hw];unfold Oper.wp;rw[hr,Oper.upon_skip,hd];exact hK _ _ next
theorem kI(hw:Region.wanted o (yielded ops a.tmps)=true){f:FuncId}{args:Array Value}(hr:(execOp a.eval o).run P w=.ok (.enter f args) w){R:Value→World→Prop}
 (hc:Calls P f args w fun e w'=>∃ v,e=.returned v∧R v w') (hd:o.dst=some d) (hf:Fr a N) (hN:d<N)
 (next:∀ v a' w',R v w'→Put a d v a'→wpList P ops Q rest a' w'):wpList P ops Q (o::rest) a w:=
 wpList_step fun K hK=>by
  rw[if_pos hw];unfold Oper.wp;rw[hr,Oper.upon_enter];refine hc.mono ?_;rintro e w' ⟨v,rfl,h⟩;show K _ _;rw[hd];exact hK _ _ (next v _ w' h (qo hf hN))
theorem xD{f:FuncId}{args:Array Value}{v:Value}{R:World→Prop}(h:Calls P f args w fun e w'=>e=.returned v∧R w'):Calls P f args w fun e w'=>∃ u,e=.returned u∧(u=v∧R w'):=
 h.mono fun _ _ ⟨h1,h2⟩=>⟨v,h1,rfl,h2⟩
theorem cQ{x:Operand}(ho:o.op=.move x)(hx:a.eval x=v):(execOp a.eval o).run P w=.ok (.value v) w:=by
 unfold execOp;simp only[ho,hx];rfl
theorem oh{x:Operand}(ho:o.op=.assign x)(hx:a.eval x=v):(execOp a.eval o).run P w=.ok (.value v) w:=by
 unfold execOp;simp only[ho,hx];rfl
theorem tH{c x y:Operand}{t:Bool}{u:Value}(ho:o.op=.pick c x y)(hc:a.eval c=.bool t)(hx:a.eval x=v)(hy:a.eval y=u):(execOp a.eval o).run P w=.ok (.value (if t then v else u)) w:=by
 unfold execOp;simp only[ho,hc,hx,hy];cases t<;>rfl
theorem Pn{x:Operand}{ty:TypeId}(ho:o.op=.box ty x)(hx:a.eval x=v):(execOp a.eval o).run P w=.ok (.value (.pointer (some ⟨w.heap.size,0,none⟩))) (w.alloc (.cells v.cells ty)):=by
 unfold execOp;simp only[ho,hx,atf,Instr.box,newVar,newRow,run_newObj_alloc,Sem.run_pure,Result.andThen_ok]
theorem TK{ty:TypeId}{z:Value}(hz:(P.info? ty).bind (·.zero)=some z)(w:World):(zeroValue ty).run P w=.ok z w:=by
 unfold zeroValue typeInfo
 cases hi:P.info? ty with
 | none=>rw[hi] at hz;cases hz
 | some i=>
  rw[hi] at hz;have hz':i.zero=some z:=hz;simp[atf,hi,hz']
theorem uT{ty:TypeId}{z:Value}(ho:o.op=.alloc ty)(hz:(P.info? ty).bind (·.zero)=some z):(execOp a.eval o).run P w=.ok (.value (.pointer (some ⟨w.heap.size,0,none⟩))) (w.alloc (.cells z.cells ty)):=by
 unfold execOp;simp only[ho,Instr.alloc,atf,TK hz,Result.andThen_ok,newVar,newRow,run_newObj_alloc,Sem.run_pure]
theorem bW{ty:TypeId}{x:Operand}{p:Addr}{dd:TypeDesc}(ho:o.op=.load ty x)(hx:a.eval x=.pointer (some p))(hu:P.underlying ty=some dd)
 (hd:(match dd with|.struct _|.array _ _=>false|_=>true)=true) (hc:w.cell? p=some v):(execOp a.eval o).run P w=.ok (.value v) w:=by
 have hagg:(isAgg ty).run P w=.ok false w:=by
  unfold isAgg;rw[atf,run_underlying hu w];cases dd<;>simp_all
 unfold execOp;simp only[ho,hx,Instr.loadAt,Instr.sureAddr,atf,Sem.run_pure,Result.andThen_ok,loadVar,hagg];simp[run_load,hc]
theorem gW{ty:TypeId}{x:Operand}{g f:Nat}(cs:List Value){dd:TypeDesc}(ho:o.op=.load ty x)(hx:a.eval x=.pointer (some ⟨g,f,none⟩))(hu:P.underlying ty=some dd)
 (hd:(match dd with|.struct _|.array _ _=>true|_=>false)=true) (hi:(P.info? ty).map (·.size)=some cs.length) (hc:∀ j u,cs[j]?=some u→w.cell? ⟨g,f+j,none⟩=some u):(execOp a.eval o).run P w=.ok (.value (.agg cs.toArray)) w:=by
 unfold execOp;simp only[ho,hx,Instr.loadAt,Instr.sureAddr,atf,Sem.run_pure,Result.andThen_ok,za w g f ty cs dd hc hu hd hi]
theorem dJ{x:Operand}{p:Addr}(ho:o.op=.nilCheck x)(hx:a.eval x=.pointer (some p)):(execOp a.eval o).run P w=.ok (.value (.pointer (some p))) w:=by
 unfold execOp;simp only[ho,hx];rfl
theorem kN{ty:TypeId}{x:Operand}{f g off:Nat}{fs:Array Field}{fd:Field}{k:Nat}(ho:o.op=.fieldAddr ty x f)(hx:a.eval x=.pointer (some ⟨g,off,none⟩))(hu:P.underlying ty=some (.struct fs))(hf:fs[f]?=some fd)
 (hs:(P.info? fd.type).map (·.size)=some (k+1)):(execOp a.eval o).run P w=.ok (.value (.pointer (some ⟨g,off+fd.offset,none⟩))) w:=by
 have hadd:(⟨g,off,none⟩:Addr).add fd.offset=⟨g,off+fd.offset,none⟩:=by unfold Addr.add;split<;>simp_all
 have hsz:(sizeOf fd.type).run P w=.ok (k+1) w:=by
  cases hq:P.info? fd.type with
  | none=>simp[hq] at hs
  | some i=>
   have hs':i.size=k+1:=by simpa[hq] using hs
   simp[sizeOf,typeInfo,hq,hs',atf]
 unfold execOp;simp only[ho,hx,Instr.fieldAt,atf,run_underlying hu w,Result.andThen_ok,hf,Instr.sureAddr,Sem.run_pure,fieldPlace,hsz];simp[hadd]
theorem run_sizeOf{ty:TypeId}{k:Nat}(hs:(P.info? ty).map (·.size)=some k)(w:World):(sizeOf ty).run P w=.ok k w:=by
 cases hq:P.info? ty with
 | none=>simp[hq] at hs
 | some i=>
  have hs':i.size=k:=by simpa[hq] using hs
  simp[sizeOf,typeInfo,hq,hs',atf]
theorem bE{ty e:TypeId}{x y:Operand}{g off n c i k:Nat}{ik:IntKind}(ho:o.op=.indexAddr ty x y)(hx:a.eval x=.slice (some ⟨g,off,none⟩) n c)(hy:a.eval y=.int ik (i:Int))(hi:i<n)(hu:P.underlying ty=some (.slice e))
 (hs:(P.info? e).map (·.size)=some k):(execOp a.eval o).run P w=.ok (.value (.pointer (some ⟨g,off+i*k,none⟩))) w:=by
 have hadd:(⟨g,off,none⟩:Addr).add (i*k)=⟨g,off+i*k,none⟩:=by unfold Addr.add;split<;>simp_all
 unfold execOp;simp only[ho,hx,hy,Instr.indexAt,asIntOf,atf,run_underlying hu w,Result.andThen_ok,Sem.run_pure];have h1:(0:Int)≤(i:Int)∧(i:Int)<(n:Int):=by omega
 simp[h1,run_sizeOf hs,hadd]
theorem tK{ty e:TypeId}{x y:Operand}{g off n i k:Nat}{ik:IntKind}(ho:o.op=.indexAddr ty x y)(hx:a.eval x=.pointer (some ⟨g,off,none⟩))(hy:a.eval y=.int ik (i:Int))(hi:i<n)(hu:P.underlying ty=some (.array n e))
 (hs:(P.info? e).map (·.size)=some k):(execOp a.eval o).run P w=.ok (.value (.pointer (some ⟨g,off+i*k,none⟩))) w:=by
 have hadd:(⟨g,off,none⟩:Addr).add (i*k)=⟨g,off+i*k,none⟩:=by unfold Addr.add;split<;>simp_all
 unfold execOp;simp only[ho,hx,hy,Instr.indexAt,asIntOf,atf,run_underlying hu w,Result.andThen_ok,Sem.run_pure,Instr.sureAddr];have h1:(0:Int)≤(i:Int)∧(i:Int)<(n:Int):=by omega
 simp[h1,run_sizeOf hs,hadd]
theorem tI{ty:TypeId}{x y:Operand}{s:ByteArray}{i:Nat}{ik:IntKind}(ho:o.op=.index ty x y)(hx:a.eval x=.string s)(hy:a.eval y=.int ik (i:Int))(hi:i<s.size)(hu:P.underlying ty=some .string):
 (execOp a.eval o).run P w=.ok (.value (.int .u8 ((s[i]'hi).toNat:Int))) w:=by
 unfold execOp;simp only[ho,hx,hy,Instr.index,asIntOf,atf,run_underlying hu w,Result.andThen_ok,Sem.run_pure];simp[hi]
section
variable {ty yt:TypeId} {x y:Operand} {k:IntKind} {m n:Int}
theorem jf(ho:o.op=.binOp .lss ty x y yt)(hx:a.eval x=.int k m)(hy:a.eval y=.int k n):(execOp a.eval o).run P w=.ok (.value (.bool (decide (m<n)))) w:=by
 unfold execOp;simp[ho,hx,hy,eqGuard,binOp,Op.intCmp]
theorem ZU(ho:o.op=.binOp .leq ty x y yt)(hx:a.eval x=.int k m)(hy:a.eval y=.int k n):(execOp a.eval o).run P w=.ok (.value (.bool (decide (m≤n)))) w:=by
 unfold execOp;simp[ho,hx,hy,eqGuard,binOp,Op.intCmp]
theorem JV(ho:o.op=.binOp .gtr ty x y yt)(hx:a.eval x=.int k m)(hy:a.eval y=.int k n):(execOp a.eval o).run P w=.ok (.value (.bool (decide (n<m)))) w:=by
 unfold execOp;simp[ho,hx,hy,eqGuard,binOp,Op.intCmp]
theorem JW(ho:o.op=.binOp .geq ty x y yt)(hx:a.eval x=.int k m)(hy:a.eval y=.int k n):(execOp a.eval o).run P w=.ok (.value (.bool (decide (n≤m)))) w:=by
 unfold execOp;simp[ho,hx,hy,eqGuard,binOp,Op.intCmp]
theorem Pj(ho:o.op=.binOp .eql ty x y yt)(hx:a.eval x=.int k m)(hy:a.eval y=.int k n):(execOp a.eval o).run P w=.ok (.value (.bool (decide (m=n)))) w:=by
 unfold execOp;simp[ho,hx,hy,eqGuard,binOp,Op.intCmp];rfl
theorem V5(ho:o.op=.binOp .neq ty x y yt)(hx:a.eval x=.int k m)(hy:a.eval y=.int k n):(execOp a.eval o).run P w=.ok (.value (.bool (!decide (m=n)))) w:=by
 unfold execOp;simp[ho,hx,hy,eqGuard,binOp,Op.intCmp];rfl
theorem eV(ho:o.op=.binOp .add ty x y yt)(hx:a.eval x=.int k m)(hy:a.eval y=.int k n):(execOp a.eval o).run P w=.ok (.value (.int k (k.wrap (m+n)))) w:=by
 unfold execOp;simp[ho,hx,hy,eqGuard,binOp,Op.intArith]
theorem JT(ho:o.op=.binOp .sub ty x y yt)(hx:a.eval x=.int k m)(hy:a.eval y=.int k n):(execOp a.eval o).run P w=.ok (.value (.int k (k.wrap (m-n)))) w:=by
 unfold execOp;simp[ho,hx,hy,eqGuard,binOp,Op.intArith]
theorem V6(ho:o.op=.binOp .mul ty x y yt)(hx:a.eval x=.int k m)(hy:a.eval y=.int k n):(execOp a.eval o).run P w=.ok (.value (.int k (k.wrap (m*n)))) w:=by
 unfold execOp;simp[ho,hx,hy,eqGuard,binOp,Op.intArith]
theorem JX(ho:o.op=.binOp .and ty x y yt)(hx:a.eval x=.int k m)(hy:a.eval y=.int k n):(execOp a.eval o).run P w=.ok (.value (.int k (k.wrap (BitVec.ofInt k.bits m&&&BitVec.ofInt k.bits n).toNat))) w:=by
 unfold execOp;simp[ho,hx,hy,eqGuard,binOp,Op.intBits]
theorem V3(ho:o.op=.binOp .or ty x y yt)(hx:a.eval x=.int k m)(hy:a.eval y=.int k n):(execOp a.eval o).run P w=.ok (.value (.int k (k.wrap (BitVec.ofInt k.bits m|||BitVec.ofInt k.bits n).toNat))) w:=by
 unfold execOp;simp[ho,hx,hy,eqGuard,binOp,Op.intBits]
theorem V2(ho:o.op=.binOp .xor ty x y yt)(hx:a.eval x=.int k m)(hy:a.eval y=.int k n):(execOp a.eval o).run P w=.ok (.value (.int k (k.wrap (BitVec.ofInt k.bits m ^^^ BitVec.ofInt k.bits n).toNat))) w:=by
 unfold execOp;simp[ho,hx,hy,eqGuard,binOp,Op.intBits]
theorem V7(ho:o.op=.binOp .andNot ty x y yt)(hx:a.eval x=.int k m)(hy:a.eval y=.int k n):(execOp a.eval o).run P w=.ok (.value (.int k (k.wrap (BitVec.ofInt k.bits m&&&~~~ BitVec.ofInt k.bits n).toNat))) w:=by
 unfold execOp;simp[ho,hx,hy,eqGuard,binOp,Op.intBits]
theorem pq{b:Bool}(ho:o.op=.unOp .not ty x)(hx:a.eval x=.bool b):(execOp a.eval o).run P w=.ok (.value (.bool (!b))) w:=by
 unfold execOp;simp[ho,hx,Op.unary]
theorem V4(ho:o.op=.unOp .neg ty x)(hx:a.eval x=.int k m):(execOp a.eval o).run P w=.ok (.value (.int k (k.wrap (0-m)))) w:=by
 unfold execOp;simp[ho,hx,Op.unary,Op.intArith]
theorem cO{s t:ByteArray}(ho:o.op=.binOp .eql ty x y yt)(hx:a.eval x=.string s)(hy:a.eval y=.string t):(execOp a.eval o).run P w=.ok (.value (.bool (s.toList == t.toList))) w:=by
 unfold execOp;simp[ho,hx,hy,eqGuard,binOp,Op.stringOp]
theorem afk{s t:ByteArray}(ho:o.op=.binOp .neq ty x y yt)(hx:a.eval x=.string s)(hy:a.eval y=.string t):(execOp a.eval o).run P w=.ok (.value (.bool (!(s.toList == t.toList)))) w:=by
 unfold execOp;simp[ho,hx,hy,eqGuard,binOp,Op.stringOp]
def gI(s:ByteArray):Bool:=s.toList == (⟨#[]⟩:ByteArray).toList
theorem afn{s:ByteArray}(ho:o.op=.binOp .eql ty x y yt)(hx:a.eval x=.string s)(hy:a.eval y=.string ⟨#[]⟩):(execOp a.eval o).run P w=.ok (.value (.bool (gI s))) w:=cO ho hx hy
end
theorem fQ{t e:TypeId}{x:Operand}{g:Option Addr}{n c:Nat}(ho:o.op=.call { callee:=.builtin .len,args:=#[x],argTypes:=#[t] })(hx:a.eval x=.slice g n c)(hu:P.underlying t=some (.slice e)):
 (execOp a.eval o).run P w=.ok (.value (.int .i64 (n:Int))) w:=by
 unfold execOp;simp[ho,hx,resolve,invoke,builtin,Builtin.len_,run_underlying hu,atf,goInt]
theorem B_{t:TypeId}{x:Operand}{s:ByteArray}(ho:o.op=.call { callee:=.builtin .len,args:=#[x],argTypes:=#[t] })(hx:a.eval x=.string s)(hu:P.underlying t=some .string):
 (execOp a.eval o).run P w=.ok (.value (.int .i64 (s.size:Int))) w:=by
 unfold execOp;simp[ho,hx,resolve,invoke,builtin,Builtin.len_,run_underlying hu,atf,goInt]
theorem bX{x:Operand}{i:Nat}{vs:Array Value}(ho:o.op=.extract x i)(hx:a.eval x=.tuple vs)(hi:vs[i]?=some v):(execOp a.eval o).run P w=.ok (.value v) w:=by
 unfold execOp;simp[ho,hx,Instr.extract,hi]
theorem fS{f:FuncId}{xs:Array Operand}{ts:Array TypeId}{fn:Func}{c:Code}{args:Array Value}(ho:o.op=.call { callee:=.value (.func f),args:=xs,argTypes:=ts })(hf:P.funcs[f]?=some fn) (hn:(fn.name == "runtime.NumGoroutine")=false) (hb:fn.body=some c)
 (ha:xs.map a.eval=args):(execOp a.eval o).run P w=.ok (.enter f args) w:=by
 have h0:fn.body.isNone=false:=by rw[hb];rfl
 unfold execOp;simp only[ho,resolve,ha,Act.eval,Deferred.ofValue,invoke,callFunc,atf,Sem.run_pure,Result.andThen_ok,run_program,hf,hn,h0];simp
theorem oP{t e:TypeId}{len k:Nat}{parts:Array (Nat×Operand)}{cells:Array Value}{z:Value}(ho:o.op=.buildSlice t len parts)(hu:P.underlying t=some (.slice e))(hs:(P.info? e).map (·.size)=some k)(hz:(P.info? e).bind (·.zero)=some z)
 (hsmall:len*k≤2^24) (hpos:0<len*k) {pv:Array (Nat×Value)} (hp:(parts.map fun(i,x)=>(i,a.eval x))=pv) (h:Instr.fill (fun i=>some (i*k,k)) ((Array.range (len*k)).map (z.cells[·%z.cells.size]!)) pv.toList=some cells) :
 (execOp a.eval o).run P w=.ok (.value (.slice (some ⟨w.heap.size,0,none⟩) len len)) (w.alloc (.cells cells e)):=by
 subst hp
 cases hi:P.info? e with
 | none=>rw[hi] at hz;cases hz
 | some i=>
  rw[hi] at hz hs;have hz':i.zero=some z:=hz;have hs':i.size=k:=by simpa using hs
  subst hs';have:=run_buildSlice (P:=P) w t e len (parts.map fun(i,x)=>(i,a.eval x)) cells i z hu hi hz' (by omega) (by omega) h;unfold execOp;simp only[ho,atf,this,Result.andThen_ok,Sem.run_pure]
structure New (w w':World) (g:Nat) (ty:TypeId) (cs:Array Value):Prop where
 at_:w.heap.size=g
 eq:w'=w.alloc (.cells cs ty)
theorem New.whole{g:Nat}{ty:TypeId}{cs:Array Value}(h:New w w' g ty cs):Whole w' g ty cs:=by
 rw[h.eq,← h.at_];exact Whole.new w ty cs
theorem New.below{g:Nat}{ty:TypeId}{cs:Array Value}(h:New w w' g ty cs):ato w.heap.size w w':=by
 rw[h.eq];exact(Below.refl _ w).alloc (Nat.le_refl _) _
theorem Af(hw:Region.wanted o (yielded ops a.tmps)=true){ty:TypeId}{cs:Array Value}{f:Nat→Value}(hr:(execOp a.eval o).run P w=.ok (.value (f w.heap.size)) (w.alloc (.cells cs ty)))(hd:o.dst=some d)(hf:Fr a N)(hN:d<N)
 (next:∀ g a' w',New w w' g ty cs→Put a d (f g) a'→wpList P ops Q rest a' w'):wpList P ops Q (o::rest) a w:=
 oA hw hr hd hf hN fun a' p=>next w.heap.size a' _ ⟨rfl,rfl⟩ p
theorem pQ(hw:Region.wanted o (yielded ops a.tmps)=true){ty:TypeId}{x y:Operand}(ho:o.op=.store ty x y){g f:Nat}(hx:a.eval x=.pointer (some ⟨g,f,none⟩))(hy:a.eval y=v){t:TypeId}{cs cs':Array Value}(H:Whole w g t cs)
 {l:List Value} (hl:v.cells.toList=l) (hfit:f+l.length≤cs.size) (hi:(P.info? ty).map (·.size)=some l.length) (h1:l.all (·.oneCell')=true) (hsp:splice cs f l=cs') (hd:o.dst=none)
 (next:∀ w',vH w w' g→Whole w' g t cs'→wpList P ops Q rest a w'):wpList P ops Q (o::rest) a w:=by
 subst hl hsp;have hsz:v.cells.size=v.cells.toList.length:=by simp
 refine wpList_step fun K hK=>?_
 rw[if_pos hw];refine tU ty x y ho g f v hx hy t cs H (by rw[hsz];exact hfit) (by rw[hsz];exact hi) h1 fun w' h2 h3=>?_
 rw[hd];exact hK _ _ (next w' h2 h3)
theorem acj{ty yt:TypeId}{x y:Operand}{xs ys:Array Value}{b:Bool}(ho:o.op=.binOp .eql ty x y yt)(hx:a.eval x=.agg xs)(hy:a.eval y=.agg ys)(hm:P.eqGuardType P.depth ty=false)
 (hq:(Op.equalIn 10000 ty (.agg xs) (.agg ys)).run P w=.ok b w):(execOp a.eval o).run P w=.ok (.value (.bool b)) w:=by
 unfold execOp;simp[ho,hx,hy,run_eqGuard_agg (hm:=hm),run_eql_struct,hq]
theorem acg{ty yt:TypeId}{x y:Operand}{xs ys:Array Value}{b:Bool}(ho:o.op=.binOp .neq ty x y yt)(hx:a.eval x=.agg xs)(hy:a.eval y=.agg ys)(hm:P.eqGuardType P.depth ty=false)
 (hq:(Op.equalIn 10000 ty (.agg xs) (.agg ys)).run P w=.ok b w):(execOp a.eval o).run P w=.ok (.value (.bool (!b))) w:=by
 unfold execOp;simp[ho,hx,hy,run_eqGuard_agg (hm:=hm),run_neq_struct,hq]
theorem uS{t:TypeId}{parts:Array (Nat×Operand)}{cells:Array Value}(ho:o.op=.build t parts){pv:Array (Nat×Value)}(hp:(parts.map fun(i,x)=>(i,a.eval x))=pv)(h:P.built t pv.toList=some cells):
 (execOp a.eval o).run P w=.ok (.value (.agg cells)) w:=by
 subst hp;unfold execOp;simp only[ho,atf,run_build w t _ cells h,Result.andThen_ok,Sem.run_pure]
theorem _root_.Go.RowKit.Below.step{w0 w1 w2:World}{B:Nat}(h:ato B w0 w1)(k:ato w1.heap.size w1 w2)(hB:B≤w1.heap.size):ato B w0 w2:=h.trans (k.mono hB)
end
theorem rZ{b:Bool}(h:b=true):¬ b=false:=by rw[h];decide
theorem rY{b:Bool}(h:b=false):¬ b=true:=by rw[h];decide
theorem jm(cs:Array Value)(l:List Value)(h:cs.size=l.length):splice cs 0 l=l.toArray:=by
 apply Array.toList_inj.1;rw[jG _ _ _ (by omega)];simp[List.drop_of_length_le (show cs.toList.length≤l.length by simp[h])]
section
variable {w:World} {a:Act} {g f:Nat} {t:TypeId} {cs:Array Value}
theorem Ag{l:List Value}(h:Whole w g t cs)(hl:l=(cs.toList.drop f).take l.length):∀ j u,l[j]?=some u→w.cell? ⟨g,f+j,none⟩=some u:=fun j u hu=>by
 rw[h.cell];have hj:j<l.length:=(atj.1 hu).1;rw[hl,List.getElem?_take,if_pos hj,List.getElem?_drop] at hu;simpa using hu
theorem AL{b o:Nat}{k l:List Value}(h:∀ j u,k[j]?=some u→w.cell? ⟨b,o+j,none⟩=some u)(hl:l=(k.drop f).take l.length):∀ j u,l[j]?=some u→w.cell? ⟨b,o+f+j,none⟩=some u:=fun j u hu=>by
 have hj:j<l.length:=(atj.1 hu).1;rw[hl,List.getElem?_take,if_pos hj,List.getElem?_drop] at hu;rw[Nat.add_assoc];exact h _ u hu
variable {x1 x2 x3 x4 x5 x6:Operand} {v1 v2 v3 v4 v5 v6:Value}
theorem args1(h1:a.eval x1=v1):#[x1].map a.eval=#[v1]:=by simp[h1]
theorem args2(h1:a.eval x1=v1)(h2:a.eval x2=v2):#[x1,x2].map a.eval=#[v1,v2]:=by simp[h1,h2]
theorem Z0(h1:a.eval x1=v1)(h2:a.eval x2=v2)(h3:a.eval x3=v3):#[x1,x2,x3].map a.eval=#[v1,v2,v3]:=by simp[h1,h2,h3]
end
theorem wrap_i64{n:Int}(h:-9223372036854775808≤n∧n≤9223372036854775807):IntKind.i64.wrap n=n:=IntWalk.i64_in n h
section
variable {P:Program} {Q:Exit→Act→World→Prop} {a:Act} {w:World}
theorem S9{f:FuncId}{fn:Func}{c:Code}{args:Array Value}{R:Ending→World→Prop}{N:Nat}(hf:P.funcs[f]?=some fn)(hb:fn.body=some c)(hn:fn.ntmps=N)(hN:args.size≤N)
 (h:∀ a,Fr a N→(∀ i v,args[i]?=some v→At a i v)→c.wp P (bodyPost P fn R) a w):Calls P f args w R:=by
 refine calls_of_wp hf hb (h _ ⟨rfl,?_⟩ ?_)
 ·simp;omega
 ·intro i v hv;have hi:i<args.size:=(Array.getElem?_eq_some_iff.1 hv).1;show(args++Array.replicate (fn.ntmps-args.size) undef)[i]?=some v;rw[Array.getElem?_append_left hi];exact hv
theorem ah{id:Nat}{l:List Oper}(h:wpList P l.toArray Q l a w):(Code.region id l.toArray false).wp P Q a w:=wp_region_lit h
theorem S8{fn:Func}{R:Ending→World→Prop}{N s:Nat}{v:Value}(hr:fn.results=#[.tmp s])(hf:Fr a N)(h:At a s v)(hR:R (.returned v) w):bodyPost P fn R .ret a w:=by
 refine⟨hf.defers,v,?_,hR⟩;have he:a.tmps.getD s undef=v:=h.ev;rw[ath] at he;simp[results,hr,he]
theorem N_{fn:Func}{R:Ending→World→Prop}{N s t:Nat}{v u:Value}(hr:fn.results=#[.tmp s,.tmp t])(hf:Fr a N)(h:At a s v)(k:At a t u)(hR:R (.returned (.tuple #[v,u])) w):bodyPost P fn R .ret a w:=by
 refine⟨hf.defers,_,?_,hR⟩;have he:a.tmps.getD s undef=v:=h.ev;have ke:a.tmps.getD t undef=u:=k.ev;rw[ath] at he ke;simp[results,hr,he,ke]
theorem W7{fn:Func}{R:Ending→World→Prop}{N s t r:Nat}{v u x:Value}(hr:fn.results=#[.tmp s,.tmp t,.tmp r])(hf:Fr a N)(h:At a s v)(k:At a t u)(l:At a r x)(hR:R (.returned (.tuple #[v,u,x])) w):bodyPost P fn R .ret a w:=by
 refine⟨hf.defers,_,?_,hR⟩;have he:a.tmps.getD s undef=v:=h.ev;have ke:a.tmps.getD t undef=u:=k.ev;have le:a.tmps.getD r undef=x:=l.ev;rw[ath] at he ke le;simp[results,hr,he,ke,le]
theorem Oa{fn:Func}{R:Ending→World→Prop}{N:Nat}(hr:fn.results=#[])(hf:Fr a N)(hR:R (.returned (.tuple #[])) w):bodyPost P fn R .ret a w:=by
 refine⟨hf.defers,_,?_,hR⟩;simp[results,hr]
theorem aan{fn:Func}{R:Ending→World→Prop}(h:bodyPost P fn R .ret a w):bodyPost P fn R .normal a w:=h
theorem least{p:Nat→Prop}:∀ n,p n→∃ n,p n∧∀ m,p m→n≤m:=by
 intro n
 induction n using Nat.strongRecOn with
 | _ n ih=>
  intro hn;by_cases h:∃ m,m<n∧p m
  ·obtain⟨m,hm,hp⟩:=h;exact ih m hm hp
  ·exact⟨n,hn,fun m hm=>Nat.le_of_not_lt fun hlt=>h ⟨m,hlt,hm⟩⟩
theorem eH{ι:Type}{c:Code}(I:ι→Act→World→Prop)(μ:ι→Nat)(x:ι)(h0:I x a w)
 (round:∀ x a w,I x a w→c.wp P (Exit.then (fun a' w'=>∃ x',I x' a' w'∧μ x'<μ x) Q) a w):(Code.loop c).wp P Q a w:=by
 classical
 have hex:∀ a w,(∃ x,I x a w)→∃ n,(∃ x,I x a w∧μ x=n)∧∀ m,(∃ x,I x a w∧μ x=m)→n≤m:=fun a w ⟨x,hx⟩=>least (μ x) ⟨x,hx,rfl⟩
 refine wp_loop (fun a w=>∃ x,I x a w) (fun a w=>if h:∃ x,I x a w then Classical.choose (hex a w h) else 0) ⟨x,h0⟩ ?_;intro a w h;obtain⟨⟨x,hx,hm⟩,-⟩:=Classical.choose_spec (hex a w h);refine Code.wp_mono ?_ (round x a w hx);intro e a' w' hq
 cases e with
 | normal=>
  obtain⟨x',hx',hlt⟩:=hq;refine⟨⟨x',hx'⟩,?_⟩;rw[dif_pos ⟨x',hx'⟩,dif_pos h];exact Nat.lt_of_le_of_lt ((Classical.choose_spec (hex a' w' ⟨x',hx'⟩)).2 _ ⟨x',hx',rfl⟩) (by rw[← hm];exact hlt)
 | _=>exact hq
end
abbrev Good:=Value→World→Prop
def dD(P:Program)(ops:Array Oper)(K:Act→World→Prop):List Oper→Act→World→Prop
 | [],a,w=>K a w
 | o::r,a,w=>∀ Q':Exit→Act→World→Prop,(∀ a w,dD P ops K r a w→Q' .normal a w)→wpList P ops Q' [o] a w
structure sG (slots:List Nat) (aH:List Good) (inv:World→Prop) (a0:Act) (N:Nat) (L:Nat→Bool) (a:Act) (w:World):Prop where
 fr:Fr a N
 inv:inv w
 done:∀ i,L i=true→∀ s g,slots[i]?=some s→aH[i]?=some g→∃ v,At a s v∧g v w
 rest:∀ j u,slots.contains j=false→At a0 j u→At a j u
def kZ(P:Program)(ops:Array Oper)(slots:List Nat)(aH:List Good)(inv:World→Prop)(a0:Act)(N:Nat):List Oper→List Good→Prop
 | [],_=>True
 | _::_,[]=>False
 | o::r,g::gs=>(∀ (a:Act) (w:World) (Q':Exit→Act→World→Prop),Fr a N→inv w →
  (∀ k,(∃ gr,(⟨k,gr⟩:Edge)∈o.after.toList∧Region.binds .any ⟨k,gr⟩=true)→∀ s g,slots[k]?=some s→aH[k]?=some g→∃ v,At a s v∧g v w) →
  (∀ j u,slots.contains j=false→At a0 j u→At a j u) →
  (∀ v a' w',ato w.heap.size w w'→g v w'→Put a (o.dst.getD 0) v a'→Q' .normal a' w')→wpList P ops Q' [o] a w)∧kZ P ops slots aH inv a0 N r gs
theorem FW{P:Program}{ops:Array Oper}{slots:List Nat}{aH:List Good}{inv:World→Prop}{a0:Act}{N:Nat}:∀ (l:List Oper) (gs:List Good),kZ P ops slots aH inv a0 N l gs→∀ (i:Nat) (o:Oper),l[i]?=some o →
 (∀ (a:Act) (w:World) (Q':Exit→Act→World→Prop),Fr a N→inv w →
  (∀ k,(∃ gr,(⟨k,gr⟩:Edge)∈o.after.toList∧Region.binds .any ⟨k,gr⟩=true)→∀ s g,slots[k]?=some s→aH[k]?=some g→∃ v,At a s v∧g v w) →
  (∀ j u,slots.contains j=false→At a0 j u→At a j u) →
  (∀ v a' w',ato w.heap.size w w'→(∀ g:Good,gs[i]?=some g→g v w')→Put a (o.dst.getD 0) v a'→Q' .normal a' w')→wpList P ops Q' [o] a w)
 | [],_,_,i,o,h=>by simp at h
 | _::_,[],h,_,_,_=>h.elim
 | x::r,g::gs,h,0,o,ho=>by
  simp at ho;subst ho;exact fun a w Q' h1 h2 h3 h4 h5=>h.1 a w Q' h1 h2 h3 h4 fun v a' w' hb hg hp=>h5 v a' w' hb (fun g' e=>by simp at e;rw[← e];exact hg) hp
 | x::r,g::gs,h,i+1,o,ho=>by
  have:=FW r gs h.2 i o (by simpa using ho);simpa using this
def vY(k:Nat)(l:List Oper):Bool:=(List.range l.length).all fun j=>decide (j<k)||consumed (l.take (j+1))
theorem uG:∀ (k m:Nat) (l:List Oper),ordered k l=true→ordered k (l.take m)=true
 | _,0,_,_=>by simp[ordered]
 | _,_+1,[],_=>by simp[ordered]
 | k,m+1,o::r,h=>by
  simp only[ordered,ata] at h;simp only[List.take_succ_cons,ordered,ata];exact⟨h.1,uG (k+1) m r h.2⟩
theorem mS{l:List Oper}(eS:ordered 0 l=true){k:Nat}(ht:vY k l=true)(L:Nat→Bool)(hcl:∀ j o,l[j]?=some o→L j=true→∀ e∈o.after.toList,Region.binds .any e=true→L e.on=true)
 {j:Nat} {o:Oper} (hj:l[j]?=some o) (hk:k≤j) (jZ:∀ e∈o.after.toList,Region.binds .any e=true→L e.on=true):∀ i,i<j→L i=true:=by
 have hlt:=(atj.1 hj).1
 have hc:consumed (l.take (j+1))=true:=by
  have:=atg.1 ht j (by simpa using hlt);simp only[Bool.or_eq_true,decide_eq_true_eq] at this;exact this.resolve_left (by omega)
 refine mh (l:=l.take (j+1)) (uG 0 _ l eS) hc L (n:=j) (by rw[atp];omega) ?_ ?_
 ·intro i o' hi hij hL;rw[List.getElem?_take,if_pos (by omega)] at hi;exact hcl i o' hi hL
 ·intro o' ho';rw[List.getElem?_take,if_pos (by omega)] at ho';obtain rfl:o=o':=atl (hj.symm.trans ho');exact jZ
section
variable {P:Program} {Q:Exit→Act→World→Prop}
theorem pP{id:Nat}{l:List Oper}{a:Act}{w:World}{N:Nat}(k:Nat)(slots:List Nat)(aH:List Good)(inv:World→Prop)
 (hm:P.follows .mixedOrders=true) (eS:ordered 0 l=true) (htail:vY k l=true) (gG:(l.take k).map (·.dst)=slots.map some) (hnd:slots.Nodup) (_:slots.all (fun s=>decide (s<N))=true) (_:aH.length=slots.length)
 (hf:Fr a N) (h0:inv w.drew) (hinv:∀ w w',inv w→ato w.heap.size w w'→inv w') (hst:j8 aH)
 (hstep:kZ P l.toArray slots aH inv a N (l.take k) aH)
 (hend:∀ a' w',sG slots aH inv a N (fun _=>true) a' w'→dD P l.toArray (Q .normal) (l.drop k) a' w'):(Code.region id l.toArray true).wp P Q a w:=by
 have MX:=wQ hst
 have hk:slots.length=(l.take k).length:=by
  have:=congrArg List.length gG;simpa using this.symm
 have hsl:∀ (i:Nat) (o:Oper),i<k→l[i]?=some o→∃ s,slots[i]?=some s∧o.dst=some s:=fun i o hi ho=>by
  have h:=congrArg (fun x:List (Option Tmp)=>x[i]?) gG;simp only[atm,List.getElem?_take,if_pos hi,ho,Option.map_some] at h
  cases hs:slots[i]? with
  | none=>rw[hs] at h;cases h
  | some s=>rw[hs] at h;exact⟨s,rfl,atl h⟩
 refine fV hm eS (fun L b u=>(∀ j o,l[j]?=some o→L j=true→∀ e∈o.after.toList,Region.binds .any e=true→L e.on=true) ∧
  ((∀ j,k≤j→j<l.length→L j=false)→sG slots aH inv a N L b u) ∧
  (∀ j,k≤j→j<l.length→L j=true→(∀ j',j<j'→j'<l.length→L j'=false)→dD P l.toArray (Q .normal) (l.drop (j+1)) b u)) ?_ ?_ ?_
 ·exact⟨fun _ _ _ h=>(by cases h),fun _=>⟨hf,h0,(fun i h=>(by cases h)),fun _ _ _ h=>h⟩,fun _ _ _ h=>(by cases h)⟩
 ·have key:∀ (i:Nat) (o:Oper),l[i]?=some o→∀ (L:Nat→Bool) (b:Act) (u:World) (Q':Exit→Act→World→Prop),
   ((∀ j o,l[j]?=some o→L j=true→∀ e∈o.after.toList,Region.binds .any e=true→L e.on=true)∧((∀ j,k≤j→j<l.length→L j=false)→sG slots aH inv a N L b u) ∧
     (∀ j,k≤j→j<l.length→L j=true→(∀ j',j<j'→j'<l.length→L j'=false)→dD P l.toArray (Q .normal) (l.drop (j+1)) b u))→L i=false →
   (∀ e∈o.after.toList,Region.binds .any e=true→L e.on=true) →
   (∀ b u,((∀ j o,l[j]?=some o→upd L i j=true→∀ e∈o.after.toList,Region.binds .any e=true→upd L i e.on=true)∧((∀ j,k≤j→j<l.length→upd L i j=false)→sG slots aH inv a N (upd L i) b u) ∧
    (∀ j,k≤j→j<l.length→upd L i j=true→(∀ j',j<j'→j'<l.length→upd L i j'=false)→dD P l.toArray (Q .normal) (l.drop (j+1)) b u))→Q' .normal b u) →
   wpList P l.toArray Q' [o] b u:=by
   intro i o ho L b u Q' ⟨hcl,hpl,X_⟩ hL hA hK;have hil:=(atj.1 ho).1;have up:∀ j,L j=true→upd L i j=true:=fun j hj=>by simp[upd,hj]
   have hcl':∀ j o,l[j]?=some o→upd L i j=true→∀ e∈o.after.toList,Region.binds .any e=true→upd L i e.on=true:=by
    intro j o' hj uN e he hb;by_cases hji:j=i
    ·subst hji;obtain rfl:o=o':=atl (ho.symm.trans hj);exact up _ (hA e he hb)
    ·have hne:(j == i)=false:=by simpa using hji
     exact up _ (hcl j o' hj (by simpa[upd,hne] using uN) e he hb)
   have hno:∀ j,k≤j→j<l.length→i<j→L j=false:=fun j hkj hj hij=>by
    cases hx:L j with
    | false=>rfl
    | true=>
     obtain⟨oj,hoj⟩:∃ oj,l[j]?=some oj:=⟨_,atd hj⟩;have:=mS eS htail L hcl hoj hkj (hcl j oj hoj hx) i hij;rw[hL] at this;cases this
   by_cases hik:i<k
   ·have hD:=hpl fun j hkj hj=>hno j hkj hj (by omega)
    obtain⟨s,hs,hd⟩:=hsl i o hik ho;refine FW (l.take k) aH hstep i o (by rw[List.getElem?_take,if_pos hik];exact ho) b u Q' hD.fr hD.inv (fun j ⟨gr,hj,hb⟩ s g hs hg=>hD.done j (hA _ hj hb) s g hs hg) hD.rest ?_;intro v b' u' hb hg hp;rw[hd] at hp;refine hK b' u' ⟨hcl',fun _=>⟨hp.fr hD.fr,hinv _ _ hD.inv hb,?_,?_⟩,?_⟩
    ·intro j hj s' g' hs' hg';by_cases hji:j=i
     ·subst hji;obtain rfl:s=s':=atl (hs.symm.trans hs');exact⟨v,hp.now,hg g' hg'⟩
     ·have hne:s'≠s:=fun e=>hji (lI hnd (e▸hs') hs)
      have uN:L j=true:=by
       have:(j == i)=false:=by simpa using hji
       simpa[upd,this] using hj
      obtain⟨x,hx,hgx⟩:=hD.done j uN s' g' hs' hg';exact⟨x,hp.old (by simpa using hne) hx,MX g' (atk hg') x u u' hgx hb⟩
    ·intro j x hj hx
     have hne:j≠s:=fun e=>by
      have hm:j∈slots:=e▸atk hs;have:slots.contains j=true:=by simpa using hm
      rw[this] at hj;cases hj
     exact hp.old (by simpa using hne) (hD.rest j x hj hx)
    ·intro j hkj hj uN;have hne:(j == i)=false:=by simp;omega
     have:=hno j hkj hj (by omega);simp[upd,hne,this] at uN
   ·have hall:=mS eS htail L hcl ho (by omega) hA
    have hT:dD P l.toArray (Q .normal) (l.drop i) b u:=by
     by_cases hik':i=k
     ·subst hik'
      have hD:=hpl fun j hkj hj=>by
       by_cases hji:j=i
       ·rw[hji];exact hL
       ·exact hno j hkj hj (by omega)
      refine hend b u ⟨hD.fr,hD.inv,fun j _ s g hs hg=>hD.done j (hall j ?_) s g hs hg,hD.rest⟩;have:=(atj.1 hs).1;rw[hk,atp] at this;omega
     ·have:=X_ (i-1) (by omega) (by omega) (hall (i-1) (by omega)) fun j' h1 h2=>by
       by_cases hji:j'=i
       ·rw[hji];exact hL
       ·exact hno j' (by omega) h2 (by omega)
      rwa [show i-1+1=i by omega] at this
    rw[List.drop_eq_getElem_cons hil] at hT
    have ho':l[i]=o:=by
     have:=atd hil;rw[ho] at this;exact(atl this).symm
    rw[ho'] at hT;refine hT Q' fun b' u' hT'=>hK b' u' ⟨hcl',fun h=>?_,fun j hkj hj uN hlast=>?_⟩
    ·have:=h i (by omega) hil;simp[upd] at this
    ·by_cases hji:j=i
     ·subst hji;exact hT'
     ·have hne:(j == i)=false:=by simpa using hji
      by_cases hlt:j<i
      ·have:=hlast i hlt hil;simp[upd] at this
      ·have:=hno j hkj hj (by omega);simp[upd,hne,this] at uN
  have all:∀ (r:List Oper) (m:Nat),(∀ i o,r[i]?=some o→l[m+i]?=some o)→jj P l.toArray (fun L b u=>(∀ j o,l[j]?=some o→L j=true→∀ e∈o.after.toList,Region.binds .any e=true→L e.on=true) ∧
   ((∀ j,k≤j→j<l.length→L j=false)→sG slots aH inv a N L b u) ∧
   (∀ j,k≤j→j<l.length→L j=true→(∀ j',j<j'→j'<l.length→L j'=false)→dD P l.toArray (Q .normal) (l.drop (j+1)) b u)) m r:=by
   intro r
   induction r with
   | nil=>intro m _;trivial
   | cons o r ih=>
    intro m h;refine⟨fun L b u Q' hI hL hA hK=>key m o (h 0 o rfl) L b u Q' hI hL hA hK,ih (m+1) fun i o' ho'=>?_⟩;have:=h (i+1) o' (by simpa using ho')
    rwa [show m+1+i=m+(i+1) by omega]
  exact all l 0 fun i o ho=>by simpa using ho
 ·intro L b u ⟨hcl,hpl,X_⟩ hall;by_cases hkl:k<l.length
  ·have:=X_ (l.length-1) (by omega) (by omega) (hall _ (by omega)) fun j' h1 h2=>by omega
   rw[show l.length-1+1=l.length by omega,List.drop_length] at this;exact this
  ·have hD:=hpl fun j h1 h2=>by omega
   have:=hend b u ⟨hD.fr,hD.inv,fun j _ s g hs hg=>hD.done j (hall j ?_) s g hs hg,hD.rest⟩
   ·rw[List.drop_of_length_le (by omega)] at this;exact this
   ·have:=(atj.1 hs).1;rw[hk,atp] at this;omega
end
end Go.Proofs.YtdcofoaihmongaaGreat
namespace Go.Proofs.YtdcofoaihmongaaGreat
open Go Go.ChangeMaps Go.MapKept
open Go.Maps (Keyed)
def aX(w:World)(P:Program)(k:TypeId)(b:Nat)(D:List (Value×Value)):Prop:=
 ∃ es clock,w.heap[b]?=some (.map es clock)∧Stamped es clock∧(es.toList.map fun e=>(e.key,e.val)).Perm D∧∀ p∈D,∃ l,keyOf P k p.1=some l
variable {P:Program} {k:TypeId} {w:World} {b:Nat} {D:List (Value×Value)}
theorem aX.lt(h:aX w P k b D):b<w.heap.size:=by
 obtain⟨es,clock,hb,_⟩:=h;exact(Array.getElem?_eq_some_iff.1 hb).1
theorem aX.kept{w':World}(h:aX w P k b D)(hb:w'.heap[b]?=w.heap[b]?):aX w' P k b D:=by
 obtain⟨es,clock,h1,h2⟩:=h;exact⟨es,clock,hb.trans h1,h2⟩
theorem aX.perm{D':List (Value×Value)}(h:aX w P k b D)(hp:D.Perm D'):aX w P k b D':=by
 obtain⟨es,clock,h1,h2,h3,h4⟩:=h;exact⟨es,clock,h1,h2,h3.trans hp,fun p hq=>h4 p (hp.mem_iff.2 hq)⟩
theorem aX.made(w:World)(P:Program)(k:TypeId):aX (w.alloc (.map #[] 0)) P k w.heap.size []:=
 ⟨#[],0,(MapKept.heap_alloc w _).1,stamped_empty 0,by simp,by simp⟩
theorem aX.keys(h:aX w P k b D):(D.map Prod.fst).Nodup:=by
 obtain⟨es,clock,_,h2,h3,_⟩:=h;have hn:es.toList.Pairwise (fun x y=>x.key≠y.key):=((stamped_iff es clock).1 h2).2.2
 have:((es.toList.map fun e=>(e.key,e.val)).map Prod.fst).Nodup:=by
  rw[List.map_map,List.Nodup,List.pairwise_map];exact hn
 exact(h3.map Prod.fst).nodup_iff.1 this
theorem aX.size(h:aX w P k b D):∃ es clock,w.heap[b]?=some (.map es clock)∧es.size=D.length:=by
 obtain⟨es,clock,h1,_,h3,_⟩:=h;exact⟨es,clock,h1,by simpa using h3.length_eq⟩
theorem sU{α:Type}:∀ (l:List α) (j:Nat) (h:j<l.length),(l[j]::l.eraseIdx j).Perm l
 | x::l,0,_=>List.Perm.refl _
 | x::l,j+1,h=>(List.Perm.swap _ _ _).trans ((sU l j (by simpa using h)).cons x)
theorem aX.find{es:Array MapEntry}(K:Keyed P k)(hp:(es.toList.map fun e=>(e.key,e.val)).Perm D)(hk:∀ p∈D,∃ l,keyOf P k p.1=some l)(w:World){key:Value}{l:Lit}(hkey:keyOf P k key=some l):
 ((Instr.findKey k key es.toList).run P w=.ok none w∧(∀ e∈es.toList,e.key≠key)∧∀ p∈D,p.1≠key) ∨
 ∃ j e,(Instr.findKey k key es.toList).run P w=.ok (some (j,e.val)) w∧es.toList[j]?=some e∧e.key=key∧(key,e.val)∈D:=by
 have hks:∀ e∈es.toList,∃ l,keyOf P k e.key=some l:=fun e he=>hk (e.key,e.val) (hp.mem_iff.1 (atq.2 ⟨e,he,rfl⟩))
 rcases K.find w hkey es.toList hks with⟨h1,h2⟩|⟨j,e,h1,h2,h3⟩
 ·refine Or.inl ⟨h1,h2,fun p hq he=>?_⟩;obtain⟨e,he',rfl⟩:=atq.1 (hp.mem_iff.2 hq);exact h2 e he' he
 ·exact Or.inr ⟨j,e,h1,h2,h3,hp.mem_iff.1 (atq.2 ⟨e,atk h2,by rw[h3]⟩)⟩
variable {t e:TypeId}
theorem aX.nX(c:Bool)(h:aX w P k b D)(K:Keyed P k)(ht:P.underlying t=some (.map k e)){z:Value}(hz:(zeroValue e).run P w=.ok z w){key:Value}{l:Lit}(hkey:keyOf P k key=some l)(hno:∀ p∈D,p.1≠key):
 (Instr.lookup t (.map (some b)) key c).run P w=.ok (if c then .tuple #[z,.bool false] else z) w:=by
 obtain⟨es,clock,hb,hs,hp,hk⟩:=h;rcases aX.find K hp hk w hkey with⟨h1,h2,_⟩|⟨j,e0,h1,h2,h3,h4⟩
 ·simp[Instr.lookup,run_underlying ht,MapKept.run_getObj_map hb,K.check w _ hkey,h1,hz,Result.andThen]
 ·exact absurd rfl (hno _ h4)
theorem aX.rF(c:Bool)(h:aX w P k b D)(K:Keyed P k)(ht:P.underlying t=some (.map k e)){key val:Value}{l:Lit}(hkey:keyOf P k key=some l)(hin:(key,val)∈D):
 (Instr.lookup t (.map (some b)) key c).run P w=.ok (if c then .tuple #[val,.bool true] else val) w:=by
 have hnd:=h.keys;obtain⟨es,clock,hb,hs,hp,hk⟩:=h;rcases aX.find K hp hk w hkey with⟨h1,h2,h5⟩|⟨j,e0,h1,h2,h3,h4⟩
 ·exact absurd rfl (h5 _ hin)
 ·have:e0.val=val:=by
   have:=mL hnd h4 hin;exact this
  simp[Instr.lookup,run_underlying ht,MapKept.run_getObj_map hb,K.check w _ hkey,h1,this,Result.andThen]
where
 mL:∀ {D:List (Value×Value)},(D.map Prod.fst).Nodup→∀ {x a b:Value},(x,a)∈D→(x,b)∈D→a=b
 | [],_,_,_,_,h,_=>by cases h
 | p::D,hn,x,a,b,ha,hb=>by
  simp only[List.map_cons,List.nodup_cons] at hn;rcases ati.1 ha with rfl|ha'
  ·rcases ati.1 hb with hb'|hb'
   ·exact(congrArg Prod.snd hb').symm
   ·exact absurd (atq.2 ⟨_,hb',rfl⟩) hn.1
  ·rcases ati.1 hb with rfl|hb'
   ·exact absurd (atq.2 ⟨_,ha',rfl⟩) hn.1
   ·exact mL hn.2 ha' hb'
theorem aX.OH(h:aX w P k b D)(K:Keyed P k)(ht:P.underlying t=some (.map k e)){key val:Value}{l:Lit}(hkey:keyOf P k key=some l)(hno:∀ p∈D,p.1≠key):
 ∃ w',(Instr.mapUpdate t (.map (some b)) key val).run P w=.ok () w'∧aX w' P k b ((key,val)::D)∧w.grownBy w' (some b)∧w'.heap.size=w.heap.size:=by
 obtain⟨es,clock,hb,hs,hp,hk⟩:=h;have hsz:es.size=D.length:=by simpa using hp.length_eq
 rcases aX.find K hp hk w hkey with⟨h1,h2,_⟩|⟨j,e0,h1,h2,h3,h4⟩
 ·refine⟨setBlock w b (.map (es.push ⟨key,val,clock⟩) (clock+1)),?_,⟨_,_,heap_setBlock_same hb _,stamped_push hs h2,?_,?_⟩,⟨rfl,rfl,rfl,by simp[setBlock],fun i _ hi=>heap_setBlock_other hb _ (fun e=>hi (by rw[e]))⟩,by simp[setBlock]⟩
  ·simp[Instr.mapUpdate,run_underlying ht,MapKept.run_getObj_map hb,K.check w false hkey,h1,MapKept.run_setObj_map _ hb,Result.andThen,setBlock]
  ·simp only[Array.toList_push,List.map_append,List.map_cons,List.map_nil];exact(List.perm_append_singleton _ _).trans (hp.cons _)
  ·intro p hq;rcases ati.1 hq with rfl|hq
   ·exact⟨l,hkey⟩
   ·exact hk p hq
 ·exact absurd rfl (hno _ h4)
theorem aX.OG{old:Value}{R:List (Value×Value)}(h:aX w P k b D)(K:Keyed P k)(ht:P.underlying t=some (.map k e)){key val:Value}{l:Lit}(hkey:keyOf P k key=some l)(hD:D.Perm ((key,old)::R)):
 ∃ w',(Instr.mapUpdate t (.map (some b)) key val).run P w=.ok () w'∧aX w' P k b ((key,val)::R)∧w.grownBy w' (some b)∧w'.heap.size=w.heap.size:=by
 have h':=h.perm hD;have hnd:=h'.keys;obtain⟨es,clock,hb,hs,hp,hk⟩:=h';rcases aX.find K hp hk w hkey with⟨h1,h2,h5⟩|⟨j,e0,h1,h2,h3,h4⟩
 ·exact absurd rfl (h5 (key,old) (by simp))
 ·have hj:es[j]?=some e0:=by simpa using h2
  have hjl:j<es.toList.length:=(atj.1 h2).1;have hkeyf:∀ e',es[j]?=some e'→({ e' with key:=key,val:=val }:MapEntry).key=e'.key:=fun e' he'=>by rw[hj] at he';cases he';exact h3.symm
  have hlist:(es.modify j (fun e'=>{ e' with key:=key,val:=val })).toList=es.toList.set j { e0 with key:=key,val:=val }:=by rw[Array.toList_modify,modify_eq_set _ _ _ _ h2]
  refine⟨setBlock w b (.map (es.modify j (fun e'=>{ e' with key:=key,val:=val })) clock),?_,⟨_,_,heap_setBlock_same hb _,stamped_modify hs _ _ (fun _ _=>rfl) (fun e' _ he'=>hkeyf e' he'),?_,?_⟩,⟨rfl,rfl,rfl,by simp[setBlock],fun i _ hi=>heap_setBlock_other hb _ (fun e=>hi (by rw[e]))⟩,by simp[setBlock]⟩
  ·simp[Instr.mapUpdate,run_underlying ht,MapKept.run_getObj_map hb,K.check w false hkey,h1,hj,h3,K.stays w hkey,MapKept.run_setObj_map _ hb,Result.andThen,setBlock]
  ·rw[hlist,List.map_set]
   have wV:(es.toList.map fun e=>(e.key,e.val)).Perm ((key,e0.val)::R):=by
    have:e0.val=old:=aX.rF.mL hnd h4 (by simp);rw[this];exact hp
   have hl:j<(es.toList.map fun e=>(e.key,e.val)).length:=by simpa using hjl
   refine(set_perm _ _ hl _).trans (List.Perm.cons _ ?_)
   have hx:(es.toList.map fun e=>(e.key,e.val))[j]=(key,e0.val):=by
    have:=(atj.1 h2).2;simp[← h3,this]
   have h6:=(sU _ j hl).trans wV;rw[hx] at h6;exact h6.cons_inv
  ·intro p hq;rcases ati.1 hq with rfl|hq
   ·exact⟨l,hkey⟩
   ·exact hk p (by simp[hq])
theorem aX.del{ty:TypeId}{old:Value}{R:List (Value×Value)}(h:aX w P k b D)(K:Keyed P k)(ht:P.underlying t=some (.map k e)){key:Value}{l:Lit}(hkey:keyOf P k key=some l)(hD:D.Perm ((key,old)::R)):
 ∃ w',(Builtin.delete_ #[t,k] ty #[.map (some b),key]).run P w=.ok (.tuple #[]) w'∧aX w' P k b R∧w.grownBy w' (some b)∧w'.heap.size=w.heap.size:=by
 have h':=h.perm hD;have hnd:=h'.keys;obtain⟨es,clock,hb,hs,hp,hk⟩:=h';rcases aX.find K hp hk w hkey with⟨h1,h2,h5⟩|⟨j,e0,h1,h2,h3,h4⟩
 ·exact absurd rfl (h5 (key,old) (by simp))
 ·have hjl:j<es.toList.length:=(atj.1 h2).1;have hjs:j<es.size:=by simpa using hjl
  have hsub:(es.eraseIdxIfInBounds j).toList=es.toList.eraseIdx j:=by
   unfold Array.eraseIdxIfInBounds;rw[dif_pos hjs];simp
  refine⟨setBlock w b (.map (es.eraseIdxIfInBounds j) clock),?_,⟨_,_,heap_setBlock_same hb _,stamped_erase hs j,?_,fun p hq=>hk p (by simp[hq])⟩,⟨rfl,rfl,rfl,by simp[setBlock],fun i _ hi=>heap_setBlock_other hb _ (fun e=>hi (by rw[e]))⟩,by simp[setBlock]⟩
  ·simp[Builtin.delete_,run_underlying ht,MapKept.run_getObj_map hb,K.check w _ hkey,h1,MapKept.run_setObj_map _ hb,Result.andThen,setBlock]
  ·rw[hsub,map_eraseIdx]
   have wV:(es.toList.map fun e=>(e.key,e.val)).Perm ((key,e0.val)::R):=by
    have:e0.val=old:=aX.rF.mL hnd h4 (by simp);rw[this];exact hp
   have hl:j<(es.toList.map fun e=>(e.key,e.val)).length:=by simpa using hjl
   have hx:(es.toList.map fun e=>(e.key,e.val))[j]=(key,e0.val):=by
    have:=(atj.1 h2).2;simp[← h3,this]
   have h6:=(sU _ j hl).trans wV;rw[hx] at h6;exact h6.cons_inv
end Go.Proofs.YtdcofoaihmongaaGreat
namespace Go.Proofs.YtdcofoaihmongaaGreat
open Go Go.RowKit
abbrev Slots:=List (Nat×Value)
def look(q:Nat):Slots→Option Value
 | []=>none
 | (s,v)::r=>bif Nat.beq q s then some v else look q r
theorem bI(q s:Nat)(v:Value)(l:Slots):look q ((s,v)::l)=bif (q == s) then some v else look q l:=by
 show(bif Nat.beq q s then some v else look q l)=_
 cases h:q == s with
 | true=>rw[show q=s by simpa using h,Nat.beq_refl]
 | false=>
  have hne:q≠s:=by simpa using h
  rw[show Nat.beq q s=false from by cases hb:Nat.beq q s with|false=>rfl|true=>exact absurd (atr hb) hne]
structure Fs (a:Act) (N:Nat) (l:Slots):Prop where
 fr:Fr a N
 at_:∀ q v,look q l=some v→At a q v
section
variable {a:Act} {N:Nat} {l:Slots}
theorem Fs.g(h:Fs a N l)(q:Nat){v:Value}(hv:look q l=some v):At a q v:=h.at_ q v hv
theorem Fs.e(h:Fs a N l)(q:Nat){v:Value}(hv:look q l=some v):a.eval (.tmp q)=v:=(h.at_ q v hv).ev
theorem Fs.put{a':Act}{d:Nat}{v:Value}(h:Fs a N l)(p:Put a d v a'):Fs a' N ((d,v)::l):=by
 refine⟨p.fr h.fr,fun q u hq=>?_⟩;rw[bI] at hq
 cases e:q == d with
 | true=>
  rw[e] at hq;have hq':v=u:=atl hq;have e':q=d:=by simpa using e
  subst hq' e';exact p.now
 | false=>
  rw[e] at hq;exact p.old e (h.at_ q u hq)
theorem Fs.eq(h:Fs a N l)(q:Nat){v u:Value}(hv:look q l=some v)(e:v=u):Fs a N ((q,u)::l):=by
 refine⟨h.fr,fun s x hs=>?_⟩;rw[bI] at hs
 cases he:s == q with
 | true=>
  rw[he] at hs;have hs':u=x:=atl hs;have e':s=q:=by simpa using he
  subst hs' e' e;exact h.at_ _ _ hv
 | false=>
  rw[he] at hs;exact h.at_ s x hs
def Sub(l:Slots):Slots→Prop
 | []=>True
 | p::r=>look p.1 l=some p.2∧Sub l r
theorem Fs.sub{l':Slots}(h:Fs a N l)(hs:Sub l l'):Fs a N l':=by
 refine⟨h.fr,?_⟩
 induction l' with
 | nil=>intro q v hq;cases hq
 | cons p r ih=>
  intro q v hq;obtain⟨q0,v0⟩:=p;rw[bI] at hq
  cases e:q == q0 with
  | true=>
   rw[e] at hq;have hq':v0=v:=atl hq;have e':q=q0:=by simpa using e
   subst hq' e';exact h.at_ _ _ hs.1
  | false=>
   rw[e] at hq;exact ih hs.2 q v hq
def ens(k:Nat):List Value→Slots
 | []=>[]
 | v::r=>(k,v)::ens (k+1) r
theorem Fs.args{args:Array Value}(hf:Fr a N)(h:∀ i v,args[i]?=some v→At a i v){vs:List Value}(e:args=vs.toArray):Fs a N (ens 0 vs):=by
 refine⟨hf,fun q v hq=>h q v ?_⟩;subst e
 have key:∀ (vs:List Value) (k q:Nat) (v:Value),look q (ens k vs)=some v→k≤q∧vs[q-k]?=some v:=by
  intro vs
  induction vs with
  | nil=>
   intro k q v h;exact absurd h (by simp[look,ens])
  | cons x r ih=>
   intro k q v h;rw[ens,bI] at h
   cases e:q == k with
   | true=>
    rw[e] at h;have e':q=k:=by simpa using e
    subst e';simpa using h
   | false=>
    rw[e] at h;have hne:q≠k:=by simpa using e
    obtain⟨h1,h2⟩:=ih (k+1) q v h;refine⟨by omega,?_⟩;rw[show q-k=(q-(k+1))+1 by omega];simpa using h2
 have:=key vs 0 q v hq;simpa using this.2
end
abbrev Bx:=Nat×TypeId×Array Value
structure Rw where
 v:Value
 e:TypeId
 k:Nat
 n:Nat
 xs:List Value
def jX(D:List (Value×Value)):Array Value:=(D.flatMap fun p=>[p.1,p.2]).toArray
def acG(w:World)(b:Bx):Prop:=Nat.blt b.2.1 9000=false∧∃ D,b.2.2=jX D∧aX w Tryz.prog (b.2.1-9000) b.1 D
def vA(w:World)(b:Bx):Prop:=(Nat.blt b.2.1 9000=true∧Whole w b.1 b.2.1 b.2.2)∨acG w b
theorem vA.lt{w:World}{b:Bx}(h:vA w b):b.1<w.heap.size:=by
 rcases h with⟨_,h⟩|⟨_,D,_,h⟩
 ·exact h.lt
 ·exact h.lt
theorem vA.kept{w w':World}{b:Bx}(h:vA w b)(hb:w'.heap[b.1]?=w.heap[b.1]?):vA w' b:=by
 rcases h with⟨h0,h⟩|⟨h0,D,h1,h⟩
 ·exact .inl ⟨h0,hb.trans h⟩
 ·exact .inr ⟨h0,D,h1,h.kept hb⟩
theorem vA.whole{w:World}{g:Nat}{t:TypeId}{cs:Array Value}(h:vA w (g,t,cs))(ht:Nat.blt t 9000=true):Whole w g t cs:=by
 rcases h with⟨_,h⟩|⟨h0,_⟩
 ·exact h
 ·have h0:Nat.blt t 9000=false:=h0;rw[ht] at h0;cases h0
structure aY (B:Nat) (w0 w:World) (bs:List Bx) (rs:List Rw):Prop where
 below:ato B w0 w
 le:B≤w0.heap.size
 old:∀ g cs,Whole w0 g 52 cs→Whole w g 52 cs
 box:∀ b∈bs,vA w b
 lo:∀ b∈bs,B≤b.1
 nd:(bs.map (·.1)).Nodup
 row:∀ r∈rs,w.ownsRow B r.e r.k r.v r.n r.xs
 far:∀ r∈rs,∀ b∈bs,r.v.ownBlock≠some b.1
 wv:rs.Pairwise fun r s=>r.v.ownBlock=none∨r.v.ownBlock≠s.v.ownBlock
abbrev Mm (w0 w:World) (bs:List Bx) (rs:List Rw):Prop:=aY w0.heap.size w0 w bs rs
section
variable {B:Nat} {w0 w w':World} {bs:List Bx} {rs:List Rw}
@[reducible] def aY.wd(_:aY B w0 w bs rs):World:=w
theorem Mm.start(w:World):Mm w w [] []:=⟨Below.refl _ w,Nat.le_refl _,fun _ _ h=>h,by simp,by simp,by simp,by simp,by simp,.nil⟩
theorem aY.big(M:aY B w0 w bs rs):B≤w.heap.size:=ate M.le M.below.size
theorem aY.b(M:aY B w0 w bs rs)(i:Nat){g:Nat}{t:TypeId}{cs:Array Value}(h:bs[i]?=some (g,t,cs))(ht:Nat.blt t 9000=true:=by rfl):Whole w g t cs:=(M.box _ (atk h)).whole ht
theorem aY.r(M:aY B w0 w bs rs)(i:Nat){r:Rw}(h:rs[i]?=some r):w.ownsRow B r.e r.k r.v r.n r.xs:=M.row _ (atk h)
theorem aY.keep(M:aY B w0 w bs rs)(hb:ato w.heap.size w w'):aY B w0 w' bs rs:=
 ⟨M.below.step hb M.big,M.le,fun g cs h=>Whole.under hb (M.old g cs h) (M.old g cs h).lt,fun b h=>(M.box b h).kept (hb.block _ (M.box b h).lt),M.lo,M.nd,fun r h=>gE hb (M.row r h) (Nat.le_refl _),M.far,M.wv⟩
theorem aY.new(M:aY B w0 w bs rs){g:Nat}{t:TypeId}{cs:Array Value}(n:New w w' g t cs)(ht:Nat.blt t 9000=true:=by rfl):aY B w0 w' ((g,t,cs)::bs) rs:=by
 have M':=M.keep n.below;have hlt:∀ b∈bs,b.1<g:=fun b h=>n.at_▸(M.box b h).lt
 refine⟨M'.below,M'.le,M'.old,?_,?_,?_,M'.row,?_,M.wv⟩
 ·intro b hb;rcases ati.1 hb with rfl|hb
  ·exact .inl ⟨ht,n.whole⟩
  ·exact M'.box b hb
 ·intro b hb;rcases ati.1 hb with rfl|hb
  ·exact n.at_▸M.big
  ·exact M.lo b hb
 ·rw[List.map_cons,List.nodup_cons];refine⟨fun h=>?_,M.nd⟩;obtain⟨b,hb,e⟩:=atq.1 h;have:=hlt b hb;simp only at e;omega
 ·intro r hr b hb;rcases ati.1 hb with rfl|hb
  ·intro e;have:=((M.row r hr).lt g e).2;rw[← n.at_] at this;omega
  ·exact M.far r hr b hb
theorem aY.sto(M:aY B w0 w bs rs)(i:Nat){g:Nat}{t:TypeId}{cs cs':Array Value}(h:bs[i]?=some (g,t,cs))(s:vH w w' g)(h':Whole w' g t cs')(ht:Nat.blt t 9000=true:=by rfl)(hw:Nat.beq t 52=false∨w0.heap.size≤B:=by first|exact .inl rfl|exact .inr (Nat.le_refl _)):aY B w0 w' (bs.set i (g,t,cs')) rs:=by
 have hi:=(atj.1 h).1;have hm:=atk h
 have hmap:(bs.set i (g,t,cs')).map (·.1)=bs.map (·.1):=by
  refine List.ext_getElem? fun j=>?_
  rw[atm,atm,List.getElem?_set];by_cases e:i=j
  ·subst e;simp[hi,(atj.1 h).2]
  ·simp[e]
 have Vd:∀ b∈bs.set i (g,t,cs'),∃ b'∈bs,b'.1=b.1:=fun b hb=>by
  rcases List.mem_or_eq_of_mem_set hb with hb|rfl
  ·exact⟨b,hb,rfl⟩
  ·exact⟨_,hm,rfl⟩
 refine⟨M.below.trans (s.below (M.lo _ hm)),M.le,fun g' cs'' h2=>s.whole (M.old g' cs'' h2) ?_,?_,?_,by rw[hmap];exact M.nd,?_,?_,M.wv⟩
 ·intro e;rcases hw with hw|hw
  ·subst e;have h3:w.heap[g']?=some (.cells cs'' 52 (0,0)):=M.old g' cs'' h2;have h4:w.heap[g']?=some (.cells cs t (0,0)):=(M.box _ hm).whole ht;rw[h3] at h4;have h5:(52:Nat)=t:=by injection h4 with h4;injection h4
   rw[← h5] at hw;cases hw
  ·have h3:=h2.lt;have h4:=M.lo _ hm;simp only at h4;omega
 ·intro b hb;obtain⟨j,hj⟩:=List.getElem?_of_mem hb;rw[List.getElem?_set] at hj;by_cases e:i=j
  ·subst e;rw[if_pos rfl,if_pos hi] at hj;obtain rfl:=atl hj;exact .inl ⟨ht,h'⟩
  ·rw[if_neg e] at hj;refine(M.box b (atk hj)).kept (s.block _ fun e'=>e ?_);have h1:(bs.map (·.1))[i]?=some g:=by rw[atm,h];rfl
   have h2:(bs.map (·.1))[j]?=some g:=by rw[atm,hj];simp[e']
   exact lI M.nd h1 h2
 ·intro b hb;obtain⟨b',hb',e⟩:=Vd b hb;rw[← e];exact M.lo b' hb'
 ·intro r hr;exact s.own (M.row r hr) (M.far r hr _ hm)
 ·intro r hr b hb;obtain⟨b',hb',e⟩:=Vd b hb;rw[← e];exact M.far r hr b' hb'
theorem aY.grow(M:aY B w0 w bs rs)(i:Nat){r:Rw}(h:rs[i]?=some r){v':Value}{n':Nat}{xs':List Value}(ho:w'.ownsRow B r.e r.k v' n' xs')(hg:w.grownBy w' r.v.ownBlock)
 (hv:v'.ownBlock=r.v.ownBlock∨v'.ownBlock=none∨∃ g,v'.ownBlock=some g∧w.heap.size≤g) (hw:Nat.beq r.e 52=false∨w0.heap.size≤B:=by first|exact .inl rfl|exact .inr (Nat.le_refl _)):aY B w0 w' bs (rs.set i { r with v:=v',n:=n',xs:=xs' }):=by
 have hi:=(atj.1 h).1;have hm:=atk h;refine⟨M.below.grown hg M.big (fun q hq=>((M.row r hm).lt q hq).1),M.le,fun g cs h2=>(M.old g cs h2).grown hg ?_,?_,M.lo,M.nd,?_,?_,?_⟩
 ·rcases hw with hw|hw
  ·exact fun e=>jT (M.row r hm) (M.old g cs h2) (fun e2=>by rw[e2] at hw;cases hw) e.symm
  ·intro e;have h3:=h2.lt;have h4:=((M.row r hm).lt g e.symm).1;omega
 ·intro b hb;exact(M.box b hb).kept (hg.block _ (M.box b hb).lt fun e=>M.far r hm b hb e.symm)
 ·intro s hs;obtain⟨j,hj⟩:=List.getElem?_of_mem hs;rw[List.getElem?_set] at hj;by_cases e:i=j
  ·subst e;rw[if_pos rfl,if_pos hi] at hj;obtain rfl:=atl hj;exact ho
  ·rw[if_neg e] at hj;have iT:=atk hj;refine(M.row s iT).kept hg ?_;have hp:=List.pairwise_iff_getElem.1 M.wv;have hjl:=(atj.1 hj).1;have e1:rs[i]=r:=(atj.1 h).2;have e2:rs[j]=s:=(atj.1 hj).2;rcases Nat.lt_or_gt_of_ne e with hlt|hgt
   ·rcases hp i j hi hjl hlt with h0|h0
    ·rw[e1] at h0;rw[h0]
     cases hso:s.v.ownBlock with
     | none=>exact .inl rfl
     | some q=>exact .inr (by simp)
    ·rw[e1,e2] at h0;exact .inr fun e3=>h0 e3.symm
   ·rcases hp j i hjl hi hgt with h0|h0
    ·rw[e2] at h0;exact .inl h0
    ·rw[e1,e2] at h0;exact .inr h0
 ·intro s hs b hb;rcases List.mem_or_eq_of_mem_set hs with hs|rfl
  ·exact M.far s hs b hb
  ·rcases hv with e|e|⟨g,e,hge⟩
   ·show v'.ownBlock≠_;rw[e];exact M.far r hm b hb
   ·show v'.ownBlock≠_;rw[e];simp
   ·show v'.ownBlock≠_;rw[e];intro e';have:=(M.box b hb).lt;have e2:g=b.1:=atl e';omega
 ·rw[List.pairwise_iff_getElem];intro j k hj hk hjk;rw[List.length_set] at hj hk;have hp:=List.pairwise_iff_getElem.1 M.wv j k hj hk hjk;have e1:rs[i]=r:=(atj.1 h).2;simp only[List.getElem_set];by_cases ej:i=j
  ·subst ej;have ek:¬ i=k:=by omega
   simp only[if_true,if_neg ek];rcases hv with e|e|⟨g,e,hge⟩
   ·rw[e];rw[e1] at hp;exact hp
   ·exact .inl e
   ·refine .inr ?_;rw[e];intro e';have:=((M.row _ (List.getElem_mem hk)).lt g e'.symm).2;omega
  ·by_cases ek:i=k
   ·subst ek;simp only[if_neg ej,if_true];rcases hv with e|e|⟨g,e,hge⟩
    ·rw[e];rw[e1] at hp;exact hp
    ·rw[e]
     cases hso:rs[j].v.ownBlock with
     | none=>exact .inl rfl
     | some q=>exact .inr (by simp)
    ·rw[e];refine .inr fun e'=>?_
     have:=((M.row _ (List.getElem_mem hj)).lt g e').2;omega
   ·simp only[if_neg ej,if_neg ek];exact hp
theorem aY.G1(M:aY B w0 w bs rs){r:Rw}(ho:w.ownsRow B r.e r.k r.v r.n r.xs)(hf:∀ b∈bs,r.v.ownBlock≠some b.1)(hr:∀ s∈rs,r.v.ownBlock=none∨r.v.ownBlock≠s.v.ownBlock):aY B w0 w bs (r::rs):=by
 refine⟨M.below,M.le,M.old,M.box,M.lo,M.nd,?_,?_,List.pairwise_cons.2 ⟨hr,M.wv⟩⟩
 ·intro s hs;rcases ati.1 hs with rfl|hs
  ·exact ho
  ·exact M.row s hs
 ·intro s hs b hb;rcases ati.1 hs with rfl|hs
  ·exact hf b hb
  ·exact M.far s hs b hb
theorem aY.bC(M:aY B w0 w bs rs)(e:TypeId)(k:Nat):aY B w0 w bs (⟨.slice none 0 0,e,k,0,[]⟩::rs):=
 M.G1 (World.ownsRow_nil _ _ _ _) (fun _ _=>by simp[Value.ownBlock]) (fun _ _=>.inl rfl)
theorem aY.BG(M:aY B w0 w bs rs)(hb:ato w.heap.size w w'){r:Rw}(ho:w'.ownsRow w.heap.size r.e r.k r.v r.n r.xs):aY B w0 w' bs (r::rs):=by
 refine(M.keep hb).G1 (oH ho M.big) ?_ ?_
 ·intro b hb' e;have:=(ho.lt _ e).1;have:=(M.box b hb').lt;omega
 ·intro s hs
  cases hso:r.v.ownBlock with
  | none=>exact .inl rfl
  | some q=>
   refine .inr fun e=>?_
   have h1:=(ho.lt q hso).1;have h2:=((M.row s hs).lt q (by rw[← e])).2;omega
theorem aY.Ct{g:Nat}{t:TypeId}{cs:Array Value}(M:aY B w0 w ((g,t,cs)::bs) rs)(k n:Nat)(hn:n≤maxLen)(hs:cs.size=n*k)(ht:Nat.blt t 9000=true:=by rfl):aY B w0 w bs (⟨.slice (some ⟨g,0,none⟩) n n,t,k,n,cs.toList⟩::rs):=by
 have hw:=(M.box _ (att ..)).whole ht;have hnd:=List.nodup_cons.1 (show(g::bs.map (·.1)).Nodup from M.nd);have M1:aY B w0 w bs rs:=⟨M.below,M.le,M.old,fun b hb=>M.box b (atu _ hb),fun b hb=>M.lo b (atu _ hb),hnd.2,M.row,fun r hr b hb=>M.far r hr b (atu _ hb),M.wv⟩;refine M1.G1 ⟨by simp[hs],.inr ⟨g,n,cs,rfl,M.lo _ (att ..),hw,Nat.le_refl _,hn,hs,by rw[List.take_of_length_le (by simp[hs])]⟩⟩ ?_ ?_
 ·intro b hb e;refine hnd.1 (atq.2 ⟨b,hb,?_⟩);have e2:g=b.1:=by simpa[Value.ownBlock] using e
  exact e2.symm
 ·intro s hs';refine .inr fun e=>M.far s hs' _ (att ..) ?_
  show s.v.ownBlock=some g;rw[← e];rfl
theorem aY.cast(M:aY B w0 w bs rs){bs':List Bx}{rs':List Rw}(hb:bs=bs')(hr:rs=rs'):aY B w0 w bs' rs':=hb▸hr▸M
theorem aY.only(M:aY B w0 w bs rs){bs':List Bx}{rs':List Rw}(hb:bs'.Sublist bs)(hr:rs'.Sublist rs):aY B w0 w bs' rs':=
 ⟨M.below,M.le,M.old,fun b h=>M.box b (hb.subset h),fun b h=>M.lo b (hb.subset h),(hb.map _).nodup M.nd,fun r h=>M.row r (hr.subset h),fun r h b h'=>M.far r (hr.subset h) b (hb.subset h'),M.wv.sublist hr⟩
end
theorem aY.E4{B:Nat}{w0 w:World}{bs:List Bx}{rs:List Rw}(M:aY B w0 w bs rs):aY B w w bs rs:=⟨Below.refl _ _,M.big,fun _ _ h=>h,M.box,M.lo,M.nd,M.row,M.far,M.wv⟩
theorem aY.comp{B:Nat}{w0 w w':World}{bs bs':List Bx}{rs rs':List Rw}(M:aY B w0 w bs rs)(M':aY B w w' bs' rs'):aY B w0 w' bs' rs':=
 ⟨M.below.trans M'.below,M.le,fun g cs h=>M'.old g cs (M.old g cs h),M'.box,M'.lo,M'.nd,M'.row,M'.far,M'.wv⟩
theorem GX{P:Program}(w:World)(base:Nat)(t ty e:TypeId)(i:TypeInfo)(z:Value)(ht:P.underlying t=some (.slice e))(hi:P.info? e=some i)(hz:i.zero=some z)
 (hzs:z.cells.size=i.size) (hsz:0<i.size) (v:Value) (n:Nat) (xs:List Value) (hown:w.ownsRow base e i.size v n xs)
 (a:Addr) (m c:Nat) (news:List Value) (hl:news.length=m*i.size) (hnews:∀ j u,news[j]?=some u→w.cell? (a.add j)=some u) (h1:∀ u∈news,u.oneCell'=true)
 (h63:n+m≤maxLen) (hbytes:(n+m)*i.bytes≤140737488355328) {v':Value} {w':World} (hr:(Builtin.append_ #[t,t] ty #[v,.slice (some a) m c]).run P w=.ok v' w') :
 v'.ownBlock=v.ownBlock∨v'.ownBlock=none∨∃ g,v'.ownBlock=some g∧w.heap.size≤g:=by
 have hsmall:n+m≤9223372036854775807:=by simp only[maxLen] at h63;omega
 rcases hown.2 with⟨rfl,rfl⟩|⟨g,cap,cur,rfl,hbg,hg,hnc,hcm,hcs,htake⟩
 ·have hx:xs=[]:=List.eq_nil_of_length_eq_zero (by simpa using hown.1);subst hx;obtain⟨v2,w2,MZ,h2,-,-⟩:=run_append_own (P:=P) w w.heap.size t ty e i z i.size i.bytes ht hi hz rfl rfl hzs hsz _ 0 [] (World.ownsRow_nil _ _ _ _) a m c news hl hnews h1 h63 hbytes (Nat.le_refl _);rw[hr] at MZ;injection MZ with e1 e2;subst e1 e2
  cases hb:v'.ownBlock with
  | none=>exact .inr (.inl rfl)
  | some g=>exact .inr (.inr ⟨g,rfl,(h2.lt g hb).1⟩)
 ·by_cases hroom:n+m≤cap
  ·have hfit:n*i.size+news.length≤cur.size:=by rw[hl,hcs,← Nat.add_mul];exact Nat.mul_le_mul_right _ hroom
   have MZ:=run_append_room (P:=P) w t ty e i ht hi g n cap cur hg a m c news hl hnews h1 hroom hfit;rw[hr] at MZ;injection MZ with e1 e2;subst e1;exact .inl rfl
  ·have holds:∀ j u,xs[j]?=some u→w.cell? ((⟨g,0,none⟩:Addr).add j)=some u:=hown.cells (g:=g) rfl;have MZ:=run_append_grow (P:=P) w t ty e i z ht hi hz ⟨g,0,none⟩ n cap xs hown.1 holds a m c news hl hnews (by omega) (by omega) (growslice_fits (by omega) hbytes);rw[hr] at MZ;injection MZ with e1 e2;subst e1;exact .inr (.inr ⟨w.heap.size,rfl,Nat.le_refl _⟩)
section
variable {P:Program} {ops:Array Oper} {Q:Exit→Act→World→Prop} {a:Act} {B:Nat} {w0 w w':World} {rest:List Oper} {o:Oper} {v:Value} {d N:Nat} {l:Slots} {bs:List Bx} {rs:List Rw}
theorem on(hg:o.guard=none):Region.wanted o (yielded ops a.tmps)=true:=jU hg
theorem gn{j s:Nat}{b:Bool}(hg:o.guard=some (j,b))(hj:(ops[j]?).bind (·.dst)=some s)(h:At a s (.bool b)):Region.wanted o (yielded ops a.tmps)=true:=IW hg hj h
theorem kv(hw:Region.wanted o (yielded ops a.tmps)=true)(hr:(execOp a.eval o).run P w=.ok (.value v) w)(hd:o.dst=some d)(F:Fs a N l)(hN:Nat.blt d N=true)
 (next:∀ a',Fs a' N ((d,v)::l)→wpList P ops Q rest a' w):wpList P ops Q (o::rest) a w:=
 oA hw hr hd F.fr (by simpa using hN) fun a' p=>next a' (F.put p)
theorem ke(hw:Region.wanted o (yielded ops a.tmps)=true)(hr:(execOp a.eval o).run P w=.ok (.value v) w)(hd:o.dst=some d)(F:Fs a N l)(hN:Nat.blt d N=true){u:Value}(e:v=u)
 (next:∀ a',Fs a' N ((d,u)::l)→wpList P ops Q rest a' w):wpList P ops Q (o::rest) a w:=
 kv hw hr hd F hN fun a' F'=>next a' (e▸F')
theorem ko(hd:o.dst=some d){j s:Nat}{b c:Bool}(hg:o.guard=some (j,b))(hj:(ops[j]?).bind (·.dst)=some s)(h:At a s (.bool c))(hne:(c == b)=false)(F:Fs a N l)(hN:Nat.blt d N=true)
 (next:∀ a',Fs a' N ((d,undef)::l)→wpList P ops Q rest a' w):wpList P ops Q (o::rest) a w:=
 Ae (DT hg hj h hne) hd F.fr (by simpa using hN) fun a' p=>next a' (F.put p)
theorem kn(hw:Region.wanted o (yielded ops a.tmps)=true){ty:TypeId}{cs:Array Value}{f:Nat→Value}(hr:(execOp a.eval o).run P w=.ok (.value (f w.heap.size)) (w.alloc (.cells cs ty)))(hd:o.dst=some d)(F:Fs a N l)(hN:Nat.blt d N=true)(M:aY B w0 w bs rs)
 (next:∀ g a' w',Fs a' N ((d,f g)::l)→aY B w0 w' ((g,ty,cs)::bs) rs→wpList P ops Q rest a' w') (ht:Nat.blt ty 9000=true:=by rfl):wpList P ops Q (o::rest) a w:=
 Af hw hr hd F.fr (by simpa using hN) fun g a' w' n p=>next g a' w' (F.put p) (M.new n ht)
theorem kb(hw:Region.wanted o (yielded ops a.tmps)=true){ty:TypeId}{x:Operand}(ho:o.op=.box ty x)(hx:a.eval x=v){cs:Array Value}(hc:v.cells=cs)(hd:o.dst=some d)(F:Fs a N l)(hN:Nat.blt d N=true)(M:aY B w0 w bs rs)
 (next:∀ g a' w',Fs a' N ((d,.pointer (some ⟨g,0,none⟩))::l)→aY B w0 w' ((g,ty,cs)::bs) rs→wpList P ops Q rest a' w') (ht:Nat.blt ty 9000=true:=by rfl):wpList P ops Q (o::rest) a w:=
 kn (f:=fun n=>.pointer (some ⟨n,0,none⟩)) hw (hc▸Pn ho hx) hd F hN M next ht
theorem ka(hw:Region.wanted o (yielded ops a.tmps)=true){ty:TypeId}{z:Value}(ho:o.op=.alloc ty)(hz:(P.info? ty).bind (·.zero)=some z){cs:Array Value}(hc:z.cells=cs)(hd:o.dst=some d)(F:Fs a N l)(hN:Nat.blt d N=true)(M:aY B w0 w bs rs)
 (next:∀ g a' w',Fs a' N ((d,.pointer (some ⟨g,0,none⟩))::l)→aY B w0 w' ((g,ty,cs)::bs) rs→wpList P ops Q rest a' w') (ht:Nat.blt ty 9000=true:=by rfl):wpList P ops Q (o::rest) a w:=
 kn (f:=fun n=>.pointer (some ⟨n,0,none⟩)) hw (hc▸uT ho hz) hd F hN M next ht
theorem kl(hw:Region.wanted o (yielded ops a.tmps)=true){t e:TypeId}{len k:Nat}{parts:Array (Nat×Operand)}{cells:Array Value}{z:Value}(ho:o.op=.buildSlice t len parts)(hu:P.underlying t=some (.slice e))(hs:(P.info? e).map (·.size)=some k)(hz:(P.info? e).bind (·.zero)=some z)
 (iT:(decide (len*k≤2^24)&&decide (0<len*k))=true) {pv:Array (Nat×Value)} (hp:(parts.map fun(i,x)=>(i,a.eval x))=pv) (h:Instr.fill (fun i=>some (i*k,k)) ((Array.range (len*k)).map (z.cells[·%z.cells.size]!)) pv.toList=some cells)
 (hd:o.dst=some d) (F:Fs a N l) (hN:Nat.blt d N=true) (M:aY B w0 w bs rs)
 (next:∀ g a' w',Fs a' N ((d,.slice (some ⟨g,0,none⟩) len len)::l)→aY B w0 w' ((g,e,cells)::bs) rs→wpList P ops Q rest a' w') (ht:Nat.blt e 9000=true:=by rfl):wpList P ops Q (o::rest) a w:=by
 simp only[ata,decide_eq_true_eq] at iT;exact kn (f:=fun n=>.slice (some ⟨n,0,none⟩) len len) hw (oP ho hu hs hz iT.1 iT.2 hp h) hd F hN M next ht
theorem ks(hw:Region.wanted o (yielded ops a.tmps)=true){ty:TypeId}{x y:Operand}(ho:o.op=.store ty x y){g f:Nat}(hx:a.eval x=.pointer (some ⟨g,f,none⟩))(hy:a.eval y=v)(_:Fs a N l)(M:aY B w0 w bs rs)(i:Nat){t:TypeId}{cs cs':Array Value}(hi:bs[i]?=some (g,t,cs))
 {u:List Value} (hl:v.cells.toList=u) (hfit:Nat.ble (f+u.length) cs.size=true) (hz:(P.info? ty).map (·.size)=some u.length) (h1:u.all (·.oneCell')=true) (hsp:splice cs f u=cs') (hd:o.dst=none) {bs':List Bx} (hb:bs.set i (g,t,cs')=bs')
 (next:∀ w',aY B w0 w' bs' rs→wpList P ops Q rest a w') (ht:Nat.blt t 9000=true:=by rfl) (hW:Nat.beq t 52=false∨w0.heap.size≤B:=by first|exact .inl rfl|exact .inr (Nat.le_refl _)):wpList P ops Q (o::rest) a w:=
 pQ hw ho hx hy (M.b i hi ht) hl (Nat.le_of_ble_eq_true hfit) hz h1 hsp hd fun w' s h'=>next w' (hb▸M.sto i hi s h' ht hW)
theorem Hf(hw:Region.wanted o (yielded ops a.tmps)=true){ty:TypeId}{x:Operand}(ho:o.op=.box ty x){cs:Array Value}(hx:a.eval x=.agg cs)(hd:o.dst=some d)(F:Fs a N l)(hN:Nat.blt d N=true)(M:aY B w0 w bs rs)
 (next:∀ g a' w',Fs a' N ((d,.pointer (some ⟨g,0,none⟩))::l)→aY B w0 w' ((g,ty,cs)::bs) rs→wpList P ops Q rest a' w') (ht:Nat.blt ty 9000=true:=by rfl):wpList P ops Q (o::rest) a w:=
 kb hw ho hx rfl hd F hN M next ht
theorem kb1(hw:Region.wanted o (yielded ops a.tmps)=true){ty:TypeId}{x:Operand}(ho:o.op=.box ty x)(hx:a.eval x=v)(hc:v.cells=#[v])(hd:o.dst=some d)(F:Fs a N l)(hN:Nat.blt d N=true)(M:aY B w0 w bs rs)
 (next:∀ g a' w',Fs a' N ((d,.pointer (some ⟨g,0,none⟩))::l)→aY B w0 w' ((g,ty,#[v])::bs) rs→wpList P ops Q rest a' w') (ht:Nat.blt ty 9000=true:=by rfl):wpList P ops Q (o::rest) a w:=
 kb hw ho hx hc hd F hN M next ht
theorem Jh(hw:Region.wanted o (yielded ops a.tmps)=true){ty:TypeId}{cs:Array Value}(ho:o.op=.alloc ty)(hz:(P.info? ty).bind (·.zero)=some (.agg cs))(hd:o.dst=some d)(F:Fs a N l)(hN:Nat.blt d N=true)(M:aY B w0 w bs rs)
 (next:∀ g a' w',Fs a' N ((d,.pointer (some ⟨g,0,none⟩))::l)→aY B w0 w' ((g,ty,cs)::bs) rs→wpList P ops Q rest a' w') (ht:Nat.blt ty 9000=true:=by rfl):wpList P ops Q (o::rest) a w:=
 ka hw ho hz rfl hd F hN M next ht
theorem ka1(hw:Region.wanted o (yielded ops a.tmps)=true){ty:TypeId}(ho:o.op=.alloc ty)(hz:(P.info? ty).bind (·.zero)=some v)(hc:v.cells=#[v])(hd:o.dst=some d)(F:Fs a N l)(hN:Nat.blt d N=true)(M:aY B w0 w bs rs)
 (next:∀ g a' w',Fs a' N ((d,.pointer (some ⟨g,0,none⟩))::l)→aY B w0 w' ((g,ty,#[v])::bs) rs→wpList P ops Q rest a' w') (ht:Nat.blt ty 9000=true:=by rfl):wpList P ops Q (o::rest) a w:=
 ka hw ho hz hc hd F hN M next ht
theorem KG(hw:Region.wanted o (yielded ops a.tmps)=true){ty:TypeId}{x y:Operand}(ho:o.op=.store ty x y){g:Nat}{cs':Array Value}(hx:a.eval x=.pointer (some ⟨g,0,none⟩))(hy:a.eval y=.agg cs')(F:Fs a N l)(M:aY B w0 w bs rs)(i:Nat){t:TypeId}{cs:Array Value}(hi:bs[i]?=some (g,t,cs))
 {n:Nat} (hz:(P.info? ty).map (·.size)=some n) (hs:(Nat.beq cs.size n&&Nat.beq cs'.size n)=true) (h1:cs'.toList.all (·.oneCell')=true) (hd:o.dst=none)
 (next:∀ w',aY B w0 w' (bs.set i (g,t,cs')) rs→wpList P ops Q rest a w') (ht:Nat.blt t 9000=true:=by rfl) (hW:Nat.beq t 52=false∨w0.heap.size≤B:=by first|exact .inl rfl|exact .inr (Nat.le_refl _)):wpList P ops Q (o::rest) a w:=by
 obtain⟨e1,e2⟩:=Bool.and_eq_true_iff.1 hs;have e1:=atr e1;have e2:=atr e2;refine ks hw ho hx hy F M i hi rfl ?_ (hz.trans ?_) h1 (jm _ _ ?_) hd rfl next ht hW
 ·show Nat.ble (0+cs'.toList.length) cs.size=true;exact Nat.ble_eq_true_of_le (by rw[Array.length_toList];omega)
 ·show some n=some cs'.toList.length;rw[Array.length_toList,e2]
 ·show cs.size=cs'.toList.length;rw[Array.length_toList];omega
theorem kc(hw:Region.wanted o (yielded ops a.tmps)=true){f:FuncId}{args:Array Value}(hr:(execOp a.eval o).run P w=.ok (.enter f args) w)
 (hc:Calls P f args w fun e w'=>e=.returned v∧ato w.heap.size w w') (hd:o.dst=some d) (F:Fs a N l) (hN:Nat.blt d N=true) (M:aY B w0 w bs rs)
 (next:∀ a' w',Fs a' N ((d,v)::l)→aY B w0 w' bs rs→wpList P ops Q rest a' w'):wpList P ops Q (o::rest) a w:=
 kI hw hr (xD hc) hd F.fr (by simpa using hN) fun u a' w' h p=>by
  obtain⟨rfl,hb⟩:=h;exact next a' w' (F.put p) (M.keep hb)
theorem kx(hw:Region.wanted o (yielded ops a.tmps)=true){f:FuncId}{args:Array Value}(hr:(execOp a.eval o).run P w=.ok (.enter f args) w){R:Value→World→Prop}
 (hc:Calls P f args w fun e w'=>∃ v,e=.returned v∧(R v w'∧ato w.heap.size w w')) (hd:o.dst=some d) (F:Fs a N l) (hN:Nat.blt d N=true) (M:aY B w0 w bs rs)
 (next:∀ v a' w',R v w'→ato w.heap.size w w'→Fs a' N ((d,v)::l)→aY B w0 w' bs rs→wpList P ops Q rest a' w'):wpList P ops Q (o::rest) a w:=
 kI hw hr hc hd F.fr (by simpa using hN) fun u a' w' h p=>next u a' w' h.1 h.2 (F.put p) (M.keep h.2)
theorem kpP(hw:Region.wanted o (yielded ops a.tmps)=true){s x:Operand}{t:TypeId}(ho:o.op=.call { callee:=.builtin .append,args:=#[s,x],argTypes:=#[t,t] })
 {e:TypeId} {size bytes:Nat} (ht:P.underlying t=some (.slice e)) (hi:iP (P.info? e) size bytes=true) (hsz:Nat.blt 0 size=true) (M:aY B w0 w bs rs) (i:Nat) {n:Nat} {xs:List Value} (hri:rs[i]?=some ⟨v,e,size,n,xs⟩)
 (hs:a.eval s=v) {m:Nat} {news:List Value} {u:Value} (hx:a.eval x=u) (hsl:SliceAt w u size m news) (h63:n+m≤maxLen∧(n+m)*bytes≤140737488355328) (hd:o.dst=some d) (hf:Fr a N) (hN:Nat.blt d N=true)
 (next:∀ v' a' w',Put a d v' a'→aY B w0 w' bs (rs.set i ⟨v',e,size,n+m,xs++news⟩)→wpList P ops Q rest a' w') (hW:Nat.beq e 52=false∨w0.heap.size≤B:=by first|exact .inl rfl|exact .inr (Nat.le_refl _)):wpList P ops Q (o::rest) a w:=by
 have hown:=M.r i hri;have hsz':0<size:=by simpa using hsz
 rcases hsl.2.2.2 with⟨rfl,rfl⟩|⟨ad,c,rfl,hnc,hcell⟩
 ·obtain⟨ti,z,h2,h3,h4,h5,h6⟩:=ng hi;have hnil:news=[]:=List.eq_nil_of_length_eq_zero (by rw[hsl.1];simp);subst hnil;have hrun:=run_append_owned_none (P:=P) (w:=w) B t o.type e ti size ht h2 v n xs hown;refine oA hw (v:=v) (w':=w) ?_ hd hf (by simpa using hN) fun a' p=>next v a' w p ?_
  ·unfold execOp;simp only[ho,resolve,invoke,builtin,atf,Sem.run_pure,Result.andThen_ok,List.map_toArray,List.map_cons,List.map_nil,hs,hx,hrun]
  ·exact M.grow i hri (by simpa using hown) ⟨rfl,rfl,rfl,Nat.le_refl _,fun _ _ _=>rfl⟩ (.inl rfl) hW
 ·obtain⟨ti,z,h2,h3,h4,h5,h6⟩:=ng hi;subst h4 h5;obtain⟨v',w',hr,g1,g2,-⟩:=run_append_own (P:=P) w B t o.type e ti z ti.size ti.bytes ht h2 h3 rfl rfl h6 hsz' v n xs hown ad m c news hsl.1 hcell hsl.2.2.1 h63.1 h63.2 M.big;have hblk:=GX (P:=P) w B t o.type e ti z ht h2 h3 h6 hsz' v n xs hown ad m c news hsl.1 hcell hsl.2.2.1 h63.1 h63.2 hr;refine oA hw (v:=v') (w':=w') ?_ hd hf (by simpa using hN) fun a' p=>next v' a' w' p (M.grow i hri g1 g2 hblk hW)
  unfold execOp;simp only[ho,resolve,invoke,builtin,atf,Sem.run_pure,Result.andThen_ok,List.map_toArray,List.map_cons,List.map_nil,hs,hx,hr]
theorem kp(hw:Region.wanted o (yielded ops a.tmps)=true){s x:Operand}{t:TypeId}(ho:o.op=.call { callee:=.builtin .append,args:=#[s,x],argTypes:=#[t,t] })
 {e:TypeId} {size bytes:Nat} (ht:P.underlying t=some (.slice e)) (hi:iP (P.info? e) size bytes=true) (hsz:Nat.blt 0 size=true) (M:aY B w0 w bs rs) (i:Nat) {n:Nat} {xs:List Value} (hri:rs[i]?=some ⟨v,e,size,n,xs⟩)
 (hs:a.eval s=v) {m:Nat} {news:List Value} {u:Value} (hx:a.eval x=u) (hsl:SliceAt w u size m news) (h63:n+m≤maxLen∧(n+m)*bytes≤140737488355328) (hd:o.dst=some d) (F:Fs a N l) (hN:Nat.blt d N=true)
 (next:∀ v' a' w',Fs a' N ((d,v')::l)→aY B w0 w' bs (rs.set i ⟨v',e,size,n+m,xs++news⟩)→wpList P ops Q rest a' w') (hW:Nat.beq e 52=false∨w0.heap.size≤B:=by first|exact .inl rfl|exact .inr (Nat.le_refl _)):wpList P ops Q (o::rest) a w:=
 kpP hw ho ht hi hsz M i hri hs hx hsl h63 hd F.fr hN (fun v' a' w' p M'=>next v' a' w' (F.put p) M') hW
theorem aY.slice(M:aY B w0 w bs rs)(i:Nat){g:Nat}{t:TypeId}{cs:Array Value}(h:bs[i]?=some (g,t,cs)){k n:Nat}(hl:cs.toList.length=n*k)(h1:cs.toList.all (·.oneCell')=true)(hn:n≤maxLen)(ht:Nat.blt t 9000=true:=by rfl):SliceAt w (.slice (some ⟨g,0,none⟩) n n) k n cs.toList:=
 ⟨hl,hn,fun u hu=>atg.1 h1 u hu,.inr ⟨_,n,rfl,Nat.le_refl _,fun j u hu=>by rw[Addr.add_lit,Nat.zero_add,(M.b i h ht).cell];simpa using hu⟩⟩
end
section
variable {P:Program} {Q:Exit→Act→World→Prop} {a:Act} {w:World} {N:Nat} {l:Slots}
theorem Du{g:Nat}{t:TypeId}{cs:Array Value}(h:Whole w g t cs):∀ j u,cs.toList[j]?=some u→w.cell? ⟨g,0+j,none⟩=some u:=fun j u hu=>by
 rw[Nat.zero_add,h.cell];simpa using hu
theorem zV{P:Program}{o:Oper}{ty:TypeId}{x:Operand}{g:Nat}{t:TypeId}{cs:Array Value}{dd:TypeDesc}(ho:o.op=.load ty x)(hx:a.eval x=.pointer (some ⟨g,0,none⟩))(hu:P.underlying ty=some dd)
 (hd:(match dd with|.struct _|.array _ _=>true|_=>false)=true) (h:Whole w g t cs) {n:Nat} (hi:(P.info? ty).map (·.size)=some n) (hn:Nat.beq n cs.size=true):(execOp a.eval o).run P w=.ok (.value (.agg cs)) w:=
 gW cs.toList ho hx hu hd (hi.trans (by rw[Array.length_toList,atr hn])) (Du h)
def nth:List Value→Nat→Option Value
 | [],_=>none
 | x::_,0=>some x
 | _::r,i+1=>nth r i
theorem aaQ(l:List Value)(i:Nat):nth l i=l[i]?:=by
 induction l generalizing i with
 | nil=>simp[nth]
 | cons x r ih=>cases i with
  | zero=>rfl
  | succ i=>rw[nth,ih];simp
theorem Whole.c1{g:Nat}{t:TypeId}{cs:Array Value}(h:Whole w g t cs)(i:Nat):w.cell? ⟨g,i,none⟩=nth cs.toList i:=by
 rw[h.cell,aaQ];simp
theorem cF{w0:World}(hb:ato w0.heap.size w0 w){g f:Nat}{cs:List Value}(h:∀ j u,cs[j]?=some u→w0.cell? ⟨g,f+j,none⟩=some u):∀ j u,cs[j]?=some u→w.cell? ⟨g,f+j,none⟩=some u:=fun j u hu=>cell_later hb (h j u hu)
theorem en{f:FuncId}{fn:Func}{c:Code}{args:Array Value}{R:Ending→World→Prop}(hf:P.funcs[f]?=some fn)(hb:fn.body=some c)(hn:fn.ntmps=N)(hN:Nat.ble args.size N=true){vs:List Value}(ha:args=vs.toArray)
 (h:∀ a,Fs a N (ens 0 vs)→c.wp P (bodyPost P fn R) a w):Calls P f args w R:=
 S9 hf hb hn (Nat.le_of_ble_eq_true hN) fun a h1 h2=>h a (Fs.args h1 h2 ha)
theorem rt0{fn:Func}{R:Ending→World→Prop}(hr:fn.results=#[])(F:Fs a N l)(hR:R (.returned (.tuple #[])) w):bodyPost P fn R .ret a w:=Oa hr F.fr hR
theorem rt1{fn:Func}{R:Ending→World→Prop}{s:Nat}{v:Value}(hr:fn.results=#[.tmp s])(F:Fs a N l)(hv:look s l=some v)(hR:R (.returned v) w):bodyPost P fn R .ret a w:=S8 hr F.fr (F.g s hv) hR
theorem rt2{fn:Func}{R:Ending→World→Prop}{s t:Nat}{v u:Value}(hr:fn.results=#[.tmp s,.tmp t])(F:Fs a N l)(hv:look s l=some v)(hu:look t l=some u)(hR:R (.returned (.tuple #[v,u])) w):bodyPost P fn R .ret a w:=N_ hr F.fr (F.g s hv) (F.g t hu) hR
theorem hr0(P:Program)(fn:Func)(R:Ending→World→Prop)(N:Nat)(hr:fn.results=#[])(a:Act)(w:World)(l:Slots)(F:Fs a N l)(hR:R (.returned (.tuple #[])) w):bodyPost P fn R .ret a w:=rt0 hr F hR
theorem hr1(P:Program)(fn:Func)(R:Ending→World→Prop)(N s:Nat)(hr:fn.results=#[.tmp s])(a:Act)(w:World)(l:Slots)(v:Value)(F:Fs a N l)(hv:look s l=some v)(hR:R (.returned v) w):bodyPost P fn R .ret a w:=rt1 hr F hv hR
theorem MZ(P:Program)(fn:Func)(R:Ending→World→Prop)(N s t:Nat)(hr:fn.results=#[.tmp s,.tmp t])(a:Act)(w:World)(l:Slots)(v u:Value)(F:Fs a N l)(hv:look s l=some v)(hu:look t l=some u)(hR:R (.returned (.tuple #[v,u])) w):bodyPost P fn R .ret a w:=rt2 hr F hv hu hR
def RI(w0:World)(x:Int):Ending→World→Prop:=fun e w'=>e=.returned (.int .i64 x)∧ato w0.heap.size w0 w'
theorem Fs.add(F:Fs a N l){q:Nat}{v:Value}(h:At a q v):Fs a N ((q,v)::l):=by
 refine⟨F.fr,fun s x hs=>?_⟩;rw[bI] at hs
 cases he:s == q with
 | true=>
  rw[he] at hs;have hs':v=x:=atl hs;have e':s=q:=by simpa using he
  subst hs' e';exact h
 | false=>
  rw[he] at hs;exact F.at_ s x hs
end
section
variable {P:Program} {ops:Array Oper} {Q:Exit→Act→World→Prop} {a:Act} {B:Nat} {w0 w:World} {rest:List Oper} {o:Oper} {v:Value} {d N:Nat} {l:Slots} {bs:List Bx} {rs:List Rw}
theorem rf{α:Sort _}{x:α}:x=x:=rfl
def vl(l:Slots):Operand→Option Value
 | .tmp q=>look q l
 | .const v=>some v
 | _=>none
theorem Fs.u(F:Fs a N l){x:Operand}(h:vl l x=some v):a.eval x=v:=by
 cases x with
 | tmp q=>exact F.e q h
 | const u=>exact atl h
 | _=>cases h
def pl(N:Nat)(o:Oper):Option Nat:=match o.guard,o.dst with
 | none,some d=>bif Nat.blt d N then some d else none
 | _,_=>none
theorem TY(h:pl N o=some d):o.guard=none∧o.dst=some d∧Nat.blt d N=true:=by
 unfold pl at h;split at h
 ·rename_i d' hg hd
  cases hb:Nat.blt d' N with
  | false=>rw[hb] at h;cases h
  | true=>
   rw[hb] at h;have e:d'=d:=atl h;subst e;exact⟨hg,hd,hb⟩
 ·cases h
theorem kz(F:Fs a N l)(h:pl N o=some d)(hr:(execOp a.eval o).run P w=.ok (.value v) w)(next:∀ a',Fs a' N ((d,v)::l)→wpList P ops Q rest a' w):wpList P ops Q (o::rest) a w:=
 have⟨h1,h2,h3⟩:=TY h
 kv (on h1) hr h2 F h3 next
theorem xM(F:Fs a N l)(h:pl N o=some d){x:Operand}(ho:o.op=.move x)(hx:vl l x=some v)(next:∀ a',Fs a' N ((d,v)::l)→wpList P ops Q rest a' w):wpList P ops Q (o::rest) a w:=
 kz F h (cQ ho (F.u hx)) next
theorem xA(F:Fs a N l)(h:pl N o=some d){x:Operand}(ho:o.op=.assign x)(hx:vl l x=some v)(next:∀ a',Fs a' N ((d,v)::l)→wpList P ops Q rest a' w):wpList P ops Q (o::rest) a w:=
 kz F h (oh ho (F.u hx)) next
theorem xF(n:Nat)(F:Fs a N l)(h:pl N o=some d){ty:TypeId}{x:Operand}{f g off:Nat}{fs:Array Field}{fd:Field}{k:Nat}(ho:o.op=.fieldAddr ty x f)(hx:vl l x=some (.pointer (some ⟨g,off,none⟩)))(hu:P.underlying ty=some (.struct fs))(hf:fs[f]?=some fd)
 (hs:(P.info? fd.type).map (·.size)=some (k+1)) (e:off+fd.offset=n) (next:∀ a',Fs a' N ((d,.pointer (some ⟨g,n,none⟩))::l)→wpList P ops Q rest a' w):wpList P ops Q (o::rest) a w:=by
 subst e;exact Proofs.YtdcofoaihmongaaGreat.kz F h (kN ho (F.u hx) hu hf hs) next
theorem xL(F:Fs a N l){g:Nat}{t:TypeId}{cs:Array Value}(H:Whole w g t cs)(h:pl N o=some d){ty:TypeId}{x:Operand}{f:Nat}{dd:TypeDesc}(ho:o.op=.load ty x)(hx:vl l x=some (.pointer (some ⟨g,f,none⟩)))(hu:P.underlying ty=some dd)
 (hd:(match dd with|.struct _|.array _ _=>false|_=>true)=true) (hc:nth cs.toList f=some v) (next:∀ a',Fs a' N ((d,v)::l)→wpList P ops Q rest a' w):wpList P ops Q (o::rest) a w:=
 kz F h (bW ho (F.u hx) hu hd ((H.c1 f).trans hc)) next
theorem xW(F:Fs a N l){g:Nat}{t:TypeId}{cs:Array Value}(H:Whole w g t cs)(h:pl N o=some d){ty:TypeId}{x:Operand}{dd:TypeDesc}(ho:o.op=.load ty x)(hx:vl l x=some (.pointer (some ⟨g,0,none⟩)))(hu:P.underlying ty=some dd)
 (hd:(match dd with|.struct _|.array _ _=>true|_=>false)=true) {n:Nat} (hi:(P.info? ty).map (·.size)=some n) (hn:Nat.beq n cs.size=true) (next:∀ a',Fs a' N ((d,.agg cs)::l)→wpList P ops Q rest a' w):wpList P ops Q (o::rest) a w:=
 kz F h (zV ho (F.u hx) hu hd H hi hn) next
def zJ(P:Program)(f:FuncId):Bool:=match P.funcs[f]? with
 | some fn=>!(fn.name == "runtime.NumGoroutine")&&fn.body.isSome
 | none=>false
theorem rC{f:FuncId}(hf:zJ P f=true){xs:Array Operand}{ts:Array TypeId}{args:Array Value}(ho:o.op=.call { callee:=.value (.func f),args:=xs,argTypes:=ts })(ha:xs.map a.eval=args):(execOp a.eval o).run P w=.ok (.enter f args) w:=by
 unfold zJ at hf;split at hf
 ·rename_i fn hfn;rw[ata,Bool.not_eq_true'] at hf;obtain⟨c,hc⟩:=Option.isSome_iff_exists.1 hf.2;exact fS ho hfn hf.1 hc ha
 ·cases hf
theorem xC(F:Fs a N l)(M:aY B w0 w bs rs)(h:pl N o=some d){f:FuncId}{xs:Array Operand}{ts:Array TypeId}{args:Array Value}(ho:o.op=.call { callee:=.value (.func f),args:=xs,argTypes:=ts })(hf:zJ P f=true)(ha:xs.map a.eval=args)
 (hc:Calls P f args w fun e w'=>e=.returned v∧ato w.heap.size w w') (next:∀ a' w',Fs a' N ((d,v)::l)→aY B w0 w' bs rs→wpList P ops Q rest a' w'):wpList P ops Q (o::rest) a w:=
 have⟨h1,h2,h3⟩:=TY h
 kc (on h1) (rC hf ho ha) hc h2 F h3 M next
theorem xS(F:Fs a N l)(M:aY B w0 w bs rs)(h:pl N o=some d){t e:TypeId}{x:Operand}{z:Value}(ho:o.op=.buildSlice t 1 #[(0,x)])(hx:vl l x=some v)(hu:P.underlying t=some (.slice e))(hs:(P.info? e).map (·.size)=some 1)(hz:(P.info? e).bind (·.zero)=some z)
 (h1:v.cells=#[v]) (hz1:z.cells.size=1) (next:∀ g a' w',Fs a' N ((d,.slice (some ⟨g,0,none⟩) 1 1)::l)→aY B w0 w' ((g,e,#[v])::bs) rs→wpList P ops Q rest a' w') (ht:Nat.blt e 9000=true:=by rfl):wpList P ops Q (o::rest) a w:=by
 obtain⟨g1,g2,g3⟩:=TY h;refine kl (len:=1) (k:=1) (parts:=#[(0,x)]) (pv:=#[(0,v)]) (cells:=#[v]) (on g1) ho hu hs hz rfl (by simp[F.u hx]) ?_ g2 F g3 M next ht
 have hr:(Array.range (1*1)).map (z.cells[·%z.cells.size]!)=#[z.cells[0]!]:=by
  refine Array.ext (by simp) fun i h1 h2=>?_
  have hi:i=0:=by simp at h2;omega
  subst hi;simp[hz1]
 rw[hr];simp[Instr.fill,h1]
end
section
variable {P:Program} {ops:Array Oper} {Q':Exit→Act→World→Prop} {a:Act} {w w':World} {o:Oper} {v:Value} {d N:Nat} {g:Good}
theorem dv(hw:Region.wanted o (yielded ops a.tmps)=true)(hr:(execOp a.eval o).run P w=.ok (.value v) w)(hd:o.dst=some d)(hf:Fr a N)(hN:Nat.blt d N=true)
 (hK:∀ v a' w',ato w.heap.size w w'→g v w'→Put a (o.dst.getD 0) v a'→Q' .normal a' w') (hg:g v w):wpList P ops Q' [o] a w:=
 oA hw hr hd hf (by simpa using hN) fun a' p=>wpList_nil (hK v a' w (Below.refl _ _) hg (by rw[hd];exact p))
theorem dc(hw:Region.wanted o (yielded ops a.tmps)=true){f:FuncId}{args:Array Value}(hr:(execOp a.eval o).run P w=.ok (.enter f args) w)
 (hc:Calls P f args w fun e w'=>e=.returned v∧ato w.heap.size w w') (hd:o.dst=some d) (hf:Fr a N) (hN:Nat.blt d N=true)
 (hK:∀ v a' w',ato w.heap.size w w'→g v w'→Put a (o.dst.getD 0) v a'→Q' .normal a' w') (hg:∀ w',g v w'):wpList P ops Q' [o] a w:=
 kI hw hr (xD hc) hd hf (by simpa using hN) fun u a' w' h p=>by
  obtain⟨rfl,hb⟩:=h;exact wpList_nil (hK u a' w' hb (hg w') (by rw[hd];exact p))
theorem dx(hw:Region.wanted o (yielded ops a.tmps)=true){f:FuncId}{args:Array Value}(hr:(execOp a.eval o).run P w=.ok (.enter f args) w)
 (hc:Calls P f args w fun e w'=>∃ v,e=.returned v∧(g v w'∧ato w.heap.size w w')) (hd:o.dst=some d) (hf:Fr a N) (hN:Nat.blt d N=true)
 (hK:∀ v a' w',ato w.heap.size w w'→g v w'→Put a (o.dst.getD 0) v a'→Q' .normal a' w'):wpList P ops Q' [o] a w:=
 kI hw hr hc hd hf (by simpa using hN) fun u a' w' h p=>wpList_nil (hK u a' w' h.2 h.1 (by rw[hd];exact p))
theorem dn(hw:Region.wanted o (yielded ops a.tmps)=true){ty:TypeId}{cs:Array Value}{f:Nat→Value}(hr:(execOp a.eval o).run P w=.ok (.value (f w.heap.size)) (w.alloc (.cells cs ty)))(hd:o.dst=some d)(hf:Fr a N)(hN:Nat.blt d N=true)
 (hK:∀ v a' w',ato w.heap.size w w'→g v w'→Put a (o.dst.getD 0) v a'→Q' .normal a' w') (hg:∀ b w',New w w' b ty cs→g (f b) w'):wpList P ops Q' [o] a w:=
 Af hw hr hd hf (by simpa using hN) fun b a' w' n p=>wpList_nil (hK _ a' w' n.below (hg b w' n) (by rw[hd];exact p))
def Made(w:World)(f:Nat→Value)(ty:TypeId)(cs:Array Value):Good:=fun v u=>∃ g,v=f g∧Whole u g ty cs∧w.heap.size≤g
theorem MG(w:World)(f:Nat→Value)(ty:TypeId)(cs:Array Value):eN (Made w f ty cs):=fun _ _ _ ⟨g,e,h,k⟩ hb=>⟨g,e,Whole.under hb h h.lt,k⟩
theorem Uv{wb:World}{f:Nat→Value}{ty:TypeId}{cs:Array Value}(hb:ato wb.heap.size wb w)(b:Nat)(u:World)(n:New w u b ty cs):Made wb f ty cs (f b) u:=⟨b,rfl,n.whole,n.at_▸hb.size⟩
theorem aY.newAt{B:Nat}{w0:World}{bs:List Bx}{rs:List Rw}(M:aY B w0 w bs rs)(hb:ato w.heap.size w w'){g:Nat}{t:TypeId}{cs:Array Value}(h:Whole w' g t cs)(hg:w.heap.size≤g)(ht:Nat.blt t 9000=true:=by rfl):aY B w0 w' ((g,t,cs)::bs) rs:=by
 have M':=M.keep hb;refine⟨M'.below,M'.le,M'.old,?_,?_,?_,M'.row,?_,M.wv⟩
 ·intro b hb;rcases ati.1 hb with rfl|hb
  ·exact .inl ⟨ht,h⟩
  ·exact M'.box b hb
 ·intro b hb;rcases ati.1 hb with rfl|hb
  ·exact ate M.big hg
  ·exact M.lo b hb
 ·rw[List.map_cons,List.nodup_cons];refine⟨fun h=>?_,M.nd⟩;obtain⟨b,hb,e⟩:=atq.1 h;have:=(M.box b hb).lt;simp only at e;omega
 ·intro r hr b hb;rcases ati.1 hb with rfl|hb
  ·intro e;have:=((M.row r hr).lt g e).2;omega
  ·exact M.far r hr b hb
theorem rd{id:Nat}{L:List Oper}{Q:Exit→Act→World→Prop}{l:Slots}(k:Nat)(slots:List Nat)(aH:List Good)
 (hm:P.follows .mixedOrders=true) (eS:ordered 0 L=true) (htail:vY k L=true) (gG:(L.take k).map (·.dst)=slots.map some) (hnd:slots.Nodup) (hbd:slots.all (fun s=>decide (s<N))=true) (hlen:aH.length=slots.length)
 (F:Fs a N l) (hst:j8 aH) (hstep:kZ P L.toArray slots aH (ato w.heap.size w) a N (L.take k) aH)
 (hend:∀ a' w',ato w.heap.size w w'→Fs a' N (l.filter fun p=>!slots.contains p.1)→(∀ (i s:Nat) (g:Good),slots[i]?=some s→aH[i]?=some g→∃ v,At a' s v∧g v w')→dD P L.toArray (Q .normal) (L.drop k) a' w'):(Code.region id L.toArray true).wp P Q a w:=by
 refine pP k slots aH (ato w.heap.size w) hm eS htail gG hnd hbd hlen F.fr (Below.refl _ _).drew (fun _ _ h hb=>h.trans (hb.mono h.size)) hst hstep ?_;intro a' w' D;refine hend a' w' D.inv ⟨D.fr,?_⟩ fun i s g hs hg=>D.done i rfl s g hs hg
 intro q v hq
 have key:∀ l:Slots,look q (l.filter fun p=>!slots.contains p.1)=some v→slots.contains q=false∧look q l=some v:=by
  intro l
  induction l with
  | nil=>intro h;exact absurd h (by simp[look])
  | cons p r ih=>
   intro h;obtain⟨s,u⟩:=p;rw[List.filter_cons] at h;rw[bI];split at h
   ·rename_i hc;rw[bI] at h
    cases e:q == s with
    | true=>
     rw[e] at h;have e':q=s:=by simpa using e
     subst e';exact⟨by simpa using hc,h⟩
    | false=>
     rw[e] at h;exact ih h
   ·rename_i hc;obtain⟨h1,h2⟩:=ih h
    cases e:q == s with
    | true=>
     have e':q=s:=by simpa using e
     subst e';rw[h1] at hc;simp at hc
    | false=>exact⟨h1,h2⟩
 obtain⟨h1,h2⟩:=key l hq;exact D.rest q v h1 (F.at_ q v h2)
end
def gd(t:Bool)(v:Value):Value:=bif t then v else undef
theorem At.on{a:Act}{s:Nat}{t:Bool}{v:Value}(h:At a s (gd t v))(ht:t=true):At a s v:=by subst ht;exact h
theorem a1{s t:Bool}(h:(s&&t)=true):s=true:=(Bool.and_eq_true_iff.1 h).1
theorem a2{s t:Bool}(h:(s&&t)=true):t=true:=(Bool.and_eq_true_iff.1 h).2
theorem rq{P:Program}{s:Sem Next}{w:World}{v u:Value}(h:s.run P w=.ok (.value v) w)(e:v=u):s.run P w=.ok (.value u) w:=e▸h
theorem pkF(c b:Bool):(if c then gd c (.bool b) else .bool false)=Value.bool (c&&b):=by cases c<;>rfl
theorem bt(c:Bool):(c == true)=c:=by cases c<;>rfl
theorem sm{P:Program}{f:FuncId}{args:Array Value}{w:World}{v:Value}(h:Calls P f args w fun e w'=>e=.returned v∧w=w'):Calls P f args w fun e w'=>e=.returned v∧ato w.heap.size w w':=
 h.mono (by rintro _ _ ⟨rfl,rfl⟩;exact⟨rfl,Below.refl _ _⟩)
theorem u0:type_of% Tryz.underlying0:=Tryz.underlying0
theorem u1:type_of% Tryz.underlying1:=Tryz.underlying1
theorem u2:type_of% Tryz.underlying2:=Tryz.underlying2
theorem u3:type_of% Tryz.underlying3:=Tryz.underlying3
theorem u4:type_of% Tryz.underlying4:=Tryz.underlying4
theorem u5:type_of% Tryz.underlying5:=Tryz.underlying5
theorem u8:type_of% Tryz.underlying8:=Tryz.underlying8
theorem u9:type_of% Tryz.underlying9:=Tryz.underlying9
theorem u16:type_of% Tryz.underlying16:=Tryz.underlying16
theorem u21:type_of% Tryz.underlying21:=Tryz.underlying21
theorem u22:type_of% Tryz.underlying22:=Tryz.underlying22
theorem u27:type_of% Tryz.underlying27:=Tryz.underlying27
theorem u28:type_of% Tryz.underlying28:=Tryz.underlying28
theorem Tm:type_of% Tryz.underlying29:=Tryz.underlying29
theorem u30:type_of% Tryz.underlying30:=Tryz.underlying30
theorem u31:type_of% Tryz.underlying31:=Tryz.underlying31
theorem u32:type_of% Tryz.underlying32:=Tryz.underlying32
theorem Oj:type_of% Tryz.underlying39:=Tryz.underlying39
theorem Oi:type_of% Tryz.underlying52:=Tryz.underlying52
theorem u54:type_of% Tryz.underlying54:=Tryz.underlying54
theorem Xf:type_of% Tryz.underlying56:=Tryz.underlying56
theorem u64:type_of% Tryz.underlying64:=Tryz.underlying64
theorem u74:type_of% Tryz.underlying74:=Tryz.underlying74
theorem u84:type_of% Tryz.underlying84:=Tryz.underlying84
theorem Oh:type_of% Tryz.underlying89:=Tryz.underlying89
theorem adv:type_of% Tryz.underlying133:=Tryz.underlying133
theorem Xi:type_of% Tryz.underlying138:=Tryz.underlying138
theorem Aq:type_of% Tryz.underlying139:=Tryz.underlying139
theorem yV:type_of% Tryz.underlying141:=Tryz.underlying141
theorem Tn:type_of% Tryz.underlying144:=Tryz.underlying144
theorem Ig:type_of% Tryz.underlying146:=Tryz.underlying146
theorem vV:type_of% Tryz.underlying150:=Tryz.underlying150
theorem P4:type_of% Tryz.underlying156:=Tryz.underlying156
theorem Ap:type_of% Tryz.underlying157:=Tryz.underlying157
theorem aat:type_of% Tryz.underlying159:=Tryz.underlying159
theorem agM:type_of% Tryz.underlying224:=Tryz.underlying224
theorem Xh:type_of% Tryz.underlying246:=Tryz.underlying246
theorem EN:type_of% Tryz.underlying302:=Tryz.underlying302
theorem yU:type_of% Tryz.underlying304:=Tryz.underlying304
theorem Ie:type_of% Tryz.underlying341:=Tryz.underlying341
theorem Tz:(Tryz.prog.info? 3).map (·.size)=some 1:=by kernel_rfl
theorem sz9:(Tryz.prog.info? 9).map (·.size)=some 1:=by kernel_rfl
theorem agR:(Tryz.prog.info? 27).map (·.size)=some 1:=by kernel_rfl
theorem agQ:(Tryz.prog.info? 28).map (·.size)=some 1:=by kernel_rfl
theorem TA:(Tryz.prog.info? 29).map (·.size)=some 1:=by kernel_rfl
theorem agP:(Tryz.prog.info? 30).map (·.size)=some 1:=by kernel_rfl
theorem agO:(Tryz.prog.info? 31).map (·.size)=some 1:=by kernel_rfl
theorem Aw:(Tryz.prog.info? 39).map (·.size)=some 17:=by kernel_rfl
theorem kf:(Tryz.prog.info? 52).map (·.size)=some 1:=by kernel_rfl
theorem aax:(Tryz.prog.info? 54).map (·.size)=some 4:=by kernel_rfl
theorem sM:(Tryz.prog.info? 56).map (·.size)=some 13:=by kernel_rfl
theorem Xl:(Tryz.prog.info? 74).map (·.size)=some 7:=by kernel_rfl
theorem Tx:(Tryz.prog.info? 84).map (·.size)=some 13:=by kernel_rfl
theorem rO:(Tryz.prog.info? 89).map (·.size)=some 10:=by kernel_rfl
theorem ady:(Tryz.prog.info? 139).map (·.size)=some 1:=by kernel_rfl
theorem jQ:(Tryz.prog.info? 146).map (·.size)=some 14:=by kernel_rfl
theorem adx:(Tryz.prog.info? 156).map (·.size)=some 1:=by kernel_rfl
theorem Y4:(Tryz.prog.info? 157).map (·.size)=some 1:=by kernel_rfl
theorem Ou:(Tryz.prog.info? 302).map (·.size)=some 1:=by kernel_rfl
theorem zr3:(Tryz.prog.info? 3).bind (·.zero)=some (.int .i64 0):=by kernel_rfl
theorem nu:(Tryz.prog.info? 39).bind (·.zero)=some (.agg #[.slice none 0 0,.slice none 0 0,.slice none 0 0,.slice none 0 0,.slice none 0 0,.slice none 0 0,.slice none 0 0,.slice none 0 0,.slice none 0 0,.slice none 0 0,.slice none 0 0,.slice none 0 0,.slice none 0 0,.slice none 0 0,.slice none 0 0,.slice none 0 0,.slice none 0 0]):=by kernel_rfl
theorem agB:(Tryz.prog.info? 50).bind (·.zero)=some (.int .u32 0):=by kernel_rfl
theorem Sz:(Tryz.prog.info? 52).bind (·.zero)=some (.int .u64 0):=by kernel_rfl
theorem KO:(Tryz.prog.info? 54).bind (·.zero)=some (.agg #[.int .u64 0,.int .u64 0,.int .u64 0,.int .u64 0]):=by kernel_rfl
theorem oy:(Tryz.prog.info? 56).bind (·.zero)=some (.agg #[.int .i64 0,.int .u64 0,.int .u64 0,.int .u64 0,.int .u64 0,.int .u64 0,.int .u64 0,.int .u64 0,.int .u64 0,.bool false,.int .i64 0,.int .u32 0,.int .i64 0]):=by kernel_rfl
theorem ada:(Tryz.prog.info? 74).bind (·.zero)=some (.agg #[.int .i64 0,.int .i64 0,.int .i64 0,.int .i64 0,.int .u64 0,.int .i64 0,.int .u64 0]):=by kernel_rfl
theorem ac_:(Tryz.prog.info? 82).bind (·.zero)=some (.agg #[.int .i64 0,.int .i64 0,.int .i64 0,.int .i64 0]):=by kernel_rfl
theorem KN:(Tryz.prog.info? 84).bind (·.zero)=some (.agg #[.int .i64 0,.int .u64 0,.int .u64 0,.int .u64 0,.int .u64 0,.int .u64 0,.int .u64 0,.int .u64 0,.int .u64 0,.int .i64 0,.string ByteArray.empty,.int .i64 0,.int .i64 0]):=by kernel_rfl
theorem Z_:(Tryz.prog.info? 86).bind (·.zero)=some (.agg #[.string ByteArray.empty,.slice none 0 0,.bool false]):=by kernel_rfl
theorem rM:(Tryz.prog.info? 89).bind (·.zero)=some (.agg #[.int .i64 0,.int .i64 0,.int .i64 0,.int .i64 0,.slice none 0 0,.int .u64 0,.int .u64 0,.int .u64 0,.int .u64 0,.slice none 0 0]):=by kernel_rfl
theorem PL:(Tryz.prog.info? 91).bind (·.zero)=some (.agg #[.int .i64 0,.int .u32 0,.bool false,.int .i64 0,.int .i64 0,.int .i64 0,.int .i64 0,.slice none 0 0,.int .u64 0,.int .u64 0,.int .u64 0,.int .u64 0,.slice none 0 0]):=by kernel_rfl
theorem adj:(Tryz.prog.info? 111).bind (·.zero)=some (.agg #[.int .i64 0,.int .i64 0]):=by kernel_rfl
theorem adi:(Tryz.prog.info? 127).bind (·.zero)=some (.agg #[.string ByteArray.empty,.int .i64 0,.int .i64 0,.int .i64 0,.int .i64 0,.int .i64 0,.int .u64 0,.int .i64 0,.int .u64 0]):=by kernel_rfl
theorem adh:(Tryz.prog.info? 129).bind (·.zero)=some (.agg #[.string ByteArray.empty,.int .i64 0,.int .u64 0,.int .u64 0,.int .u64 0,.int .u64 0,.int .u64 0,.int .u64 0,.int .u64 0,.int .u64 0]):=by kernel_rfl
theorem adg:(Tryz.prog.info? 139).bind (·.zero)=some (.slice none 0 0):=by kernel_rfl
theorem xT:(Tryz.prog.info? 146).bind (·.zero)=some (.agg #[.int .i64 0,.int .u64 0,.int .u64 0,.int .u64 0,.int .u64 0,.int .u64 0,.int .u64 0,.int .u64 0,.int .u64 0,.bool false,.int .i64 0,.int .u32 0,.int .i64 0,.slice none 0 0]):=by kernel_rfl
theorem SC:(Tryz.prog.info? 159).bind (·.zero)=some (.agg #[(.map none),(.map none),(.map none),.slice none 0 0]):=by kernel_rfl
theorem SA:(Tryz.prog.info? 165).bind (·.zero)=some (.agg #[.bool false,.bool false,.int .i64 0]):=by kernel_rfl
theorem N9:(Tryz.prog.info? 180).bind (·.zero)=some (.agg #[.string ByteArray.empty,.slice none 0 0]):=by kernel_rfl
theorem adf:(Tryz.prog.info? 188).bind (·.zero)=some (.agg #[.string ByteArray.empty,.int .u64 0,.int .u64 0,.int .u64 0,.int .u64 0,.int .u64 0,.int .u64 0,.int .u64 0,.int .u64 0]):=by kernel_rfl
theorem YZ:(Tryz.prog.info? 192).bind (·.zero)=some (.agg #[.string ByteArray.empty,.int .u64 0,.int .u64 0,.int .u64 0,.int .u64 0,.int .i64 0,.int .u64 0,.int .i64 0,.int .u64 0,.int .i64 0,.int .u64 0]):=by kernel_rfl
theorem ade:(Tryz.prog.info? 203).bind (·.zero)=some (.agg #[.int .u64 0,.int .u64 0,.int .u64 0,.int .u64 0,.int .u64 0,.int .u64 0,.int .u64 0,.int .u64 0,.int .i64 0,.int .i64 0]):=by kernel_rfl
theorem adb:(Tryz.prog.info? 205).bind (·.zero)=some (.agg #[.int .u64 0,.int .u64 0,.int .u64 0,.int .u64 0,.int .u64 0,.int .u64 0,.int .u64 0,.int .u64 0,.int .i64 0,.int .i64 0,.int .u64 0,.int .i64 0,.int .u64 0]):=by kernel_rfl
theorem ahq:iP (Tryz.prog.info? 3) 1 8=true:=by kernel_rfl
theorem ahp:iP (Tryz.prog.info? 9) 1 16=true:=by kernel_rfl
theorem ad_:iP (Tryz.prog.info? 50) 1 4=true:=by kernel_rfl
theorem Jp:iP (Tryz.prog.info? 52) 1 8=true:=by kernel_rfl
theorem ad9:iP (Tryz.prog.info? 84) 13 112=true:=by kernel_rfl
theorem aa4:iP (Tryz.prog.info? 139) 1 24=true:=by kernel_rfl
theorem UR:iP (Tryz.prog.info? 146) 14 128=true:=by kernel_rfl
theorem xg:Tryz.prog.eqGuardType Tryz.prog.depth 54=false:=by kernel_rfl
theorem ace:Tryz.prog.eqGuardType Tryz.prog.depth 56=false:=by kernel_rfl
theorem acd:Tryz.prog.eqGuardType Tryz.prog.depth 84=false:=by kernel_rfl
theorem ZT:Tryz.prog.eqGuardType Tryz.prog.depth 125=false:=by kernel_rfl
theorem ZS:Tryz.prog.eqGuardType Tryz.prog.depth 127=false:=by kernel_rfl
theorem ZR:Tryz.prog.eqGuardType Tryz.prog.depth 129=false:=by kernel_rfl
theorem ZQ:Tryz.prog.eqGuardType Tryz.prog.depth 184=false:=by kernel_rfl
theorem V1:Tryz.prog.eqGuardType Tryz.prog.depth 188=false:=by kernel_rfl
theorem ZP:Tryz.prog.eqGuardType Tryz.prog.depth 192=false:=by kernel_rfl
theorem ZO:Tryz.prog.eqGuardType Tryz.prog.depth 197=false:=by kernel_rfl
theorem ZN:Tryz.prog.eqGuardType Tryz.prog.depth 203=false:=by kernel_rfl
theorem ZM:Tryz.prog.eqGuardType Tryz.prog.depth 205=false:=by kernel_rfl
theorem q22:zJ Tryz.prog 22=true:=by kernel_rfl
theorem q39:zJ Tryz.prog 39=true:=by kernel_rfl
theorem q80:zJ Tryz.prog 80=true:=by kernel_rfl
theorem ag4:zJ Tryz.prog 150=true:=by kernel_rfl
theorem ag3:zJ Tryz.prog 152=true:=by kernel_rfl
theorem adF:zJ Tryz.prog 169=true:=by kernel_rfl
theorem ag2:zJ Tryz.prog 196=true:=by kernel_rfl
theorem adE:zJ Tryz.prog 197=true:=by kernel_rfl
theorem ag1:zJ Tryz.prog 222=true:=by kernel_rfl
theorem ag0:zJ Tryz.prog 224=true:=by kernel_rfl
theorem agZ:zJ Tryz.prog 266=true:=by kernel_rfl
theorem agY:zJ Tryz.prog 267=true:=by kernel_rfl
theorem agX:zJ Tryz.prog 295=true:=by kernel_rfl
theorem agW:zJ Tryz.prog 323=true:=by kernel_rfl
theorem agV:zJ Tryz.prog 327=true:=by kernel_rfl
theorem ag_:(Tryz.f78.name == "runtime.NumGoroutine")=false:=by kernel_rfl
theorem Zf:(Tryz.f148.name == "runtime.NumGoroutine")=false:=by kernel_rfl
theorem Uo:(Tryz.f149.name == "runtime.NumGoroutine")=false:=by kernel_rfl
theorem adS:(Tryz.f151.name == "runtime.NumGoroutine")=false:=by kernel_rfl
theorem Ze:(Tryz.f173.name == "runtime.NumGoroutine")=false:=by kernel_rfl
theorem Zd:(Tryz.f175.name == "runtime.NumGoroutine")=false:=by kernel_rfl
theorem Zc:(Tryz.f268.name == "runtime.NumGoroutine")=false:=by kernel_rfl
theorem adR:(Tryz.f269.name == "runtime.NumGoroutine")=false:=by kernel_rfl
theorem adQ:(Tryz.f270.name == "runtime.NumGoroutine")=false:=by kernel_rfl
theorem adP:(Tryz.f324.name == "runtime.NumGoroutine")=false:=by kernel_rfl
theorem Zb:(Tryz.f326.name == "runtime.NumGoroutine")=false:=by kernel_rfl
inductive TD where
 | st (n:Nat) (Fb:List Nat)
 | sl (e k b:Nat)
 | arr (len e k:Nat)
 | str
 | one
def qd(P:Program)(t n:Nat):Bool:=match P.info? t with
 | some i=>Nat.beq i.size n
 | none=>false
def jo(P:Program)(t:Nat):TD→Bool
 | .st n Fb=>(match P.underlying t with|some (.struct fs)=>(fs.toList.map (·.offset) == Fb)&&fs.toList.all (fun f=>match P.info? f.type with|some i=>Nat.blt 0 i.size|none=>false)|_=>false)&&qd P t n
 | .sl e k b=>((match P.underlying t with|some (.slice e')=>Nat.beq e e'|_=>false)&&iP (P.info? e) k b)&&qd P t 1
 | .arr len e k=>((match P.underlying t with|some (.array n e')=>Nat.beq len n&&Nat.beq e e'|_=>false)&&qd P e k)&&qd P t (len*k)
 | .str=>match P.underlying t with|some .string=>qd P t 1|_=>false
 | .one=>(match P.underlying t with|some (.struct _)=>false|some (.array _ _)=>false|some _=>true|none=>false)&&qd P t 1
def TT:List (Nat×TD):=[
 (39,.st 17 [0,1,2,3,4,5,6,7,8,9,10,11,12,13,14,15,16]),
 (3,.one),
 (89,.st 10 [0,1,2,3,4,5,9]),
 (28,.sl 9 1 16),
 (56,.st 13 [0,1,5,9,10,11,12]),
 (29,.sl 89 10 112),
 (64,.sl 3 1 8),
 (9,.str),
 (54,.arr 4 52 1),
 (30,.sl 56 13 104),
 (94,.st 7 [0,1,2,3,4,5,6]),
 (47,.sl 94 7 48),
 (31,.sl 84 13 112),
 (23,.sl 86 3 48),
 (74,.st 7 [0,1,2,3]),
 (52,.one),
 (22,.sl 180 2 40),
 (27,.sl 197 2 24),
 (50,.one),
 (70,.st 2 [0,1]),
 (91,.st 13 [0,1,2,3]),
 (25,.sl 188 9 80),
 (139,.sl 52 1 8),
 (84,.st 13 [0,1,5,9,10,11,12]),
 (40,.sl 4 1 1),
 (102,.arr 4 3 1),
 (34,.sl 91 13 128),
 (26,.sl 192 11 96),
 (146,.st 14 [0,13]),
 (119,.sl 102 4 32),
 (4,.one),
 (180,.st 2 [0,1]),
 (35,.sl 125 8 72),
 (24,.sl 184 5 48),
 (86,.st 3 [0,1,2]),
 (36,.sl 127 9 80),
 (32,.sl 203 10 80),
 (33,.sl 205 13 104),
 (37,.sl 129 10 88),
 (192,.st 11 [0,1,5,7]),
 (107,.st 3 [0,1,2]),
 (72,.st 4 [0,2]),
 (159,.st 4 [0,1,2,3]),
 (141,.sl 146 14 128),
 (278,.st 21 [0,7,14]),
 (352,.one),
 (45,.one),
 (104,.arr 3 50 1),
 (100,.st 3 [0,1,2]),
 (304,.st 20 [0,17,18,19]),
 (165,.st 3 [0,1,2]),
 (188,.st 9 [0,1,5]),
 (240,.one),
 (133,.sl 139 1 24),
 (341,.st 2 [0,1]),
 (97,.one),
 (121,.st 2 [0,1]),
 (203,.st 10 [0,4,8,9]),
 (129,.st 10 [0,1,2,6]),
 (138,.sl 52 1 8),
 (224,.sl 50 1 4),
 (131,.sl 224 1 24),
 (111,.arr 2 3 1),
 (127,.st 9 [0,1,2]),
 (109,.sl 111 2 16),
 (205,.st 13 [0,4,8,9]),
 (113,.st 4 [0,1,2,3]),
 (76,.st 16 [0,1,8,15]),
 (82,.arr 4 3 1),
 (197,.st 2 [0,1]),
 (212,.st 4 [0,1,2]),
 (178,.sl 42 1 8),
 (125,.st 8 [0,1]),
 (184,.st 5 [0,1]),
 (344,.arr 2 70 2),
 (118,.one),
 (157,.one),
 (51,.arr 5 50 1),
 (163,.sl 165 3 16),
 (150,.one),
 (227,.sl 40 1 24),
 (246,.one),
 (5,.one),
 (21,.one),
 (78,.st 5 [0,1,2,3,4]),
 (156,.one),
 (302,.one),
 (42,.one),
 (105,.one),
 (144,.one)]
theorem afx:TT.all (fun x=>jo Tryz.prog x.1 x.2)=true:=by kernel_rfl
def NF:Nat:=344
def Sx:List Nat:=[0,1,2,252,328,329,330,331,332,333,334,335,336,337,338,339,340,341,342,343]
def jl(x:Nat):List Nat→Bool
 | []=>false
 | y::r=>bif Nat.beq x y then true else jl x r
theorem afA:(List.range NF).all (fun f=>zJ Tryz.prog f||jl f Sx)=true:=by kernel_rfl
section
variable {α:Type}
def sZ:List α→Nat→(α→Prop)→Prop
 | [],_,_=>False
 | x::_,0,f=>f x
 | _::r,i+1,f=>sZ r i f
theorem gN{l:List α}{i:Nat}{f:α→Prop}(h:sZ l i f):∃ x,l[i]?=some x∧f x:=by
 induction l generalizing i with
 | nil=>exact h.elim
 | cons x r ih=>cases i with
  | zero=>exact⟨x,rfl,h⟩
  | succ i=>obtain⟨y,h1,h2⟩:=ih h;exact⟨y,by simpa using h1,h2⟩
def AF:List α→Nat→α→(List α→Prop)→Prop
 | [],_,_,_=>False
 | _::r,0,b,f=>f (b::r)
 | x::r,i+1,b,f=>AF r i b fun r'=>f (x::r')
theorem zB{l:List α}{i:Nat}{b:α}{f:List α→Prop}(h:AF l i b f):f (l.set i b):=by
 induction l generalizing i f with
 | nil=>exact h.elim
 | cons x r ih=>cases i with
  | zero=>exact h
  | succ i=>exact ih (f:=fun r'=>f (x::r')) h
def qx:List α→Nat→Prop→Prop
 | [],0,p=>p
 | _::r,n+1,p=>qx r n p
 | _,_,_=>False
theorem iF{l:List α}{n:Nat}{p:Prop}(h:qx l n p):l.length=n∧p:=by
 induction l generalizing n with
 | nil=>cases n with
  | zero=>exact⟨rfl,h⟩
  | succ n=>exact h.elim
 | cons x r ih=>cases n with
  | zero=>exact h.elim
  | succ n=>obtain⟨h1,h2⟩:=ih h;exact⟨by simp[h1],h2⟩
def JZ:Nat→List α→(List α→Prop)→Prop
 | 0,l,f=>f l
 | n+1,_::r,f=>JZ n r f
 | _+1,[],_=>False
def Im:Nat→List α→(List α→Prop)→Prop
 | 0,_,f=>f []
 | n+1,x::r,f=>Im n r fun l=>f (x::l)
 | _+1,[],_=>False
theorem Il{n:Nat}{l:List α}{f:List α→Prop}(h:Im n l f):n≤l.length∧f (l.take n):=by
 induction n generalizing l f with
 | zero=>exact⟨Nat.zero_le _,by simpa[Im] using h⟩
 | succ n ih=>cases l with
  | nil=>exact h.elim
  | cons x r=>obtain⟨h1,h2⟩:=ih (f:=fun l=>f (x::l)) h;exact⟨by simpa using h1,by simpa using h2⟩
theorem JY{n:Nat}{l:List α}{f:List α→Prop}(h:JZ n l f):n≤l.length∧f (l.drop n):=by
 induction n generalizing l with
 | zero=>exact⟨Nat.zero_le _,by simpa[JZ] using h⟩
 | succ n ih=>cases l with
  | nil=>exact h.elim
  | cons x r=>obtain⟨h1,h2⟩:=ih h;exact⟨by simpa using h1,by simpa using h2⟩
def rU:List α→List α→(List α→Prop)→Prop
 | [],r,f=>f r
 | x::l,r,f=>rU l r fun s=>f (x::s)
theorem iG{l r:List α}{f:List α→Prop}(h:rU l r f):f (l++r):=by
 induction l generalizing f with
 | nil=>exact h
 | cons x l ih=>exact ih (f:=fun s=>f (x::s)) h
end
def Ix:List Value→Nat→List Value→(List Value→Prop)→Prop
 | cs,0,[],f=>f cs
 | _::cs,0,v::vs,f=>Ix cs 0 vs fun r=>f (v::r)
 | [],0,_::_,_=>False
 | c::cs,o+1,vs,f=>Ix cs o vs fun r=>f (c::r)
 | [],_+1,_,_=>False
theorem Xo{cs:List Value}{o:Nat}{vs:List Value}{f:List Value→Prop}(h:Ix cs o vs f):o+vs.length≤cs.length∧f (cs.take o++vs++cs.drop (o+vs.length)):=by
 induction cs generalizing o vs f with
 | nil=>cases o with
  | zero=>cases vs with
   | nil=>exact⟨by simp,by simpa[Ix] using h⟩
   | cons v vs=>exact h.elim
  | succ o=>exact h.elim
 | cons c cs ih=>cases o with
  | zero=>cases vs with
   | nil=>exact⟨by simp,by simpa[Ix] using h⟩
   | cons v vs=>
    obtain⟨h1,h2⟩:=ih (f:=fun r=>f (v::r)) h;exact⟨by simp at h1 ⊢;omega,by simpa using h2⟩
  | succ o=>
   obtain⟨h1,h2⟩:=ih (f:=fun r=>f (c::r)) h;exact⟨by simp at h1 ⊢;omega,by simpa[show o+1+vs.length=o+vs.length+1 by omega] using h2⟩
def C5(t:Nat)(f:TD→Prop):List (Nat×TD)→Prop
 | []=>False
 | (s,d)::r=>bif Nat.beq t s then f d else C5 t f r
theorem aav{t:Nat}{f:TD→Prop}{T:List (Nat×TD)}(h:C5 t f T):∃ d,(t,d)∈T∧f d:=by
 induction T with
 | nil=>exact h.elim
 | cons x r ih=>
  obtain⟨s,d⟩:=x;unfold C5 at h
  cases e:Nat.beq t s with
  | true=>
   rw[e] at h;have e':=atr e;subst e';exact⟨d,att ..,h⟩
  | false=>
   rw[e] at h;obtain⟨d',h1,h2⟩:=ih h;exact⟨d',atu _ h1,h2⟩
theorem jP{t:Nat}{f:TD→Prop}(h:C5 t f TT):∃ d,jo Tryz.prog t d=true∧f d:=by
 obtain⟨d,h1,h2⟩:=aav h;exact⟨d,atg.1 afx _ h1,h2⟩
def iW:TD→Nat
 | .st n _=>n
 | .arr len _ k=>len*k
 | _=>1
theorem kX{P:Program}{t n:Nat}(h:qd P t n=true):(P.info? t).map (·.size)=some n:=by
 unfold qd at h
 cases hi:P.info? t with
 | none=>rw[hi] at h;cases h
 | some i=>rw[hi] at h;simp[atr h]
theorem Ts{P:Program}{t n:Nat}{Fb:List Nat}(h:jo P t (.st n Fb)=true):∃ fs:Array Field,P.underlying t=some (.struct fs)∧(P.info? t).map (·.size)=some n ∧
 ∀ (i off:Nat),Fb[i]?=some off→∃ fd k,fs[i]?=some fd∧fd.offset=off∧(P.info? fd.type).map (·.size)=some (k+1):=by
 simp only[jo,ata] at h;obtain⟨h1,h2⟩:=h;split at h1
 ·rename_i fs hfs;refine⟨fs,hfs,kX h2,fun i off hi=>?_⟩;simp only[ata,beq_iff_eq,atg] at h1;obtain⟨h3,h4⟩:=h1;rw[← h3,atm] at hi
  cases hf:fs.toList[i]? with
  | none=>rw[hf] at hi;cases hi
  | some fd=>
   rw[hf] at hi;have h5:=h4 fd (atk hf)
   cases hq:P.info? fd.type with
   | none=>rw[hq] at h5;cases h5
   | some ti=>
    rw[hq] at h5;have h6:0<ti.size:=by simpa using h5
    refine⟨fd,ti.size-1,by simpa using hf,by simpa using hi,?_⟩;rw[hq,Option.map_some,Nat.sub_add_cancel h6]
 ·cases h1
theorem DF{P:Program}{t e k b:Nat}(h:jo P t (.sl e k b)=true):P.underlying t=some (.slice e)∧iP (P.info? e) k b=true:=by
 simp only[jo,ata] at h;obtain⟨⟨h1,h2⟩,-⟩:=h;split at h1
 ·rename_i e' he;rw[atr h1];exact⟨he,(atr h1)▸h2⟩
 ·cases h1
theorem Lx{P:Program}{t n e k:Nat}(h:jo P t (.arr n e k)=true):P.underlying t=some (.array n e)∧(P.info? e).map (·.size)=some k∧(P.info? t).map (·.size)=some (n*k):=by
 simp only[jo,ata] at h;obtain⟨⟨h1,h2⟩,h3⟩:=h;split at h1
 ·rename_i n' e' he;simp only[ata] at h1;rw[atr h1.1,atr h1.2];exact⟨he,(atr h1.2)▸kX h2,(atr h1.1)▸kX h3⟩
 ·cases h1
theorem Lw{P:Program}{t:Nat}(h:jo P t .str=true):P.underlying t=some .string:=by
 simp only[jo] at h;split at h
 ·assumption
 ·cases h
theorem Bt{o:Option TypeInfo}{k b:Nat}(h:iP o k b=true):o.map (·.size)=some k:=by
 obtain⟨i,z,h1,-,h2,-⟩:=ng h;rw[h1];simp[h2]
def TD.one':TD→Bool
 | .st _ _|.arr _ _ _=>false
 | _=>true
theorem Tt{P:Program}{t:Nat}{d:TD}(h:jo P t d=true)(h1:d.one'=true):∃ dd,P.underlying t=some dd∧(match dd with|.struct _|.array _ _=>false|_=>true)=true:=by
 cases d with
 | st=>cases h1
 | arr=>cases h1
 | sl e k b=>exact⟨_,(DF h).1,rfl⟩
 | str=>exact⟨_,Lw h,rfl⟩
 | one=>
  simp only[jo,ata] at h;obtain⟨h1,-⟩:=h
  cases hu:P.underlying t with
  | none=>rw[hu] at h1;cases h1
  | some dd=>
   rw[hu] at h1;refine⟨dd,rfl,?_⟩;cases dd<;>first|rfl|cases h1
theorem zx{P:Program}{t:Nat}{d:TD}(h:jo P t d=true)(h1:d.one'=false):∃ dd,P.underlying t=some dd∧(match dd with|.struct _|.array _ _=>true|_=>false)=true∧(P.info? t).map (·.size)=some (iW d):=by
 cases d with
 | st n Fb=>
  obtain⟨fs,h2,h3,-⟩:=Ts h;exact⟨_,h2,rfl,h3⟩
 | arr n e k=>
  obtain⟨h2,-,h3⟩:=Lx h;exact⟨_,h2,rfl,h3⟩
 | sl=>cases h1
 | str=>cases h1
 | one=>cases h1
theorem zw{P:Program}{t:Nat}{d:TD}(h:jo P t d=true):(P.info? t).map (·.size)=some (iW d):=by
 cases d with
 | st n Fb=>exact(zx h rfl).choose_spec.2.2
 | arr n e k=>exact(zx h rfl).choose_spec.2.2
 | sl e k b=>
  simp only[jo,ata] at h;exact kX h.2
 | str=>
  simp only[jo] at h;split at h
  ·exact kX h
  ·cases h
 | one=>
  simp only[jo,ata] at h;exact kX h.2
abbrev Pa:=List (Nat×Bool)
structure gi where
 s:Nat
 j:Nat
 p:Pa
 t:Bool
 v:Value
def bEq:Bool→Bool→Bool
 | true,b=>b
 | false,true=>false
 | false,false=>true
theorem Wp{a b:Bool}(h:bEq a b=true):a=b:=by cases a<;>cases b<;>simp_all [bEq]
def inP(x:Nat×Bool):Pa→Bool
 | []=>false
 | y::r=>bif (bif Nat.beq x.1 y.1 then bEq x.2 y.2 else false) then true else inP x r
theorem aa5{x:Nat×Bool}{p:Pa}(h:inP x p=true):x∈p:=by
 induction p with
 | nil=>cases h
 | cons y r ih=>
  unfold inP at h
  cases e:Nat.beq x.1 y.1 with
  | false=>rw[e] at h;exact atu _ (ih h)
  | true=>
   rw[e] at h
   cases e2:bEq x.2 y.2 with
   | false=>rw[e2] at h;exact atu _ (ih h)
   | true=>
    obtain⟨a,b⟩:=x;obtain⟨c,d⟩:=y;have h1:=atr e;have h2:=Wp e2;simp only at h1 h2;rw[h1,h2];exact att ..
def ES:Pa→Pa→Bool
 | [],_=>true
 | x::r,π=>bif inP x π then ES r π else false
theorem zy{p π:Pa}(h:ES p π=true):∀ x∈p,x∈π:=by
 induction p with
 | nil=>intro x hx;cases hx
 | cons y r ih=>
  unfold ES at h
  cases e:inP y π with
  | false=>rw[e] at h;cases h
  | true=>
   rw[e] at h;intro x hx;rcases ati.1 hx with rfl|hx
   ·exact aa5 e
   ·exact ih h x hx
def eqG(c:Bool):Bool→Bool
 | true=>c
 | false=>!c
theorem Pc{c b:Bool}:eqG c b=true↔c=b:=by cases c<;>cases b<;>simp[eqG]
def tJ(p:Pa)(t c b:Bool):Bool:=match p with
 | []=>eqG c b
 | _::_=>t&&eqG c b
def lkM(q:Nat)(f:Nat→Pa→Value→Prop)(n:Prop):List gi→Prop
 | []=>n
 | ⟨s,j,p,_,v⟩::r=>bif Nat.beq q s then f j p v else lkM q f n r
def lkJ(q:Nat)(f:Pa→Bool→Value→Prop):List gi→Prop
 | []=>False
 | ⟨_,j,p,t,v⟩::r=>bif Nat.beq q j then f p t v else lkJ q f r
theorem Ux{q:Nat}{f:Nat→Pa→Value→Prop}{n:Prop}{m:List gi}(h:lkM q f n m):(∃ e∈m,e.s=q∧f e.j e.p e.v)∨((∀ e∈m,e.s≠q)∧n):=by
 induction m with
 | nil=>exact .inr ⟨by simp,h⟩
 | cons e r ih=>
  obtain⟨s,j,p,t,v⟩:=e;unfold lkM at h
  cases hb:Nat.beq q s with
  | true=>
   rw[hb] at h;exact .inl ⟨_,att ..,(atr hb).symm,h⟩
  | false=>
   rw[hb] at h;rcases ih h with⟨e,h1,h2⟩|⟨h1,h2⟩
   ·exact .inl ⟨e,atu _ h1,h2⟩
   ·refine .inr ⟨fun e he=>?_,h2⟩;rcases ati.1 he with rfl|he
    ·intro e2;have e3:s=q:=e2;subst e3;rw[Nat.beq_refl] at hb;cases hb
    ·exact h1 e he
theorem aaY{q:Nat}{f:Pa→Bool→Value→Prop}{m:List gi}(h:lkJ q f m):∃ e∈m,e.j=q∧f e.p e.t e.v:=by
 induction m with
 | nil=>exact h.elim
 | cons e r ih=>
  obtain⟨s,j,p,t,v⟩:=e;unfold lkJ at h
  cases hb:Nat.beq q j with
  | true=>
   rw[hb] at h;exact⟨_,att ..,(atr hb).symm,h⟩
  | false=>
   rw[hb] at h;obtain⟨e,h1,h2⟩:=ih h;exact⟨e,atu _ h1,h2⟩
def jw(d:Nat):List gi→Bool
 | []=>true
 | e::r=>bif Nat.beq d e.s then false else jw d r
theorem Rj{d:Nat}{m:List gi}(h:jw d m=true):∀ e∈m,e.s≠d:=by
 induction m with
 | nil=>intro e he;cases he
 | cons e r ih=>
  unfold jw at h
  cases hb:Nat.beq d e.s with
  | true=>rw[hb] at h;cases h
  | false=>
   rw[hb] at h;intro e' he;rcases ati.1 he with rfl|he
   ·intro e2;rw[e2,Nat.beq_refl] at hb;cases hb
   ·exact ih h e' he
def Cond(m:List gi)(x:Nat×Bool):Prop:=∃ e∈m,e.j=x.1∧e.t=true∧e.v=.bool x.2
structure jk (m:List gi) (n:Nat):Prop where
 lt:∀ e∈m,e.j<n
 uniq:∀ e∈m,∀ e'∈m,e.j=e'.j→e=e'
 pm:∀ e∈m,∀ x∈e.p,∃ e'∈m,e'.j=x.1
 tv:∀ e∈m,e.t=true↔∀ x∈e.p,Cond m x
theorem jk.nil(n:Nat):jk [] n:=⟨by simp,by simp,by simp,by simp⟩
theorem jk.mono{m:List gi}{n n':Nat}(h:jk m n)(hn:n≤n'):jk m n':=⟨fun e he=>atn (h.lt e he) hn,h.uniq,h.pm,h.tv⟩
theorem Ej{m:List gi}{e:gi}{x:Nat×Bool}(hx:e.j≠x.1):Cond (e::m) x↔Cond m x:=by
 constructor
 ·rintro⟨e',he,h1,h2⟩;rcases ati.1 he with rfl|he
  ·exact absurd h1 hx
  ·exact⟨e',he,h1,h2⟩
 ·rintro⟨e',he,h⟩;exact⟨e',atu _ he,h⟩
theorem jk.put{m:List gi}{n:Nat}(h:jk m n){s:Nat}{p:Pa}{t:Bool}{v:Value}(hp:∀ x∈p,∃ e∈m,e.j=x.1)(ht:t=true↔∀ x∈p,Cond m x):jk (⟨s,n,p,t,v⟩::m) (n+1):=by
 refine⟨?_,?_,?_,?_⟩
 ·intro e he;rcases ati.1 he with rfl|he
  ·exact Nat.lt_succ_self n
  ·exact Nat.lt_succ_of_lt (h.lt e he)
 ·intro e he e' he' hj;rcases ati.1 he with rfl|he<;>rcases ati.1 he' with rfl|he'
  ·rfl
  ·have:=h.lt e' he';simp only at hj;omega
  ·have:=h.lt e he;simp only at hj;omega
  ·exact h.uniq e he e' he' hj
 ·intro e he x hx;rcases ati.1 he with rfl|he
  ·obtain⟨e',h1,h2⟩:=hp x hx;exact⟨e',atu _ h1,h2⟩
  ·obtain⟨e',h1,h2⟩:=h.pm e he x hx;exact⟨e',atu _ h1,h2⟩
 ·intro e he;have key:∀ p':Pa,(∀ x∈p',∃ e∈m,e.j=x.1)→((∀ x∈p',Cond (⟨s,n,p,t,v⟩::m) x)↔∀ x∈p',Cond m x):=fun p' hp'=>⟨fun h' x hx=>(Ej (by obtain⟨e',h1,h2⟩:=hp' x hx;have:=h.lt e' h1;simp only;omega)).1 (h' x hx),fun h' x hx=>(Ej (by obtain⟨e',h1,h2⟩:=hp' x hx;have:=h.lt e' h1;simp only;omega)).2 (h' x hx)⟩
  rcases ati.1 he with rfl|he
  ·rw[key p hp];exact ht
  ·rw[key e.p (h.pm e he)];exact h.tv e he
theorem jk.guard{m:List gi}{n:Nat}(h:jk m n){e:gi}(he:e∈m){c b:Bool}(hv:e.v=.bool c):(∀ x∈(e.j,b)::e.p,∃ e'∈m,e'.j=x.1)∧(tJ e.p e.t c b=true↔∀ x∈(e.j,b)::e.p,Cond m x)∧(tJ e.p e.t c b=true↔e.t=true∧c=b):=by
 have h1:tJ e.p e.t c b=true↔e.t=true∧c=b:=by
  unfold tJ
  cases hp:e.p with
  | nil=>
   have:e.t=true:=(h.tv e he).2 (by rw[hp];simp);simp[Pc,this]
  | cons x r=>simp[Pc]
 refine⟨?_,?_,h1⟩
 ·intro x hx;rcases ati.1 hx with rfl|hx
  ·exact⟨e,he,rfl⟩
  ·exact h.pm e he x hx
 ·rw[h1];constructor
  ·rintro⟨ht,rfl⟩ x hx;rcases ati.1 hx with rfl|hx
   ·exact⟨e,he,rfl,ht,hv⟩
   ·exact(h.tv e he).1 ht x hx
  ·intro hc;refine⟨(h.tv e he).2 fun x hx=>hc x (atu _ hx),?_⟩;obtain⟨e',he',h2,h3,h4⟩:=hc _ (att ..);have:=h.uniq e' he' e he h2;subst this;rw[hv] at h4;injection h4
theorem jk.sub{m:List gi}{n:Nat}(h:jk m n){e:gi}(he:e∈m){π:Pa}{t:Bool}(ht:t=true↔∀ x∈π,Cond m x)(hs:ES e.p π=true)(bD:t=true):e.t=true:=
 (h.tv e he).2 fun x hx=>ht.1 bD x (zy hs x hx)
def Et(l:Slots)(m:List gi)(π:Pa):Operand→Value→Prop
 | .tmp q,v=>(∃ e∈m,e.s=q∧e.v=v∧ES e.p π=true)∨((∀ e∈m,e.s≠q)∧look q l=some v)
 | .const u,v=>u=v
 | .func f,v=>Value.func (.func f) #[] #[]=v
 | _,_=>False
def qm(l:Slots)(m:List gi)(π:Pa)(x:Operand)(k:Value→Prop):Prop:=match x with
 | .tmp q=>lkM q (fun _ p v=>bif ES p π then k v else False) (match look q l with|some v=>k v|none=>False) m
 | .const v=>k v
 | .func f=>k (.func (.func f) #[] #[])
 | _=>False
theorem cA{l:Slots}{m:List gi}{π:Pa}{x:Operand}{k:Value→Prop}(h:qm l m π x k):∃ v,Et l m π x v∧k v:=by
 unfold qm at h;split at h
 ·rename_i q;rcases Ux h with⟨e,h1,h2,h3⟩|⟨h1,h2⟩
  ·cases hs:ES e.p π with
   | false=>rw[hs] at h3;exact h3.elim
   | true=>rw[hs] at h3;exact⟨e.v,.inl ⟨e,h1,h2,rfl,hs⟩,h3⟩
  ·cases hl:look q l with
   | none=>rw[hl] at h2;exact h2.elim
   | some v=>rw[hl] at h2;exact⟨v,.inr ⟨h1,hl⟩,h2⟩
 ·exact⟨_,rfl,h⟩
 ·exact⟨_,rfl,h⟩
 ·exact h.elim
inductive CO {α β:Type} (R:α→β→Prop):List α→List β→Prop where
 | nil:CO R [] []
 | cons {x:α} {y:β} {xs:List α} {ys:List β}:R x y→CO R xs ys→CO R (x::xs) (y::ys)
def OE(l:Slots)(m:List gi)(π:Pa):List Operand→(List Value→Prop)→Prop
 | [],k=>k []
 | x::r,k=>qm l m π x fun v=>OE l m π r fun vs=>k (v::vs)
theorem kr{l:Slots}{m:List gi}{π:Pa}{xs:List Operand}{k:List Value→Prop}(h:OE l m π xs k):∃ vs,CO (Et l m π) xs vs∧k vs:=by
 induction xs generalizing k with
 | nil=>exact⟨[],.nil,h⟩
 | cons x r ih=>
  obtain⟨v,h1,h2⟩:=cA h;obtain⟨vs,h3,h4⟩:=ih h2;exact⟨v::vs,.cons h1 h3,h4⟩
def ikN:IntKind→Nat
 | .i8=>0|.i16=>1|.i32=>2|.i64=>3|.u8=>4|.u16=>5|.u32=>6|.u64=>7
theorem aa6{a b:IntKind}(h:Nat.beq (ikN a) (ikN b)=true):a=b:=by
 have h:=atr h;cases a<;>cases b<;>first|rfl|exact absurd h (by decide)
def tB(x y:Value)(e:Prop)(f:IntKind→Int→Int→Prop):Prop:=match x,y with
 | .int κ m,.int κ' n=>bif Nat.beq (ikN κ) (ikN κ') then f κ m n else False
 | _,_=>e
theorem gU{x y:Value}{e:Prop}{f:IntKind→Int→Int→Prop}(h:tB x y e f):(∃ κ m n,x=.int κ m∧y=.int κ n∧f κ m n)∨e:=by
 unfold tB at h;split at h
 ·rename_i κ m κ' n
  cases e:Nat.beq (ikN κ) (ikN κ') with
  | true=>rw[e] at h;rw[aa6 e] at h ⊢;exact .inl ⟨_,_,_,rfl,rfl,h⟩
  | false=>rw[e] at h;exact h.elim
 ·exact .inr h
def ob(π:Pa)(t:Bool)(p q:Prop):Prop:=match π with
 | []=>p∧q
 | _::_=>(t=true→p)∧q
theorem gY{π:Pa}{t:Bool}{p q:Prop}(h:ob π t p q):(t=true→p)∧q:=by
 unfold ob at h;split at h
 ·exact⟨fun _=>h.1,h.2⟩
 ·exact h
def QY(κ:IntKind)(z:Int)(f:Prop→Prop):Prop:=match κ with
 | .i64=>f (-9223372036854775808≤z∧z≤9223372036854775807)
 | .u8=>f (0≤z∧z≤255)
 | .u32=>f (0≤z∧z≤4294967295)
 | .u64=>f (0≤z∧z≤18446744073709551615)
 | _=>False
theorem zQ{κ:IntKind}{z:Int}{f:Prop→Prop}(h:QY κ z f):∃ p,f p∧(p→κ.wrap z=z):=by
 unfold QY at h;split at h
 ·exact⟨_,h,fun h=>wrap_i64 h⟩
 ·exact⟨_,h,fun h=>by simp only[IntKind.wrap,IntKind.bits,IntKind.signed];simp;omega⟩
 ·exact⟨_,h,fun h=>by simp only[IntKind.wrap,IntKind.bits,IntKind.signed];simp;omega⟩
 ·exact⟨_,h,fun h=>by simp only[IntKind.wrap,IntKind.bits,IntKind.signed];simp;omega⟩
 ·exact h.elim
def E6(u:Value)(e:Prop)(f:Nat→Nat→Prop):Prop:=match u with
 | .pointer (some ⟨g,off,none⟩)=>f g off
 | _=>e
theorem oG{u:Value}{e:Prop}{f:Nat→Nat→Prop}(h:E6 u e f):(∃ g off,u=.pointer (some ⟨g,off,none⟩)∧f g off)∨e:=by
 unfold E6 at h;split at h
 ·exact .inl ⟨_,_,rfl,h⟩
 ·exact .inr h
def zT(π:Pa)(t:Bool)(k:Value→Prop):Prop:=match π with
 | []=>False
 | _::_=>(t=true→False)∧k undef
theorem VD{π:Pa}{t:Bool}{k:Value→Prop}(h:zT π t k):(t=true→False)∧k undef:=by
 unfold zT at h;split at h
 ·exact h.elim
 ·exact h
theorem aci{P:Program}{a:Act}{w:World}{o:Oper}{ty yt:TypeId}{x y:Operand}{s t:Bool}(ho:o.op=.binOp .eql ty x y yt)(hx:a.eval x=.bool s)(hy:a.eval y=.bool t)(hu:P.underlying ty=some .bool):(execOp a.eval o).run P w=.ok (.value (.bool (s == t))) w:=by
 unfold execOp;simp[ho,hx,hy,eqGuard,binOp,run_equal_bool w ty s t hu]
theorem acf{P:Program}{a:Act}{w:World}{o:Oper}{ty yt:TypeId}{x y:Operand}{s t:Bool}(ho:o.op=.binOp .neq ty x y yt)(hx:a.eval x=.bool s)(hy:a.eval y=.bool t)(hu:P.underlying ty=some .bool):(execOp a.eval o).run P w=.ok (.value (.bool (!(s == t)))) w:=by
 unfold execOp;simp[ho,hx,hy,eqGuard,binOp,run_equal_bool w ty s t hu]
def iz:Op→List Operand
 | .move x|.assign x|.nilCheck x|.load _ x|.box _ x|.unOp _ _ x|.fieldAddr _ x _|.extract x _|.convert _ _ x|.makeInterface _ x|.range _ x|.next x _|.entry x|.typeAssert x _ _ _|.panic x=>[x]
 | .pick c x y=>[c,x,y]
 | .binOp _ _ x y _|.indexAddr _ x y|.index _ x y|.store _ x y|.lookup _ x y _|.makeSlice _ x y=>[x,y]
 | .build _ ps|.buildSlice _ _ ps=>ps.toList.map (·.2)
 | .call c=>(match c.callee with|.value (.func _)=>[]|.value f=>[f]|.invoke r _=>[r]|.builtin _=>[])++c.args.toList
 | .makeFunc _ xs ys=>xs.toList++ys.toList
 | .slice _ x l h m=>x::(l.toList++h.toList++m.toList)
 | .mapUpdate _ a b c=>[a,b,c]
 | _=>[]
theorem afl{P:Program}{a:Act}{w:World}{o:Oper}{ty yt:TypeId}{x y:Operand}{s t:ByteArray}(ho:o.op=.binOp .lss ty x y yt)(hx:a.eval x=.string s)(hy:a.eval y=.string t):(execOp a.eval o).run P w=.ok (.value (.bool (Op.bytesLess s.toList t.toList))) w:=by
 unfold execOp;simp[ho,hx,hy,eqGuard,binOp,Op.stringOp]
theorem afm{P:Program}{a:Act}{w:World}{o:Oper}{ty yt:TypeId}{x y:Operand}{s t:ByteArray}(ho:o.op=.binOp .leq ty x y yt)(hx:a.eval x=.string s)(hy:a.eval y=.string t):(execOp a.eval o).run P w=.ok (.value (.bool (Op.bytesLess s.toList t.toList||s.toList == t.toList))) w:=by
 unfold execOp;simp[ho,hx,hy,eqGuard,binOp,Op.stringOp]
abbrev vJ (a:Act) (xs:List Operand) (vs:List Value):Prop:=CO (fun x u=>a.eval x=u) xs vs
section
variable (l:Slots) (m:List gi) (π:Pa) (t:Bool) (k:Value→Prop)
def FBp(op:Op):Prop:=OE l m π (iz op) fun vs=>∃ v,ob π t (∀ (a:Act) (w:World) (o:Oper),o.op=op→vJ a (iz op) vs→(execOp a.eval o).run Tryz.prog w=.ok (.value v) w) (k v)
def afs(op:BinOp)(ty:TypeId)(x y:Value)(fb:Prop):Prop:=match op with
 | .lss=>match x with
  | .string s=>(match y with|.string u=>k (.bool (Op.bytesLess s.toList u.toList))|_=>False)
  | _=>tB x y (zT π t k) fun _ m n=>k (.bool (decide (m<n)))
 | .leq=>match x with
  | .string s=>(match y with|.string u=>k (.bool (Op.bytesLess s.toList u.toList||s.toList == u.toList))|_=>False)
  | _=>tB x y (zT π t k) fun _ m n=>k (.bool (decide (m≤n)))
 | .gtr=>tB x y (zT π t k) fun _ m n=>k (.bool (decide (n<m)))
 | .geq=>tB x y (zT π t k) fun _ m n=>k (.bool (decide (n≤m)))
 | .add=>tB x y (zT π t k) fun κ m n=>QY κ (m+n) fun p=>ob π t p (k (.int κ (m+n)))
 | .sub=>tB x y (zT π t k) fun κ m n=>QY κ (m-n) fun p=>ob π t p (k (.int κ (m-n)))
 | .mul=>tB x y (zT π t k) fun κ m n=>QY κ (m*n) fun p=>ob π t p (k (.int κ (m*n)))
 | .and=>tB x y (zT π t k) fun κ m n=>∃ z,ob π t (κ.wrap (BitVec.ofInt κ.bits m&&&BitVec.ofInt κ.bits n).toNat=z) (k (.int κ z))
 | .or=>tB x y (zT π t k) fun κ m n=>∃ z,ob π t (κ.wrap (BitVec.ofInt κ.bits m|||BitVec.ofInt κ.bits n).toNat=z) (k (.int κ z))
 | .xor=>tB x y (zT π t k) fun κ m n=>∃ z,ob π t (κ.wrap (BitVec.ofInt κ.bits m ^^^ BitVec.ofInt κ.bits n).toNat=z) (k (.int κ z))
 | .andNot=>tB x y (zT π t k) fun κ m n=>∃ z,ob π t (κ.wrap (BitVec.ofInt κ.bits m&&&~~~ BitVec.ofInt κ.bits n).toNat=z) (k (.int κ z))
 | .eql=>match x with
  | .int _ _=>tB x y (zT π t k) fun _ m n=>k (.bool (decide (m=n)))
  | .string s=>(match y with|.string u=>k (.bool (s.toList == u.toList))|_=>False)
  | .agg xs=>(match y with|.agg ys=>∃ b,ob π t (Tryz.prog.eqGuardType Tryz.prog.depth ty=false∧∀ w,(Op.equalIn 10000 ty (.agg xs) (.agg ys)).run Tryz.prog w=.ok b w) (k (.bool b))|_=>False)
  | .bool s=>(match y with|.bool u=>bif Nat.beq ty 4 then k (.bool (s == u)) else False|_=>False)
  | _=>fb
 | .neq=>match x with
  | .int _ _=>tB x y (zT π t k) fun _ m n=>k (.bool (!decide (m=n)))
  | .string s=>(match y with|.string u=>k (.bool (!(s.toList == u.toList)))|_=>False)
  | .agg xs=>(match y with|.agg ys=>∃ b,ob π t (Tryz.prog.eqGuardType Tryz.prog.depth ty=false∧∀ w,(Op.equalIn 10000 ty (.agg xs) (.agg ys)).run Tryz.prog w=.ok b w) (k (.bool (!b)))|_=>False)
  | .bool s=>(match y with|.bool u=>bif Nat.beq ty 4 then k (.bool (!(s == u))) else False|_=>False)
  | _=>fb
 | _=>fb
def Zl(c:Bool)(x:Operand):Bool:=match x with
 | .const (.bool b)=>bEq b c
 | _=>false
def pkV(x y:Operand)(b:Bool)(u v:Value):Prop:=
 match u with
 | .bool ub=>(match v with
  | .bool vb=>bif Zl false y then k (.bool (b&&ub)) else bif Zl true x then k (.bool (b||vb)) else k (.bool (bif b then ub else vb))
  | _=>False)
 | _=>∃ z,ob π t ((b=true→u=z)∧(b=false→v=z)) (k z)
def pk2(_ x y:Operand)(πt πf:Pa)(b:Bool):Prop:=qm l m πt x fun u=>qm l m πf y fun v=>pkV π t k x y b u v
def Y8(c x y:Operand):Prop:=match c with
 | .tmp q=>lkM q (fun j p v=>bif ES p π then (match v with|.bool b=>pk2 l m π t k c x y ((j,true)::π) ((j,false)::π) b|_=>False) else False)
  (match look q l with|some (.bool b)=>pk2 l m π t k c x y π π b|_=>False) m
 | _=>False
def pop(op:Op):Prop:=match op with
 | .move x=>qm l m π x k
 | .assign x=>qm l m π x k
 | .nilCheck x=>qm l m π x fun v=>match v with|.pointer (some p)=>k (.pointer (some p))|_=>False
 | .fieldAddr ty x f=>qm l m π x fun u=>E6 u (zT π t k) fun g off=>C5 ty (fun D=>match D with|.st _ Fb=>sZ Fb f fun n=>k (.pointer (some ⟨g,off+n,none⟩))|_=>False) TT
 | .indexAddr ty x y=>qm l m π x fun u=>qm l m π y fun v=>match v with
  | .int _ z=>(match u with
   | .slice la n _=>C5 ty (fun D=>match D with|.sl _ kk _=>∃ b off i:Nat,ob π t (la=some ⟨b,off,none⟩∧z=(i:Int)∧i<n) (k (.pointer (some ⟨b,off+i*kk,none⟩)))|_=>False) TT
   | .pointer (some ⟨g,off,none⟩)=>C5 ty (fun D=>match D with|.arr n _ kk=>∃ i:Nat,ob π t (z=(i:Int)∧i<n) (k (.pointer (some ⟨g,off+i*kk,none⟩)))|_=>False) TT
   | _=>zT π t k)
  | _=>zT π t k
 | .index ty x y=>qm l m π x fun u=>qm l m π y fun v=>match v with
  | .int _ z=>(match u with
   | .string s=>C5 ty (fun D=>match D with|.str=>∃ i u:Nat,ob π t (z=(i:Int)∧∃ h:i<s.size,(s[i]'h).toNat=u) (k (.int .u8 (u:Int)))|_=>False) TT
   | _=>zT π t k)
  | _=>zT π t k
 | .binOp op ty x y yt=>qm l m π x fun u=>qm l m π y fun v=>afs π t k op ty u v (FBp l m π t k (.binOp op ty x y yt))
 | .unOp u ty x=>(match u with
  | .not=>qm l m π x fun v=>match v with|.bool b=>k (.bool (!b))|_=>zT π t k
  | .neg=>qm l m π x fun v=>match v with|.int κ n=>QY κ (0-n) fun p=>ob π t p (k (.int κ (0-n)))|_=>False
  | _=>FBp l m π t k (.unOp u ty x))
 | .extract x i=>qm l m π x fun v=>match v with|.tuple vs=>sZ vs.toList i k|_=>False
 | .pick c x y=>Y8 l m π t k c x y
 | .call c=>(match c.callee with
  | .builtin .len=>(match c.args.toList with
   | [x]=>(match c.argTypes.toList with
    | [ty]=>qm l m π x fun v=>match v with
     | .slice _ n _=>C5 ty (fun D=>match D with|.sl _ _ _=>k (.int .i64 (n:Int))|_=>False) TT
     | .string s=>C5 ty (fun D=>match D with|.str=>k (.int .i64 (s.size:Int))|_=>False) TT
     | _=>False
    | _=>False)
   | _=>False)
  | _=>FBp l m π t k (.call c))
 | op=>FBp l m π t k op
end
def Gives(l:Slots)(m:List gi)(t:Bool)(op:Op)(v:Value):Prop:=
 ∀ (a:Act) (w:World) (o:Oper),o.op=op→(∀ x∈iz op,∀ π' v,Et l m π' x v→(∀ y∈π',Cond m y)→a.eval x=v)→t=true→(execOp a.eval o).run Tryz.prog w=.ok (.value v) w
section
variable {l:Slots} {m:List gi} {n:Nat} {π:Pa} {t:Bool} {k:Value→Prop}
theorem w_{a:Act}{xs:List Operand}{vs:List Value}(h:CO (Et l m π) xs vs)(hc:∀ y∈π,Cond m y)(E:∀ x∈xs,∀ π' v,Et l m π' x v→(∀ y∈π',Cond m y)→a.eval x=v):vJ a xs vs:=by
 induction h with
 | nil=>exact .nil
 | cons h1 _ ih=>exact .cons (E _ (att ..) _ _ h1 hc) (ih fun x hx=>E x (atu _ hx))
theorem xO(ht:t=true↔∀ x∈π,Cond m x){op:Op}(h:FBp l m π t k op):∃ v,k v∧Gives l m t op v:=by
 obtain⟨vs,h1,v,h2⟩:=kr h;obtain⟨h3,h4⟩:=gY h2;exact⟨v,h4,fun a w o ho E bD=>h3 bD a w o ho (w_ h1 (ht.1 bD) E)⟩
theorem dA{op:Op}(h:zT π t k):∃ v,k v∧Gives l m t op v:=by
 obtain⟨h1,h2⟩:=VD h;exact⟨_,h2,fun a w o ho E bD=>(h1 bD).elim⟩
theorem UK{c:Bool}{x:Operand}(h:Zl c x=true):x=.const (.bool c):=by
 unfold Zl at h;split at h
 ·rw[Wp h]
 ·cases h
theorem TL{a:Act}{w:World}{o:Oper}{c x y:Operand}{b:Bool}{z:Value}(ho:o.op=.pick c x y)(hc:a.eval c=.bool b)(h1:b=true→a.eval x=z)(h2:b=false→a.eval y=z):(execOp a.eval o).run Tryz.prog w=.ok (.value z) w:=by
 have:=tH (P:=Tryz.prog) (w:=w) ho hc rfl rfl
 cases b with
 | true=>rw[← h1 rfl];exact this
 | false=>rw[← h2 rfl];exact this
theorem T3(_:t=true↔∀ x∈π,Cond m x){c x y:Operand}{b:Bool}{πc πt πf:Pa}(hc:Et l m πc c (.bool b))(hcc:t=true→∀ z∈πc,Cond m z)(hxt:t=true→b=true→∀ z∈πt,Cond m z)(hyf:t=true→b=false→∀ z∈πf,Cond m z)
 (h:pk2 l m π t k c x y πt πf b):∃ v,k v∧Gives l m t (.pick c x y) v:=by
 obtain⟨u,h1,h⟩:=cA h;obtain⟨v,h2,h⟩:=cA h;have key:∀ {z:Value},k z→(t=true→(b=true→u=z)∧(b=false→v=z))→∃ v,k v∧Gives l m t (.pick c x y) v:=fun {z} hk hz=>⟨z,hk,fun a w o ho E bD=>TL ho (E c (by simp[iz]) _ _ hc (hcc bD)) (fun hb=>(hz bD).1 hb▸E x (by simp[iz]) _ _ h1 (hxt bD hb)) (fun hb=>(hz bD).2 hb▸E y (by simp[iz]) _ _ h2 (hyf bD hb))⟩
 cases u with
 | bool ub=>
  cases v with
  | bool vb=>
   have hk:bif Zl false y then k (.bool (b&&ub)) else bif Zl true x then k (.bool (b||vb)) else k (.bool (bif b then ub else vb)):=h
   cases e1:Zl false y with
   | true=>
    rw[e1] at hk;have e2:=UK e1;subst e2;have hv:Value.bool false=.bool vb:=h2;exact key hk fun _=>⟨fun hb=>by rw[hb];rfl,fun hb=>by rw[hb,← hv];rfl⟩
   | false=>
    rw[e1] at hk
    cases e2:Zl true x with
    | true=>
     rw[e2] at hk;have e3:=UK e2;subst e3;have hv:Value.bool true=.bool ub:=h1;exact key hk fun _=>⟨fun hb=>by rw[hb,← hv];rfl,fun hb=>by rw[hb];rfl⟩
    | false=>
     rw[e2] at hk;exact key hk fun _=>⟨fun hb=>by rw[hb];rfl,fun hb=>by rw[hb];rfl⟩
  | _=>exact h.elim
 | _=>
  obtain⟨z,h⟩:=h;obtain⟨h3,h4⟩:=gY h;exact key h4 h3
theorem Mb(hL:jk m n)(ht:t=true↔∀ x∈π,Cond m x){op:Op}(h:pop l m π t k op):∃ v,k v∧Gives l m t op v:=by
 unfold pop at h;split at h
 ·rename_i x;obtain⟨v,h1,h2⟩:=cA h;exact⟨v,h2,fun a w o ho E bD=>cQ ho (E x (by simp[iz]) _ _ h1 (ht.1 bD))⟩
 ·rename_i x;obtain⟨v,h1,h2⟩:=cA h;exact⟨v,h2,fun a w o ho E bD=>oh ho (E x (by simp[iz]) _ _ h1 (ht.1 bD))⟩
 ·rename_i x;obtain⟨v,h1,h2⟩:=cA h;split at h2
  ·exact⟨_,h2,fun a w o ho E bD=>dJ ho (E x (by simp[iz]) _ _ h1 (ht.1 bD))⟩
  ·exact h2.elim
 ·rename_i ty x f;obtain⟨v,h1,h2⟩:=cA h;rcases oG h2 with⟨g,off,rfl,h3⟩|h3
  case inr=>exact dA h3
  obtain⟨D,hD,h4⟩:=jP h3;split at h4
  ·obtain⟨off',h5,h6⟩:=gN h4;obtain⟨fs,hu,-,hf⟩:=Ts hD;obtain⟨fd,kk,hf1,rfl,hf2⟩:=hf _ _ h5;exact⟨_,h6,fun a w o ho E bD=>kN ho (E x (by simp[iz]) _ _ h1 (ht.1 bD)) hu hf1 hf2⟩
  ·exact h4.elim
 ·rename_i ty x y;obtain⟨u,h1,h2⟩:=cA h;obtain⟨v,h3,h4⟩:=cA h2;split at h4
  ·split at h4
   ·obtain⟨D,hD,h5⟩:=jP h4;split at h5
    ·obtain⟨b,off,i,h5⟩:=h5;obtain⟨h6,h7⟩:=gY h5;obtain⟨hu,hi⟩:=DF hD;refine⟨_,h7,fun a w o ho E bD=>?_⟩;obtain⟨rfl,rfl,h8⟩:=h6 bD;exact bE ho (E x (by simp[iz]) _ _ h1 (ht.1 bD)) (E y (by simp[iz]) _ _ h3 (ht.1 bD)) h8 hu (Bt hi)
    ·exact h5.elim
   ·obtain⟨D,hD,h5⟩:=jP h4;split at h5
    ·obtain⟨i,h5⟩:=h5;obtain⟨h6,h7⟩:=gY h5;obtain⟨hu,hi,-⟩:=Lx hD;refine⟨_,h7,fun a w o ho E bD=>?_⟩;obtain⟨rfl,h8⟩:=h6 bD;exact tK ho (E x (by simp[iz]) _ _ h1 (ht.1 bD)) (E y (by simp[iz]) _ _ h3 (ht.1 bD)) h8 hu hi
    ·exact h5.elim
   ·exact dA h4
  ·exact dA h4
 ·rename_i ty x y;obtain⟨u,h1,h2⟩:=cA h;obtain⟨v,h3,h4⟩:=cA h2;split at h4
  ·split at h4
   ·obtain⟨D,hD,h5⟩:=jP h4;split at h5
    ·obtain⟨i,u,h5⟩:=h5;obtain⟨h6,h7⟩:=gY h5;refine⟨_,h7,fun a w o ho E bD=>?_⟩;obtain⟨rfl,hlt,rfl⟩:=h6 bD;exact tI ho (E x (by simp[iz]) _ _ h1 (ht.1 bD)) (E y (by simp[iz]) _ _ h3 (ht.1 bD)) hlt (Lw hD)
    ·exact h5.elim
   ·exact dA h4
  ·exact dA h4
 ·rename_i op ty x y yt;obtain⟨u,h1,h2⟩:=cA h;obtain⟨v,h3,h4⟩:=cA h2;have hx:∀ {a:Act},(∀ x'∈iz (.binOp op ty x y yt),∀ π' v,Et l m π' x' v→(∀ y∈π',Cond m y)→a.eval x'=v)→t=true→a.eval x=u∧a.eval y=v:=fun E bD=>⟨E x (by simp[iz]) _ _ h1 (ht.1 bD),E y (by simp[iz]) _ _ h3 (ht.1 bD)⟩
  clear h h2;unfold afs at h4;split at h4
  ·split at h4
   ·split at h4
    ·exact⟨_,h4,fun a w o ho E bD=>afl ho (hx E bD).1 (hx E bD).2⟩
    ·exact h4.elim
   rcases gU h4 with⟨κ,i,j,e1,rfl,h5⟩|h5
   case inr=>exact dA h5
   exact⟨_,h5,fun a w o ho E bD=>jf ho ((hx E bD).1.trans e1) (hx E bD).2⟩
  ·split at h4
   ·split at h4
    ·exact⟨_,h4,fun a w o ho E bD=>afm ho (hx E bD).1 (hx E bD).2⟩
    ·exact h4.elim
   rcases gU h4 with⟨κ,i,j,e1,rfl,h5⟩|h5
   case inr=>exact dA h5
   exact⟨_,h5,fun a w o ho E bD=>ZU ho ((hx E bD).1.trans e1) (hx E bD).2⟩
  ·rcases gU h4 with⟨κ,i,j,rfl,rfl,h5⟩|h5
   case inr=>exact dA h5
   exact⟨_,h5,fun a w o ho E bD=>JV ho (hx E bD).1 (hx E bD).2⟩
  ·rcases gU h4 with⟨κ,i,j,rfl,rfl,h5⟩|h5
   case inr=>exact dA h5
   exact⟨_,h5,fun a w o ho E bD=>JW ho (hx E bD).1 (hx E bD).2⟩
  ·rcases gU h4 with⟨κ,i,j,rfl,rfl,h5⟩|h5
   case inr=>exact dA h5
   obtain⟨p,h6,h7⟩:=zQ h5;obtain⟨h8,h9⟩:=gY h6;exact⟨_,h9,fun a w o ho E bD=>h7 (h8 bD)▸eV ho (hx E bD).1 (hx E bD).2⟩
  ·rcases gU h4 with⟨κ,i,j,rfl,rfl,h5⟩|h5
   case inr=>exact dA h5
   obtain⟨p,h6,h7⟩:=zQ h5;obtain⟨h8,h9⟩:=gY h6;exact⟨_,h9,fun a w o ho E bD=>h7 (h8 bD)▸JT ho (hx E bD).1 (hx E bD).2⟩
  ·rcases gU h4 with⟨κ,i,j,rfl,rfl,h5⟩|h5
   case inr=>exact dA h5
   obtain⟨p,h6,h7⟩:=zQ h5;obtain⟨h8,h9⟩:=gY h6;exact⟨_,h9,fun a w o ho E bD=>h7 (h8 bD)▸V6 ho (hx E bD).1 (hx E bD).2⟩
  ·rcases gU h4 with⟨κ,i,j,rfl,rfl,z,h5⟩|h5
   case inr=>exact dA h5
   obtain⟨h8,h9⟩:=gY h5;exact⟨_,h9,fun a w o ho E bD=>h8 bD▸JX ho (hx E bD).1 (hx E bD).2⟩
  ·rcases gU h4 with⟨κ,i,j,rfl,rfl,z,h5⟩|h5
   case inr=>exact dA h5
   obtain⟨h8,h9⟩:=gY h5;exact⟨_,h9,fun a w o ho E bD=>h8 bD▸V3 ho (hx E bD).1 (hx E bD).2⟩
  ·rcases gU h4 with⟨κ,i,j,rfl,rfl,z,h5⟩|h5
   case inr=>exact dA h5
   obtain⟨h8,h9⟩:=gY h5;exact⟨_,h9,fun a w o ho E bD=>h8 bD▸V2 ho (hx E bD).1 (hx E bD).2⟩
  ·rcases gU h4 with⟨κ,i,j,rfl,rfl,z,h5⟩|h5
   case inr=>exact dA h5
   obtain⟨h8,h9⟩:=gY h5;exact⟨_,h9,fun a w o ho E bD=>h8 bD▸V7 ho (hx E bD).1 (hx E bD).2⟩
  ·split at h4
   ·rcases gU h4 with⟨κ,i,j,h5,rfl,h6⟩|h5
    case inr=>exact dA h5
    exact⟨_,h6,fun a w o ho E bD=>Pj ho ((hx E bD).1.trans h5) (hx E bD).2⟩
   ·split at h4
    ·exact⟨_,h4,fun a w o ho E bD=>cO ho (hx E bD).1 (hx E bD).2⟩
    ·exact h4.elim
   ·split at h4
    ·obtain⟨b,h5⟩:=h4;obtain⟨h6,h7⟩:=gY h5;exact⟨_,h7,fun a w o ho E bD=>acj ho (hx E bD).1 (hx E bD).2 (h6 bD).1 ((h6 bD).2 w)⟩
    ·exact h4.elim
   ·split at h4
    ·cases hb:Nat.beq ty 4 with
     | false=>rw[hb] at h4;exact h4.elim
     | true=>
      rw[hb] at h4;exact⟨_,h4,fun a w o ho E bD=>aci ho (hx E bD).1 (hx E bD).2 (atr hb▸u4)⟩
    ·exact h4.elim
   ·exact xO ht h4
  ·split at h4
   ·rcases gU h4 with⟨κ,i,j,h5,rfl,h6⟩|h5
    case inr=>exact dA h5
    exact⟨_,h6,fun a w o ho E bD=>V5 ho ((hx E bD).1.trans h5) (hx E bD).2⟩
   ·split at h4
    ·exact⟨_,h4,fun a w o ho E bD=>afk ho (hx E bD).1 (hx E bD).2⟩
    ·exact h4.elim
   ·split at h4
    ·obtain⟨b,h5⟩:=h4;obtain⟨h6,h7⟩:=gY h5;exact⟨_,h7,fun a w o ho E bD=>acg ho (hx E bD).1 (hx E bD).2 (h6 bD).1 ((h6 bD).2 w)⟩
    ·exact h4.elim
   ·split at h4
    ·cases hb:Nat.beq ty 4 with
     | false=>rw[hb] at h4;exact h4.elim
     | true=>
      rw[hb] at h4;exact⟨_,h4,fun a w o ho E bD=>acf ho (hx E bD).1 (hx E bD).2 (atr hb▸u4)⟩
    ·exact h4.elim
   ·exact xO ht h4
  ·exact xO ht h4
 ·rename_i u ty x;split at h
  ·obtain⟨v,h1,h2⟩:=cA h;split at h2
   ·exact⟨_,h2,fun a w o ho E bD=>pq ho (E x (by simp[iz]) _ _ h1 (ht.1 bD))⟩
   ·exact dA h2
  ·obtain⟨v,h1,h2⟩:=cA h;split at h2
   ·obtain⟨p,h6,h7⟩:=zQ h2;obtain⟨h8,h9⟩:=gY h6;exact⟨_,h9,fun a w o ho E bD=>h7 (h8 bD)▸V4 ho (E x (by simp[iz]) _ _ h1 (ht.1 bD))⟩
   ·exact h2.elim
  ·exact xO ht h
 ·rename_i x i;obtain⟨v,h1,h2⟩:=cA h;split at h2
  ·rename_i vs;obtain⟨z,h3,h4⟩:=gN h2;exact⟨_,h4,fun a w o ho E bD=>bX ho (E x (by simp[iz]) _ _ h1 (ht.1 bD)) (by simpa using h3)⟩
  ·exact h2.elim
 ·rename_i c x y;unfold Y8 at h;split at h
  ·rename_i q;rcases Ux h with⟨e,h1,h2,h3⟩|⟨h1,h2⟩
   ·cases hs:ES e.p π with
    | false=>rw[hs] at h3;exact h3.elim
    | true=>
     rw[hs] at h3;have h3:(match e.v with|.bool b=>pk2 l m π t k (.tmp q) x y ((e.j,true)::π) ((e.j,false)::π) b|_=>False):=h3;split at h3
     ·rename_i b hv
      have qB:t=true→∀ b',b=b'→∀ z∈(e.j,b')::π,Cond m z:=fun bD b' hb z hz=>by
       rcases ati.1 hz with rfl|hz
       ·exact⟨e,h1,rfl,hL.sub h1 ht hs bD,by rw[hv,hb]⟩
       ·exact ht.1 bD z hz
      exact T3 ht (πc:=π) (.inl ⟨e,h1,h2,hv,hs⟩) (fun bD=>ht.1 bD) (fun bD hb=>qB bD _ hb) (fun bD hb=>qB bD _ hb) h3
     ·exact h3.elim
   ·split at h2
    ·rename_i b hl;exact T3 ht (πc:=π) (.inr ⟨h1,hl⟩) (fun bD=>ht.1 bD) (fun bD _=>ht.1 bD) (fun bD _=>ht.1 bD) h2
    ·exact h2.elim
  ·exact h.elim
 ·rename_i c;split at h
  ·rename_i hc;split at h
   ·rename_i x hx;split at h
    ·rename_i ty hty;obtain⟨v,h1,h2⟩:=cA h;have e1:c.args=#[x]:=Array.toList_inj.1 hx;have e2:c.argTypes=#[ty]:=Array.toList_inj.1 hty;have e3:c={ callee:=.builtin .len,args:=#[x],argTypes:=#[ty] }:=by cases c;simp only at hc e1 e2;rw[hc,e1,e2]
     split at h2
     ·obtain⟨D,hD,h5⟩:=jP h2;split at h5
      ·exact⟨_,h5,fun a w o ho E bD=>fQ (ho.trans (by rw[e3])) (E x (by simp[iz,hx,hc]) _ _ h1 (ht.1 bD)) (DF hD).1⟩
      ·exact h5.elim
     ·obtain⟨D,hD,h5⟩:=jP h2;split at h5
      ·exact⟨_,h5,fun a w o ho E bD=>B_ (ho.trans (by rw[e3])) (E x (by simp[iz,hx,hc]) _ _ h1 (ht.1 bD)) (Lw hD)⟩
      ·exact h5.elim
     ·exact h2.elim
    ·exact h.elim
   ·exact h.elim
  ·exact xO ht h
 ·exact xO ht h
end
section
variable {P:Program} {ops:Array Oper} {Q:Exit→Act→World→Prop} {rest:List Oper} {a:Act} {B:Nat} {w w' w0:World} {o:Oper} {v:Value} {d N:Nat} {l:Slots} {j s:Nat} {c t u:Bool} {bs:List Bx} {rs:List Rw}
theorem Fo{b:Bool}(hg:o.guard=some (j,b))(hj:(ops[j]?).bind (·.dst)=some s)(h:At a s (.bool c))(ht:(c == b)=t)(hr:t=true→(execOp a.eval o).run P w=.ok (.value v) w)(hd:o.dst=some d)(F:Fs a N l)(hN:Nat.blt d N=true){x:Value}(ex:v=x)
 (next:∀ a',Fs a' N ((d,gd t x)::l)→wpList P ops Q rest a' w):wpList P ops Q (o::rest) a w:=by
 subst ex
 cases t with
 | true=>
  have e:c=b:=by simpa using ht
  subst e;exact kv (gn hg hj h) (hr rfl) hd F hN next
 | false=>exact ko hd hg hj h ht F hN next
theorem ahk{b:Bool}(hg:o.guard=some (j,b))(hj:(ops[j]?).bind (·.dst)=some s)(h:At a s (.bool c))(ht:(c == b)=t){f:FuncId}{args:t=true→Array Value}(hr:∀ e,(execOp a.eval o).run P w=.ok (.enter f (args e)) w)
 (hc:∀ e,Calls P f (args e) w fun e w'=>e=.returned v∧ato w.heap.size w w') (hd:o.dst=some d) (F:Fs a N l) (hN:Nat.blt d N=true) (M:aY B w0 w bs rs)
 (next:∀ a' w',Fs a' N ((d,gd t v)::l)→aY B w0 w' bs rs→wpList P ops Q rest a' w'):wpList P ops Q (o::rest) a w:=by
 cases t with
 | true=>
  have e:c=b:=by simpa using ht
  subst e;exact kc (gn hg hj h) (hr rfl) (hc rfl) hd F hN M next
 | false=>exact ko hd hg hj h ht F hN fun a' F=>next a' w F M
theorem kt(hw:Region.wanted o (yielded ops a.tmps)=true){f:FuncId}{args:Array Value}(hr:(execOp a.eval o).run P w=.ok (.enter f args) w){R:Value→World→Prop}
 (hc:Calls P f args w fun e w'=>∃ v,e=.returned v∧R v w') (hd:o.dst=some d) (F:Fs a N l) (hN:Nat.blt d N=true)
 (next:∀ v a' w',R v w'→Fs a' N ((d,v)::l)→wpList P ops Q rest a' w'):wpList P ops Q (o::rest) a w:=
 kI hw hr hc hd F.fr (by simpa using hN) fun u a' w' h p=>next u a' w' h (F.put p)
theorem iA{x:Value}(h:∃ v,At a s v∧bZ x v w):At a s x:=by
 obtain⟨_,h,rfl⟩:=h;exact h
end
structure St (X:List Nat) (w w':World):Prop where
 os:w'.os=w.os
 tape:w'.tape=w.tape
 output:w'.output=w.output
 size:w.heap.size≤w'.heap.size
 block:∀ k,k<w.heap.size→k∉X→w'.heap[k]?=w.heap[k]?
theorem iy(X:List Nat)(w w':World)(h:ato w.heap.size w w'):St X w w':=⟨h.os,h.tape,h.output,h.size,fun k hk _=>h.block k hk⟩
theorem gB(X:List Nat)(a b c:World)(h:St X a b)(k:St X b c):St X a c:=
 ⟨k.os.trans h.os,k.tape.trans h.tape,k.output.trans h.output,ate h.size k.size,fun i hi hx=>(k.block i (atn hi h.size) hx).trans (h.block i hi hx)⟩
theorem St.grown{X:List Nat}{w w':World}{k:Nat}(h:w.grownBy w' (some k))(hk:k∈X):St X w w':=
 ⟨h.os,h.tape,h.output,h.size,fun i hi hx=>h.block i hi fun e=>hx (by rw[atl e];exact hk)⟩
theorem St.below{X:List Nat}{w w':World}(h:St X w w'){B:Nat}(hB:B≤w.heap.size)(hx:∀ k∈X,B≤k):ato B w w':=
 ⟨h.os,h.tape,h.output,h.size,fun k hk=>h.block k (atn hk hB) fun hm=>by have:=hx k hm;omega⟩
theorem St.whole{X:List Nat}{w w':World}(h:St X w w'){g:Nat}{t:TypeId}{cs:Array Value}(hw:Whole w g t cs)(hg:g∉X):Whole w' g t cs:=
 (h.block g hw.lt hg).trans hw
theorem St.own{X:List Nat}{w w':World}(h:St X w w'){base:Nat}{e:TypeId}{k n:Nat}{v:Value}{xs:List Value}(ho:w.ownsRow base e k v n xs)(hv:∀ q∈X,v.ownBlock≠some q):w'.ownsRow base e k v n xs:=by
 refine⟨ho.1,?_⟩;rcases ho.2 with h0|⟨g,cap,cur,rfl,hb,hg,h1,h2,h3,h4⟩
 ·exact .inl h0
 ·refine .inr ⟨g,cap,cur,rfl,hb,?_,h1,h2,h3,h4⟩;rw[h.block g (Array.getElem?_eq_some_iff.1 hg).1 fun hm=>hv g hm rfl];exact hg
def xK(S:World→World→Prop)(g:Good):Prop:=∀ v w w',g v w→S w w'→g v w'
def rL(S:World→World→Prop):List Good→Prop
 | []=>True
 | g::r=>xK S g∧rL S r
theorem Bp{S:World→World→Prop}:∀ {l:List Good},rL S l→∀ g∈l,xK S g
 | [],_,_,h=>by cases h
 | x::r,h,g,hg=>by
  rcases ati.1 hg with rfl|hg
  ·exact h.1
  ·exact Bp h.2 g hg
theorem rG(S:World→World→Prop)(x:Value):xK S (bZ x):=fun _ _ _ h _=>h
def oW(S:World→World→Prop)(P:Program)(ops:Array Oper)(slots:List Nat)(aH:List Good)(inv:World→Prop)(a0:Act)(N:Nat):List Oper→List Good→Prop
 | [],_=>True
 | _::_,[]=>False
 | o::r,g::gs=>(∀ (a:Act) (w:World) (Q':Exit→Act→World→Prop),Fr a N→inv w →
  (∀ k,(∃ gr,(⟨k,gr⟩:Edge)∈o.after.toList∧Region.binds .any ⟨k,gr⟩=true)→∀ s g,slots[k]?=some s→aH[k]?=some g→∃ v,At a s v∧g v w) →
  (∀ j u,slots.contains j=false→At a0 j u→At a j u) →
  (∀ v a' w',ato w.heap.size w w'→g v w'→Put a (o.dst.getD 0) v a'→Q' .normal a' w') →
  (∀ v a' w',S w w'→g v w'→Put a (o.dst.getD 0) v a'→Q' .normal a' w')→wpList P ops Q' [o] a w)∧oW S P ops slots aH inv a0 N r gs
theorem J3{S:World→World→Prop}(hS:∀ w w',ato w.heap.size w w'→S w w'){P:Program}{ops:Array Oper}{slots:List Nat}{aH:List Good}{inv:World→Prop}{a0:Act}{N:Nat}:∀ (l:List Oper) (gs:List Good),oW S P ops slots aH inv a0 N l gs→∀ (i:Nat) (o:Oper),l[i]?=some o →
 (∀ (a:Act) (w:World) (Q':Exit→Act→World→Prop),Fr a N→inv w →
  (∀ k,(∃ gr,(⟨k,gr⟩:Edge)∈o.after.toList∧Region.binds .any ⟨k,gr⟩=true)→∀ s g,slots[k]?=some s→aH[k]?=some g→∃ v,At a s v∧g v w) →
  (∀ j u,slots.contains j=false→At a0 j u→At a j u) →
  (∀ v a' w',S w w'→(∀ g:Good,gs[i]?=some g→g v w')→Put a (o.dst.getD 0) v a'→Q' .normal a' w')→wpList P ops Q' [o] a w)
 | [],_,_,i,o,h=>by simp at h
 | _::_,[],h,_,_,_=>h.elim
 | x::r,g::gs,h,0,o,ho=>by
  simp at ho;subst ho;exact fun a w Q' h1 h2 h3 h4 h5=>h.1 a w Q' h1 h2 h3 h4 (fun v a' w' hb hg hp=>h5 v a' w' (hS _ _ hb) (fun g' e=>by simp at e;rw[← e];exact hg) hp) fun v a' w' hb hg hp=>h5 v a' w' hb (fun g' e=>by simp at e;rw[← e];exact hg) hp
 | x::r,g::gs,h,i+1,o,ho=>by
  have:=J3 hS r gs h.2 i o (by simpa using ho);simpa using this
section
variable {P:Program} {Q:Exit→Act→World→Prop}
theorem yS(S:World→World→Prop)(hS:∀ w w',ato w.heap.size w w'→S w w'){id:Nat}{l:List Oper}{a:Act}{w:World}{N:Nat}(k:Nat)(slots:List Nat)(aH:List Good)(inv:World→Prop)
 (hm:P.follows .mixedOrders=true) (eS:ordered 0 l=true) (htail:vY k l=true) (gG:(l.take k).map (·.dst)=slots.map some) (hnd:slots.Nodup) (_:slots.all (fun s=>decide (s<N))=true) (_:aH.length=slots.length)
 (hf:Fr a N) (h0:inv w.drew) (hinv:∀ w w',inv w→S w w'→inv w') (hst:rL S aH)
 (hstep:oW S P l.toArray slots aH inv a N (l.take k) aH)
 (hend:∀ a' w',sG slots aH inv a N (fun _=>true) a' w'→dD P l.toArray (Q .normal) (l.drop k) a' w'):(Code.region id l.toArray true).wp P Q a w:=by
 have MX:=Bp hst
 have hk:slots.length=(l.take k).length:=by
  have:=congrArg List.length gG;simpa using this.symm
 have hsl:∀ (i:Nat) (o:Oper),i<k→l[i]?=some o→∃ s,slots[i]?=some s∧o.dst=some s:=fun i o hi ho=>by
  have h:=congrArg (fun x:List (Option Tmp)=>x[i]?) gG;simp only[atm,List.getElem?_take,if_pos hi,ho,Option.map_some] at h
  cases hs:slots[i]? with
  | none=>rw[hs] at h;cases h
  | some s=>rw[hs] at h;exact⟨s,rfl,atl h⟩
 refine fV hm eS (fun L b u=>(∀ j o,l[j]?=some o→L j=true→∀ e∈o.after.toList,Region.binds .any e=true→L e.on=true) ∧
  ((∀ j,k≤j→j<l.length→L j=false)→sG slots aH inv a N L b u) ∧
  (∀ j,k≤j→j<l.length→L j=true→(∀ j',j<j'→j'<l.length→L j'=false)→dD P l.toArray (Q .normal) (l.drop (j+1)) b u)) ?_ ?_ ?_
 ·exact⟨fun _ _ _ h=>(by cases h),fun _=>⟨hf,h0,(fun i h=>(by cases h)),fun _ _ _ h=>h⟩,fun _ _ _ h=>(by cases h)⟩
 ·have key:∀ (i:Nat) (o:Oper),l[i]?=some o→∀ (L:Nat→Bool) (b:Act) (u:World) (Q':Exit→Act→World→Prop),
   ((∀ j o,l[j]?=some o→L j=true→∀ e∈o.after.toList,Region.binds .any e=true→L e.on=true)∧((∀ j,k≤j→j<l.length→L j=false)→sG slots aH inv a N L b u) ∧
     (∀ j,k≤j→j<l.length→L j=true→(∀ j',j<j'→j'<l.length→L j'=false)→dD P l.toArray (Q .normal) (l.drop (j+1)) b u))→L i=false →
   (∀ e∈o.after.toList,Region.binds .any e=true→L e.on=true) →
   (∀ b u,((∀ j o,l[j]?=some o→upd L i j=true→∀ e∈o.after.toList,Region.binds .any e=true→upd L i e.on=true)∧((∀ j,k≤j→j<l.length→upd L i j=false)→sG slots aH inv a N (upd L i) b u) ∧
    (∀ j,k≤j→j<l.length→upd L i j=true→(∀ j',j<j'→j'<l.length→upd L i j'=false)→dD P l.toArray (Q .normal) (l.drop (j+1)) b u))→Q' .normal b u) →
   wpList P l.toArray Q' [o] b u:=by
   intro i o ho L b u Q' ⟨hcl,hpl,X_⟩ hL hA hK;have hil:=(atj.1 ho).1;have up:∀ j,L j=true→upd L i j=true:=fun j hj=>by simp[upd,hj]
   have hcl':∀ j o,l[j]?=some o→upd L i j=true→∀ e∈o.after.toList,Region.binds .any e=true→upd L i e.on=true:=by
    intro j o' hj uN e he hb;by_cases hji:j=i
    ·subst hji;obtain rfl:o=o':=atl (ho.symm.trans hj);exact up _ (hA e he hb)
    ·have hne:(j == i)=false:=by simpa using hji
     exact up _ (hcl j o' hj (by simpa[upd,hne] using uN) e he hb)
   have hno:∀ j,k≤j→j<l.length→i<j→L j=false:=fun j hkj hj hij=>by
    cases hx:L j with
    | false=>rfl
    | true=>
     obtain⟨oj,hoj⟩:∃ oj,l[j]?=some oj:=⟨_,atd hj⟩;have:=mS eS htail L hcl hoj hkj (hcl j oj hoj hx) i hij;rw[hL] at this;cases this
   by_cases hik:i<k
   ·have hD:=hpl fun j hkj hj=>hno j hkj hj (by omega)
    obtain⟨s,hs,hd⟩:=hsl i o hik ho;refine J3 hS (l.take k) aH hstep i o (by rw[List.getElem?_take,if_pos hik];exact ho) b u Q' hD.fr hD.inv (fun j ⟨gr,hj,hb⟩ s g hs hg=>hD.done j (hA _ hj hb) s g hs hg) hD.rest ?_;intro v b' u' hb hg hp;rw[hd] at hp;refine hK b' u' ⟨hcl',fun _=>⟨hp.fr hD.fr,hinv _ _ hD.inv hb,?_,?_⟩,?_⟩
    ·intro j hj s' g' hs' hg';by_cases hji:j=i
     ·subst hji;obtain rfl:s=s':=atl (hs.symm.trans hs');exact⟨v,hp.now,hg g' hg'⟩
     ·have hne:s'≠s:=fun e=>hji (lI hnd (e▸hs') hs)
      have uN:L j=true:=by
       have:(j == i)=false:=by simpa using hji
       simpa[upd,this] using hj
      obtain⟨x,hx,hgx⟩:=hD.done j uN s' g' hs' hg';exact⟨x,hp.old (by simpa using hne) hx,MX g' (atk hg') x u u' hgx hb⟩
    ·intro j x hj hx
     have hne:j≠s:=fun e=>by
      have hm:j∈slots:=e▸atk hs;have:slots.contains j=true:=by simpa using hm
      rw[this] at hj;cases hj
     exact hp.old (by simpa using hne) (hD.rest j x hj hx)
    ·intro j hkj hj uN;have hne:(j == i)=false:=by simp;omega
     have:=hno j hkj hj (by omega);simp[upd,hne,this] at uN
   ·have hall:=mS eS htail L hcl ho (by omega) hA
    have hT:dD P l.toArray (Q .normal) (l.drop i) b u:=by
     by_cases hik':i=k
     ·subst hik'
      have hD:=hpl fun j hkj hj=>by
       by_cases hji:j=i
       ·rw[hji];exact hL
       ·exact hno j hkj hj (by omega)
      refine hend b u ⟨hD.fr,hD.inv,fun j _ s g hs hg=>hD.done j (hall j ?_) s g hs hg,hD.rest⟩;have:=(atj.1 hs).1;rw[hk,atp] at this;omega
     ·have:=X_ (i-1) (by omega) (by omega) (hall (i-1) (by omega)) fun j' h1 h2=>by
       by_cases hji:j'=i
       ·rw[hji];exact hL
       ·exact hno j' (by omega) h2 (by omega)
      rwa [show i-1+1=i by omega] at this
    rw[List.drop_eq_getElem_cons hil] at hT
    have ho':l[i]=o:=by
     have:=atd hil;rw[ho] at this;exact(atl this).symm
    rw[ho'] at hT;refine hT Q' fun b' u' hT'=>hK b' u' ⟨hcl',fun h=>?_,fun j hkj hj uN hlast=>?_⟩
    ·have:=h i (by omega) hil;simp[upd] at this
    ·by_cases hji:j=i
     ·subst hji;exact hT'
     ·have hne:(j == i)=false:=by simpa using hji
      by_cases hlt:j<i
      ·have:=hlast i hlt hil;simp[upd] at this
      ·have:=hno j hkj hj (by omega);simp[upd,hne,this] at uN
  have all:∀ (r:List Oper) (m:Nat),(∀ i o,r[i]?=some o→l[m+i]?=some o)→jj P l.toArray (fun L b u=>(∀ j o,l[j]?=some o→L j=true→∀ e∈o.after.toList,Region.binds .any e=true→L e.on=true) ∧
   ((∀ j,k≤j→j<l.length→L j=false)→sG slots aH inv a N L b u) ∧
   (∀ j,k≤j→j<l.length→L j=true→(∀ j',j<j'→j'<l.length→L j'=false)→dD P l.toArray (Q .normal) (l.drop (j+1)) b u)) m r:=by
   intro r
   induction r with
   | nil=>intro m _;trivial
   | cons o r ih=>
    intro m h;refine⟨fun L b u Q' hI hL hA hK=>key m o (h 0 o rfl) L b u Q' hI hL hA hK,ih (m+1) fun i o' ho'=>?_⟩;have:=h (i+1) o' (by simpa using ho')
    rwa [show m+1+i=m+(i+1) by omega]
  exact all l 0 fun i o ho=>by simpa using ho
 ·intro L b u ⟨hcl,hpl,X_⟩ hall;by_cases hkl:k<l.length
  ·have:=X_ (l.length-1) (by omega) (by omega) (hall _ (by omega)) fun j' h1 h2=>by omega
   rw[show l.length-1+1=l.length by omega,List.drop_length] at this;exact this
  ·have hD:=hpl fun j h1 h2=>by omega
   have:=hend b u ⟨hD.fr,hD.inv,fun j _ s g hs hg=>hD.done j (hall j ?_) s g hs hg,hD.rest⟩
   ·rw[List.drop_of_length_le (by omega)] at this;exact this
   ·have:=(atj.1 hs).1;rw[hk,atp] at this;omega
theorem rdS(S:World→World→Prop)(hS:∀ w w',ato w.heap.size w w'→S w w')(hT:∀ a b c,S a b→S b c→S a c){w:World}{a:Act}{N:Nat}{id:Nat}{L:List Oper}{Q:Exit→Act→World→Prop}{l:Slots}(k:Nat)(slots:List Nat)(aH:List Good)
 (hm:P.follows .mixedOrders=true) (eS:ordered 0 L=true) (htail:vY k L=true) (gG:(L.take k).map (·.dst)=slots.map some) (hnd:slots.Nodup) (hbd:slots.all (fun s=>decide (s<N))=true) (hlen:aH.length=slots.length)
 (F:Fs a N l) (hst:rL S aH) (hstep:oW S P L.toArray slots aH (S w) a N (L.take k) aH)
 (hend:∀ a' w',S w w'→Fs a' N (l.filter fun p=>!slots.contains p.1)→(∀ (i s:Nat) (g:Good),slots[i]?=some s→aH[i]?=some g→∃ v,At a' s v∧g v w')→dD P L.toArray (Q .normal) (L.drop k) a' w'):(Code.region id L.toArray true).wp P Q a w:=by
 refine yS S hS k slots aH (S w) hm eS htail gG hnd hbd hlen F.fr (hS _ _ (Below.refl _ _).drew) (fun _ _ h hb=>hT _ _ _ h hb) hst hstep ?_;intro a' w' D;refine hend a' w' D.inv ⟨D.fr,?_⟩ fun i s g hs hg=>D.done i rfl s g hs hg
 intro q v hq
 have key:∀ l:Slots,look q (l.filter fun p=>!slots.contains p.1)=some v→slots.contains q=false∧look q l=some v:=by
  intro l
  induction l with
  | nil=>intro h;exact absurd h (by simp[look])
  | cons p r ih=>
   intro h;obtain⟨s,u⟩:=p;rw[List.filter_cons] at h;rw[bI];split at h
   ·rename_i hc;rw[bI] at h
    cases e:q == s with
    | true=>
     rw[e] at h;have e':q=s:=by simpa using e
     subst e';exact⟨by simpa using hc,h⟩
    | false=>
     rw[e] at h;exact ih h
   ·rename_i hc;obtain⟨h1,h2⟩:=ih h
    cases e:q == s with
    | true=>
     have e':q=s:=by simpa using e
     subst e';rw[h1] at hc;simp at hc
    | false=>exact⟨h1,h2⟩
 obtain⟨h1,h2⟩:=key l hq;exact D.rest q v h1 (F.at_ q v h2)
end
end Go.Proofs.YtdcofoaihmongaaGreat
namespace Go.Proofs.YtdcofoaihmongaaGreat
open Go Go.ChangeMaps Go.MapKept
open Go.Maps (Keyed)
def eA(w:World)(P:Program)(k:TypeId)(b r:Nat)(D left:List (Value×Value)):Prop:=
 ∃ es clock since seen c0,w.heap[b]?=some (.map es clock)∧Stamped es clock∧(es.toList.map fun e=>(e.key,e.val)).Perm D∧(∀ p∈D,∃ l,keyOf P k p.1=some l) ∧
  w.heap[r]?=some (.mapIter (some b) since seen c0)∧(∀ x∈es.toList,x.born<since)∧since≤c0∧since≤clock∧((leftOf es seen).toList.map fun e=>(e.key,e.val)).Perm left
variable {P:Program} {k:TypeId} {w:World} {b r:Nat} {D left:List (Value×Value)}
theorem eA.map(h:eA w P k b r D left):aX w P k b D:=by
 obtain⟨es,clock,_,_,_,h1,h2,h3,h4,_⟩:=h;exact⟨es,clock,h1,h2,h3,h4⟩
theorem eA.ne(h:eA w P k b r D left):r≠b:=by
 obtain⟨es,clock,since,seen,c0,hb,_,_,_,hr,_⟩:=h;intro e;rw[e,hb] at hr;cases hr
theorem eA.lt(h:eA w P k b r D left):r<w.heap.size:=by
 obtain⟨es,clock,since,seen,c0,_,_,_,_,hr,_⟩:=h;exact(Array.getElem?_eq_some_iff.1 hr).1
theorem eA.kept{w':World}(h:eA w P k b r D left)(hb:w'.heap[b]?=w.heap[b]?)(hr:w'.heap[r]?=w.heap[r]?):eA w' P k b r D left:=by
 obtain⟨es,clock,since,seen,c0,h1,h2,h3,h4,h5,h6⟩:=h;exact⟨es,clock,since,seen,c0,hb.trans h1,h2,h3,h4,hr.trans h5,h6⟩
variable {t e:TypeId}
theorem aX.range(h:aX w P k b D)(ht:P.underlying t=some (.map k e)):
 ∃ w',(Instr.range t (.map (some b))).run P w=.ok (.pointer (some ⟨w.heap.size,0,none⟩)) w'∧eA w' P k b w.heap.size D D∧w.grownBy w' none∧w'.heap.size=w.heap.size+1:=by
 have hlt:=h.lt;obtain⟨es,clock,hb,hs,hp,hk⟩:=h;refine⟨_,run_range_map w t k e b es clock ht hb,⟨es,clock,clock,#[],clock,((MapKept.heap_alloc w _).2 b hlt).trans hb,hs,hp,hk,(MapKept.heap_alloc w _).1,hs.1,Nat.le_refl _,Nat.le_refl _,?_⟩,World.grownBy_alloc w _ none,by simp⟩;have:leftOf es #[]=es:=by simp[leftOf]
 rw[this];exact hp
theorem yc:∀ (l:List MapEntry) (p:MapEntry→Bool) (e:MapEntry),(l.map (·.born)).Nodup→e∈l→p e=true→(l.filter p).Perm (e::l.filter fun x=>p x&&!(x.born == e.born))
 | [],_,_,_,h,_=>by cases h
 | x::l,p,e,hn,he,hp=>by
  simp only[List.map_cons,List.nodup_cons] at hn;rcases ati.1 he with rfl|he'
  ·have h2:l.filter p=l.filter fun x=>p x&&!(x.born == e.born):=by
    refine List.filter_congr (fun y hy=>?_)
    have:(y.born == e.born)=false:=by
     simp only[beq_eq_false_iff_ne];intro hh;exact hn.1 (atq.2 ⟨y,hy,hh⟩)
    simp[this]
   simp[hp,← h2]
  ·have hx:(x.born == e.born)=false:=by
    simp only[beq_eq_false_iff_ne];intro hh;exact hn.1 (atq.2 ⟨e,he',hh.symm⟩)
   have ih:=yc l p e hn.2 he' hp;simp only[List.filter_cons,hx,Bool.not_false,Bool.and_true];split
   ·exact(ih.cons x).trans (List.Perm.swap _ _ _)
   ·exact ih
theorem eA.next(h:eA w P k b r D left)(ty:TypeId):
 (left=[]∧(Instr.next (.pointer (some ⟨r,0,none⟩)) false ty).run P w=.ok (.tuple #[.bool false]) w) ∨
 ∃ key val left' w',left.Perm ((key,val)::left')∧(Instr.next (.pointer (some ⟨r,0,none⟩)) false ty).run P w=.ok (.tuple #[.bool true,key,val]) w' ∧
  eA w' P k b r D left'∧w.grownBy w' (some r)∧w'.heap.size=w.heap.size∧(Instr.entry (.pointer (some ⟨r,0,none⟩))).run P w'=.ok (.tuple #[key,val]) w':=by
 have hne:=h.ne;obtain⟨es,clock,since,seen,c0,hb,hs,hp,hk,hr,hold,hsc,hsk,hl⟩:=h;have hst:=(stamped_iff es clock).1 hs;rcases run_next_at (P:=P) w ty r b since c0 seen es clock hr hb hold hsc with⟨h0,hrun⟩|⟨e,he,w1,hal,hrun⟩
 ·refine Or.inl ⟨?_,hrun⟩;have:left.length=0:=by rw[← hl.length_eq];simpa using h0
  exact List.eq_nil_of_length_eq_zero this
 ·obtain⟨hem,hes⟩:=mem_left he;have hr1:w1.heap[r]?=some (.mapIter (some b) since seen c0):=by rcases hal with rfl|rfl<;>exact hr
  have hb1:w1.heap[b]?=some (.map es clock):=by rcases hal with rfl|rfl<;>exact hb
  have hset:=heap_set (o':=.mapIter (some b) since (seen.push e.born) clock) hr1;have hb':(setBlock w1 r (.mapIter (some b) since (seen.push e.born) clock)).heap[b]?=some (.map es clock):=(hset.2 b (fun e1=>hne e1.symm)).trans hb1
  refine Or.inr ⟨e.key,e.val,(leftOf es (seen.push e.born)).toList.map fun e=>(e.key,e.val),_,?_,hrun,⟨es,clock,since,seen.push e.born,clock,hb',hs,hp,hk,hset.1,hold,hsk,hsk,List.Perm.refl _⟩,?_,?_,
   run_entry_at _ r b since seen es clock e hset.1 hb' hem hst.2.1⟩
  ·refine hl.symm.trans ?_;have h1:=yc es.toList (fun e=>!seen.contains e.born) e hst.2.1 hem (by simp only[hes];rfl)
   have h2:(leftOf es (seen.push e.born)).toList=es.toList.filter fun x=>!seen.contains x.born&&!(x.born == e.born):=by
    simp only[leftOf,Array.toList_filter];refine List.filter_congr (fun x _=>?_);rw[contains_push];cases seen.contains x.born<;>cases(x.born == e.born)<;>rfl
   rw[h2];have h3:(leftOf es seen).toList=es.toList.filter fun e=>!seen.contains e.born:=by simp only[leftOf,Array.toList_filter]
   rw[h3];exact h1.map (fun e=>(e.key,e.val))
  ·rcases hal with rfl|rfl<;>exact⟨rfl,rfl,rfl,by simp[setBlock],fun i _ hi=>hset.2 i (fun e1=>hi (by rw[e1]))⟩
  ·rcases hal with rfl|rfl<;>simp[setBlock]
end Go.Proofs.YtdcofoaihmongaaGreat
namespace Go.Proofs.YtdcofoaihmongaaGreat
open Go Go.WideMaps
section
variable {P:Program} (w:World) {ops:Array Oper} {rest:List Oper} {o:Oper} {a:Act} {Q:Exit→Act→World→Prop}
theorem Lm(hg:o.guard=none)(m x v:Operand)(t:TypeId)(hop:o.op=Op.mapUpdate t m x v)(mv key val:Value)(hm:a.eval m=mv)(hx:a.eval x=key)(hv:a.eval v=val)
 (Post:World→Prop) (hrun:∃ w',(Instr.mapUpdate t mv key val).run P w=.ok () w'∧Post w')
 (hK:∀ w',Post w'→wpList P ops Q rest (a.put o.dst undef) w'):wpList P ops Q (o::rest) a w:=by
 refine wpList_plain hg fun K' hK'=>?_
 obtain⟨w',hr,hp⟩:=hrun;unfold Oper.wp;simp[execOp,hop,hm,hx,hv,hr,Result.andThen];exact hK' _ _ (hK w' hp)
theorem rX(hg:o.guard=none)(m x:Operand)(t k:TypeId)(hop:o.op=Op.call { callee:=Callee.builtin Builtin.delete,args:=#[m,x],argTypes:=#[t,k] })(mv key:Value)(hm:a.eval m=mv)(hx:a.eval x=key)
 (Post:World→Prop) (hrun:∃ w',(Builtin.delete_ #[t,k] o.type #[mv,key]).run P w=.ok (.tuple #[]) w'∧Post w')
 (hK:∀ w',Post w'→wpList P ops Q rest (a.put o.dst (.tuple #[])) w'):wpList P ops Q (o::rest) a w:=by
 refine wpList_plain hg fun K' hK'=>?_
 obtain⟨w',hr,hp⟩:=hrun;unfold Oper.wp;simp[execOp,hop,resolve,invoke,builtin,hm,hx,hr,Result.andThen];exact hK' _ _ (hK w' hp)
end
theorem aX.len{P:Program}{k:TypeId}{w:World}{b:Nat}{D:List (Value×Value)}{t e:TypeId}(h:aX w P k b D)(ht:P.underlying t=some (.map k e))(ty:TypeId):
 (Builtin.len_ #[t] ty #[.map (some b)]).run P w=.ok (.int .i64 D.length) w:=by
 obtain⟨es,clock,hb,hl⟩:=h.size;simp[Builtin.len_,run_underlying ht,MapKept.run_getObj_map hb,goInt,Result.andThen,hl]
end Go.Proofs.YtdcofoaihmongaaGreat
namespace Go.Proofs.YtdcofoaihmongaaGreat
open Go.ChangeAt Go.ChangeShapes Go.RowKit Go.WideShapes
def mV(P:Program)(p:TypeId→List Value→Prop):List TypeId→List Value→Prop
 | [],cs=>cs=[]
 | t::ts,cs=>∃ a b,cs=a++b∧a.length=P.cellsOf t∧p t a∧mV P p ts b
def Rd(P:Program)(w:World):Nat→TypeId→List Value→Prop
 | 0,_,_=>False
 | f+1,t,cs=>
  match P.underlying t with
  | some .bool=>∃ b,cs=[.bool b]
  | some (.int k)=>∃ n,cs=[.int k n]∧(Lit.int k n).wf=true
  | some .string=>∃ s,cs=[.string s]∧s.size≤reachBytes
  | some (.slice e)=>∃ v,cs=[v]∧∃ es:List (List Value),SliceAt w v (P.cellsOf e) es.length es.flatten∧(∀ x∈es,x.length=P.cellsOf e∧Rd P w f e x)∧es.length*P.bytesOf e≤reachBytes
  | some (.struct fs)=>mV P (Rd P w f) (fs.toList.map (·.type)) cs
  | some (.array n e)=>∃ es:List (List Value),cs=es.flatten∧es.length=n∧∀ x∈es,x.length=P.cellsOf e∧Rd P w f e x
  | _=>∃ v,cs=[v]∧v.oneCell'=true
theorem mV.mono{P:Program}{p q:TypeId→List Value→Prop}(h:∀ t cs,p t cs→q t cs):∀ {ts:List TypeId} {cs:List Value},mV P p ts cs→mV P q ts cs
 | [],_,hp=>hp
 | _::_,_,⟨a,b,e,hl,ha,hb⟩=>⟨a,b,e,hl,h _ _ ha,mV.mono h hb⟩
theorem mV.one{P:Program}{p:TypeId→List Value→Prop}(h:∀ t cs,p t cs→∀ u∈cs,u.oneCell'=true):∀ {ts:List TypeId} {cs:List Value},mV P p ts cs→∀ u∈cs,u.oneCell'=true
 | [],_,hp,u,hu=>by rw[show _=[] from hp] at hu;cases hu
 | _::_,_,⟨a,b,e,hl,ha,hb⟩,u,hu=>by
  subst e;rcases List.mem_append.1 hu with h1|h1
  ·exact h _ _ ha u h1
  ·exact mV.one h hb u h1
theorem Rd.one{P:Program}{w:World}:∀ {f:Nat} {t:TypeId} {cs:List Value},Rd P w f t cs→∀ u∈cs,u.oneCell'=true
 | 0,_,_,h,_,_=>h.elim
 | f+1,t,cs,h,u,hu=>by
  unfold Rd at h;split at h
  ·obtain⟨b,rfl⟩:=h;simp at hu;subst hu;rfl
  ·obtain⟨b,rfl,_⟩:=h;simp at hu;subst hu;rfl
  ·obtain⟨b,rfl,_⟩:=h;simp at hu;subst hu;rfl
  ·obtain⟨v,rfl,es,hs,_⟩:=h;simp at hu;subst hu;rcases hs.2.2.2 with⟨rfl,_⟩|⟨a,c,rfl,_⟩<;>rfl
  ·exact mV.one (fun t cs h=>Rd.one h) h u hu
  ·obtain⟨es,rfl,_,hx⟩:=h;obtain⟨x,hx1,hx2⟩:=List.mem_flatten.1 hu;exact Rd.one (hx x hx1).2 u hx2
  ·obtain⟨v,rfl,hv⟩:=h;simp at hu;subst hu;exact hv
theorem Rd.keep{P:Program}{w w':World}(hb:Below w.heap.size w w'):∀ {f:Nat} {t:TypeId} {cs:List Value},Rd P w f t cs→Rd P w' f t cs
 | 0,_,_,h=>h
 | f+1,t,cs,h=>by
  unfold Rd at h ⊢;split at h
  ·exact h
  ·exact h
  ·exact h
  ·obtain⟨v,rfl,es,hs,hx,hr⟩:=h;exact⟨v,rfl,es,hs.keep hb,fun x hx1=>⟨(hx x hx1).1,Rd.keep hb (hx x hx1).2⟩,hr⟩
  ·exact mV.mono (fun t cs h=>Rd.keep hb h) h
  ·obtain⟨es,rfl,hn,hx⟩:=h;exact⟨es,rfl,hn,fun x hx1=>⟨(hx x hx1).1,Rd.keep hb (hx x hx1).2⟩⟩
  ·exact h
section
variable {P:Program} {w:World} {f:Nat} {t:TypeId} {cs:List Value}
theorem Rd.bool(h:Rd P w f t cs)(hu:P.underlying t=some .bool):∃ b,cs=[.bool b]:=by
 cases f with
 | zero=>exact h.elim
 | succ f=>unfold Rd at h;rw[hu] at h;exact h
theorem Rd.int{k:IntKind}(h:Rd P w f t cs)(hu:P.underlying t=some (.int k)):∃ n,cs=[.int k n]∧(Lit.int k n).wf=true:=by
 cases f with
 | zero=>exact h.elim
 | succ f=>unfold Rd at h;rw[hu] at h;exact h
theorem Rd.string(h:Rd P w f t cs)(hu:P.underlying t=some .string):∃ s,cs=[.string s]∧s.size≤reachBytes:=by
 cases f with
 | zero=>exact h.elim
 | succ f=>unfold Rd at h;rw[hu] at h;exact h
theorem Rd.slice{e:TypeId}(h:Rd P w f t cs)(hu:P.underlying t=some (.slice e)):
 ∃ f' v,f=f'+1∧cs=[v]∧∃ es:List (List Value),SliceAt w v (P.cellsOf e) es.length es.flatten∧(∀ x∈es,x.length=P.cellsOf e∧Rd P w f' e x)∧es.length*P.bytesOf e≤reachBytes:=by
 cases f with
 | zero=>exact h.elim
 | succ f=>unfold Rd at h;rw[hu] at h;obtain⟨v,hv,es,hes⟩:=h;exact⟨f,v,rfl,hv,es,hes⟩
theorem Rd.struct{fs:Array Field}(h:Rd P w f t cs)(hu:P.underlying t=some (.struct fs)):∃ f',f=f'+1∧mV P (Rd P w f') (fs.toList.map (·.type)) cs:=by
 cases f with
 | zero=>exact h.elim
 | succ f=>unfold Rd at h;rw[hu] at h;exact⟨f,rfl,h⟩
theorem Rd.array{n:Nat}{e:TypeId}(h:Rd P w f t cs)(hu:P.underlying t=some (.array n e)):∃ f',f=f'+1∧∃ es:List (List Value),cs=es.flatten∧es.length=n∧∀ x∈es,x.length=P.cellsOf e∧Rd P w f' e x:=by
 cases f with
 | zero=>exact h.elim
 | succ f=>unfold Rd at h;rw[hu] at h;exact⟨f,rfl,h⟩
theorem SliceAt.shape{v:Value}{k n:Nat}(h:SliceAt w v k n cs):∃ a c,v=.slice a n c:=by
 rcases h.2.2.2 with⟨rfl,rfl⟩|⟨a,c,rfl,_⟩
 ·exact⟨_,_,rfl⟩
 ·exact⟨_,_,rfl⟩
end
section
variable {H:Type} {enc:TypeId×Value→H} {P:Program} {w:World} {spare:Nat→Bool}
theorem En{a:Addr}{n:Nat}{cs:List Value}(h:w.cells? 0 a n=some cs):cs.length=n∧∀ j u,cs[j]?=some u→w.cell? (a.add j)=some u:=by
 obtain⟨_,hl,hc⟩:=World.cells?_some h;refine⟨hl,fun j u hu=>?_⟩;have hj:=(atj.1 hu).1;rw[hc j (by omega),hu]
theorem Nj{es:List (List Value)}{k:Nat}(hk:∀ x∈es,x.length=k)(j:Nat)(u:Value)(h:es.flatten[j]?=some u):∃ i x r,es[i]?=some x∧r<k∧j=i*k+r∧x[r]?=some u:=by
 induction es generalizing j with
 | nil=>simp at h
 | cons x es ih=>
  have hx:=hk x (by simp);rw[List.flatten_cons] at h;by_cases hj:j<k
  ·rw[atb (by omega)] at h;exact⟨0,x,j,rfl,hj,by omega,h⟩
  ·rw[atc (by omega)] at h;obtain⟨i,y,r,h1,h2,h3,h4⟩:=ih (fun y hy=>hk y (by simp[hy])) _ h;exact⟨i+1,y,r,by simpa using h1,h2,by rw[Nat.add_mul];omega,h4⟩
theorem add_add(a:Addr)(i j:Nat):(a.add i).add j=a.add (i+j):=by
 unfold Addr.add;by_cases hi:i=0<;>by_cases hj:j=0<;>simp[hi,hj,Nat.add_assoc]
theorem xU{e:TypeId}{l:List (DataW H)}{d:DataW H}(hd:d∈l){n:Nat}(hn:n∈d.weights P e):n∈DataW.weightsAll P e l:=by
 induction l with
 | nil=>cases hd
 | cons x l ih=>
  simp only[DataW.weightsAll,List.mem_append];rcases ati.1 hd with rfl|h
  ·exact .inl hn
  ·exact .inr (ih h)
theorem IU{p:TypeId→List Value→Prop}:∀ (ts:List TypeId) (cs:List Value),cs.length=(ts.map fun t=>P.cellsOf t).sum →
 (∀ (j:Nat) (t:TypeId),ts[j]?=some t→p t ((cs.drop ((ts.take j).map fun t=>P.cellsOf t).sum).take (P.cellsOf t)))→mV P p ts cs
 | [],cs,hl,_=>by simpa[mV] using hl
 | t::ts,cs,hl,h=>by
  simp only[List.map_cons,List.sum_cons] at hl;refine⟨cs.take (P.cellsOf t),cs.drop (P.cellsOf t),(List.take_append_drop _ _).symm,by rw[atp];omega,by simpa using h 0 t rfl,IU ts _ (by rw[List.length_drop];omega) fun j u hu=>?_⟩;have:=h (j+1) u (by simpa using hu);rw[List.drop_drop];simpa[List.take_succ_cons] using this
theorem Rd.zK{held:Bool}(hl:laidOutB P=true):∀ (f:Nat) (t:TypeId) (cs:List Value) (d:DataW H) (ps:List MemPlace),isVar P t=true →
 DataW.trod enc P w 0 (fun _=>true) held f t cs=some (d,ps)→(∀ n∈d.weights P t,n≤reachBytes)→Rd P w f t cs
 | 0,t,cs,d,ps,_,h,_=>by simp[DataW.trod] at h
 | f+1,t,cs,d,ps,hv,h,hw=>by
  have hlt:t<P.types.size:=by
   unfold isVar at hv;simp only[ata,decide_eq_true_eq] at hv;exact hv.1
  have hrow:=rowFine_of_laidOut hl hlt;unfold rowFine at hrow;rw[hv] at hrow;simp only[Bool.not_true,Bool.false_or] at hrow;unfold Rd;split
  ·rename_i hu;obtain⟨b,rfl,_⟩:=DataW.trod_bool hu h;exact⟨b,rfl⟩
  ·rename_i k hu;obtain⟨n,rfl,_,hwf⟩:=DataW.trod_int hu h;exact⟨n,rfl,hwf⟩
  ·rename_i hu;obtain⟨s,rfl,hx,_⟩:=DataW.trod_string hu h;refine⟨s,rfl,?_⟩;simp only[Prod.mk.injEq] at hx;obtain⟨rfl,_⟩:=hx;have:=hw s.data.toList.length (by simp[DataW.weights])
   rwa [Array.length_toList] at this
  ·rename_i e hu;rw[hu] at hrow;simp only[ata,beq_iff_eq] at hrow;rcases DataW.trod_slice hu h with⟨rfl,_⟩|⟨a,len,cap,elems,rest,n,hf,rfl,hx,_,hlc,hcm,hel,hcell,hrest,_⟩
   ·exact⟨_,rfl,[],SliceAt.nil _ _,by simp,by simp⟩
   ·obtain rfl:f=n:=by omega
    simp only[Prod.mk.injEq] at hx;obtain⟨rfl,_⟩:=hx;have hw1:=hw ((elems.length+rest.length)*P.bytesOf e) (by rw[DataW.weights,hu];simp)
    have hw2:∀ x∈elems,∀ n∈x.1.weights P e,n≤reachBytes:=fun x hx n hn=>hw n (by
     rw[DataW.weights,hu];exact atu _ (List.mem_append_left _ (xU (List.mem_map_of_mem hx) hn)))
    have each:∀ i,i<len→∃ es x,w.cells? 0 (a.add (i*P.cellsOf e)) (P.cellsOf e)=some es∧elems[i]?=some x∧DataW.trod enc P w 0 (fun _=>true) held f e es=some x:=fun i hi=>by
     have hi':i<elems.length:=by omega
     have:=hcell i hi;rw[atd hi'] at this;obtain⟨es,h1,h2⟩:=Option.bind_eq_some_iff.1 this;exact⟨es,_,h1,atd hi',h2⟩
    let es:List (List Value):=(List.range len).map fun i=>(w.cells? 0 (a.add (i*P.cellsOf e)) (P.cellsOf e)).getD []
    have hes:∀ i x,es[i]?=some x→i<len∧w.cells? 0 (a.add (i*P.cellsOf e)) (P.cellsOf e)=some x:=fun i x hx=>by
     have hi:i<len:=by have:=(atj.1 hx).1;simpa[es] using this
     obtain⟨y,_,h1,_⟩:=each i hi;simp only[es,atm,List.getElem?_range hi,Option.map_some,h1,Option.getD_some,Option.some.injEq] at hx;exact⟨hi,by rw[h1,hx]⟩
    have hlen:es.length=len:=by simp[es]
    have hk:∀ x∈es,x.length=P.cellsOf e:=fun x hx=>by
     obtain⟨i,hi⟩:=List.getElem?_of_mem hx;exact(En (hes i x hi).2).1
    have hrd:∀ x∈es,Rd P w f e x:=fun x hx=>by
     obtain⟨i,hi⟩:=List.getElem?_of_mem hx;obtain⟨hil,hc⟩:=hes i x hi;obtain⟨y,z,h1,h2,h3⟩:=each i hil;obtain rfl:y=x:=atl (h1.symm.trans hc);exact Rd.zK hl f e y z.1 z.2 hrow.1 h3 (hw2 z (atk h2))
    refine⟨_,rfl,es,⟨?_,by rw[hlen];omega,?_,.inr ⟨a,cap,by rw[hlen],by rw[hlen];exact hlc,?_⟩⟩,fun x hx=>⟨hk x hx,hrd x hx⟩,?_⟩
    ·have:∀ l:List (List Value),(∀ x∈l,x.length=P.cellsOf e)→l.flatten.length=l.length*P.cellsOf e:=fun l=>by
      induction l with
      | nil=>simp
      | cons x l ih=>intro h;rw[List.flatten_cons,List.length_append,ih (fun y hy=>h y (by simp[hy])),h x (by simp),List.length_cons,Nat.add_mul];omega
     exact this es hk
    ·intro u hu;obtain⟨x,hx1,hx2⟩:=List.mem_flatten.1 hu;exact(hrd x hx1).one u hx2
    ·intro j u hj;obtain⟨i,x,r,h1,h2,rfl,h4⟩:=Nj hk j u hj;have:=(En (hes i x h1).2).2 r u h4
     rwa [add_add] at this
    ·rw[hlen];refine ate (Nat.mul_le_mul_right _ ?_) hw1;omega
  ·rename_i fs hu;rw[hu] at hrow;simp only[ata,beq_iff_eq,atg,List.mem_range] at hrow;obtain⟨⟨ahv,ahC⟩,hoff⟩:=hrow;obtain⟨xs,n,hf,hx,hcl,hxl,abu⟩:=DataW.trod_struct hu h;obtain rfl:f=n:=by omega
   simp only[Prod.mk.injEq] at hx;obtain⟨rfl,_⟩:=hx;refine IU _ cs (by rw[hcl,ahC,List.map_map];rfl) fun j t' hj=>?_
   rw[atm] at hj;obtain⟨fl,hfl,rfl⟩:=Option.map_eq_some_iff.1 hj;have hjl:j<fs.toList.length:=(atj.1 hfl).1;have ho:=hoff j hjl;rw[hfl] at ho;simp only[beq_iff_eq] at ho;have hxj:=abu j fl (by rw[← hfl,Array.getElem?_toList]);have hjx:j<xs.length:=by rw[hxl];simpa using hjl
   rw[atd hjx,ho] at hxj;rw[List.map_take] at hxj;rw[← List.map_take,List.map_map,List.map_take];refine Rd.zK hl f _ _ xs[j].1 xs[j].2 (ahv fl (atk hfl)) hxj fun n hn=>hw n ?_
   rw[DataW.weights,hu];exact DataW.weights_mem_each (j:=j) (by rw[atm,hfl];rfl) (by rw[atm,atd hjx];rfl) n hn
  ·rename_i n e hu;rw[hu] at hrow;simp only[ata,beq_iff_eq] at hrow;obtain⟨xs,m,hf,hx,hcl,hxl,hel⟩:=DataW.trod_array hu h;obtain rfl:f=m:=by omega
   simp only[Prod.mk.injEq] at hx;obtain⟨rfl,_⟩:=hx
   have hsp:∀ (n:Nat) (cs:List Value),cs.length=n*P.cellsOf e→(∀ i,i<n→Rd P w f e ((cs.drop (i*P.cellsOf e)).take (P.cellsOf e))) →
    ∃ es:List (List Value),cs=es.flatten∧es.length=n∧∀ x∈es,x.length=P.cellsOf e∧Rd P w f e x:=fun n=>by
    induction n with
    | zero=>intro cs h _;exact⟨[],by simpa using h,rfl,by simp⟩
    | succ n ih=>
     intro cs h hr;rw[Nat.add_mul] at h
     obtain⟨es,h1,h2,h3⟩:=ih (cs.drop (P.cellsOf e)) (by rw[List.length_drop];omega) fun i hi=>by
      have:=hr (i+1) (by omega);rw[List.drop_drop]
      rwa [show P.cellsOf e+i*P.cellsOf e=(i+1)*P.cellsOf e by rw[Nat.add_mul];omega]
     refine⟨cs.take (P.cellsOf e)::es,by rw[List.flatten_cons,← h1,List.take_append_drop],by simp[h2],fun x hx=>?_⟩;rcases ati.1 hx with rfl|hx
     ·exact⟨by rw[atp];omega,by simpa using hr 0 (by omega)⟩
     ·exact h3 x hx
   refine hsp n cs (by rw[hcl,hrow.2]) fun i hi=>?_
   have hxi:=hel i hi;have WM:i<xs.length:=by omega
   rw[atd WM] at hxi;refine Rd.zK hl f _ _ xs[i].1 xs[i].2 hrow.1 hxi fun n hn=>hw n ?_
   rw[DataW.weights,hu];exact xU (List.mem_map_of_mem (List.getElem_mem WM)) hn
  ·unfold DataW.trod at h;split at h<;>first|(simp_all;done)|exact⟨_,rfl,rfl⟩
def Arg(P:Program)(w:World)(t:TypeId)(v:Value):Prop:=
 ∃ f cs,Rd P w f t cs∧v=match P.underlying t with
  | some (.struct _)|some (.array _ _)=>.agg cs.toArray
  | _=>cs.headD undef
def Args(P:Program)(w:World):List TypeId→List Value→Prop
 | [],[]=>True
 | t::ts,v::vs=>Arg P w t v∧Args P w ts vs
 | _,_=>False
theorem acw{held:Bool}{r:Reach}{base:Nat}(hl:laidOutB P=true){t:TypeId}{v:Value}{d:DataW H}{ps:List MemPlace}(hv:isVar P t=true)(hok:Value.okWide P w r base t v)
 (h:DataW.Trod enc P w 0 (fun _=>true) held t v d ps) (hw:∀ n∈d.weights P t,n≤reachBytes):Arg P w t v:=by
 obtain⟨f,h⟩:=h;refine⟨f,_,Rd.zK hl f t _ d ps hv h hw,?_⟩;unfold Value.okWide at hok;split at hok
 ·obtain⟨cs,rfl,_⟩:=hok
  simp_all [Value.cells]
 ·obtain⟨cs,rfl,_⟩:=hok
  simp_all [Value.cells]
 ·split
  ·simp_all
  ·simp_all
  ·cases v<;>simp_all [Value.cells,Cell.okWide,Cell.ok]
theorem Py{r:Reach}{base:Nat}(hl:laidOutB P=true):∀ {ts:List TypeId} {vs:List Value} {ds:List (DataW H)} {ps:List MemPlace},(∀ t∈ts,isVar P t=true) →
 (∀ (j:Nat) t v,ts[j]?=some t→vs[j]?=some v→Value.okWide P w r base t v)→DataW.TrodAll enc P w 0 (fun _=>true) true ts vs ds ps→(∀ n∈DataW.weightsEach P ts ds,n≤reachBytes)→Args P w ts vs
 | [],[],[],_,_,_,_,_=>trivial
 | t::ts,v::vs,d::ds,ps,hv,hok,⟨p,q,h1,h2,_⟩,hw=>by
  simp only[DataW.weightsEach,List.mem_append] at hw
  exact⟨acw hl (hv t (by simp)) (hok 0 t v rfl rfl) h1 fun n hn=>hw n (.inl hn),
   Py hl (fun t ht=>hv t (by simp[ht])) (fun j t v h1 h2=>hok (j+1) t v (by simpa using h1) (by simpa using h2)) h2 fun n hn=>hw n (.inr hn)⟩
theorem pY:∀ {ts:List TypeId} {vs:List Value} {ds:List (DataW H)} {ps:List MemPlace},DataW.TrodAll enc P w 0 spare true ts vs ds ps→ds.length=ts.length
 | [],[],[],_,_=>rfl
 | _::_,_::_,_::_,_,⟨_,_,_,h2,_⟩=>by simp[pY h2]
theorem tY{w':World}(hl:laidOutB P=true)(hb:Below w.heap.size w w'):∀ {ts:List TypeId} {vs:List Value} {ds:List (DataW H)} {ps:List MemPlace},
 (∀ t∈ts,isVar P t=true∧P.readableRec t=true)→DataW.TrodAll enc P w 0 (fun _=>true) true ts vs ds ps→(∀ x∈ps,x.block<w.heap.size)→DataW.TrodAll enc P w' 0 (fun b=>decide (b<w.heap.size)) true ts vs ds ps
 | [],[],[],_,_,h,_=>h
 | t::ts,v::vs,d::ds,_,hr,⟨p,q,h1,h2,rfl⟩,hlt=>by
  have hv:=(hr t (by simp)).1;unfold isVar at hv;simp only[ata,decide_eq_true_eq] at hv
  exact⟨p,q,Below.trod hl (hr t (by simp)).2 hv.1 h1 hb fun x hx=>hlt x (List.mem_append_left _ hx),
   tY hl hb (fun t ht=>hr t (by simp[ht])) h2 fun x hx=>hlt x (List.mem_append_right _ hx),rfl⟩
end
section
variable {H:Type} {enc:TypeId×Value→H}
theorem UA{P:Program}{fn:Func}{s:ChangeSpec}(laid:laidOutB P=true)(hv:s.vars=[])(tb:TypeId)(hres:fn.resultTypes=#[tb])(hb:P.underlying tb=some .bool)
 (hpar:fn.params.toList.all (fun t=>isVar P t&&P.readableRec t)=true)
 (hspec:∀ ds:List (DataW H),ds.length=fn.params.toList.length→s.fn H ds={ results:=[.lit (.bool true)],args:=ds })
 {W W':World} {args:Array Value} {ds gs:List (DataW H)} {before:List MemPlace} (hW:DataW.Whole enc P fn.params.toList s.vars false W args.toList ds gs before) (hB:Below W.heap.size W W') :
 s.post enc P fn false true false false W args (.bool true) W':=by
 have hW':=hW;have hlt:=hW.lt;obtain⟨p,q,hA,hV,rfl,_,_⟩:=hW;rw[hv] at hV;obtain⟨rfl,rfl⟩:=trodVars_none hV;rw[List.append_nil] at hlt
 have hp:∀ t∈fn.params.toList,isVar P t=true∧P.readableRec t=true:=fun t ht=>by
  have:=atg.1 hpar t ht;simpa using this
 have hs:=hspec ds (pY hA);refine⟨ds,[],_,[],p,[],hW',?_,?_,?_,hB.frame _,fun h=>by cases h⟩
 ·rw[List.append_nil,hs,hres];exact trodAll_mk1 (shut_bool hb true)
 ·rw[List.append_nil,hs];exact tY laid hB hp hA hlt
 ·rw[hv,List.append_nil,hs];exact rfl
theorem Mz{C:Checked}{os:Os}{f:FuncId}{fn:Func}{s:ChangeSpec}{conds:List PathCond}(own:ownKnob C.prog.godebug=none)(laid:laidOutB C.prog=true)(started:os.Started)
 (noInit:C.prog.inits.idxOf? f=none) (hfn:C.prog.funcs[f]?=some fn) (hv:s.vars=[]) (tb:TypeId) (hres:fn.resultTypes=#[tb]) (hb:C.prog.underlying tb=some .bool)
 (hpar:fn.params.toList.all (fun t=>isVar C.prog t&&C.prog.readableRec t)=true)
 (hspec:∀ ds:List (DataW H),ds.length=fn.params.toList.length→s.fn H ds={ results:=[.lit (.bool true)],args:=ds })
 (witness:∃ (w:World) (tape:Tape) (i:Input),w.os=os∧(w.forCall tape i).Shaped C.prog∧i.vars=[]∧Input.okWide C.prog (w.forCall tape i) .any w.heap.size f i ∧
  s.pre6 enc C.prog fn conds false (w.forCall tape i).memory i.args∧({}:Assume).holds C.prog (lone (Frame.enter C.prog f i.args .normal) [] (w.forCall tape i)))
 (contract:∀ (W:World) (args:Array Value),Args C.prog W fn.params.toList args.toList→Calls C.prog f args W fun e W'=>e=.returned (.bool true)∧Below W.heap.size W W') :
 ReturnsInHanded {} C os f .any (s.pre6 enc C.prog fn conds false) (s.post enc C.prog fn false true false false):=by
 refine returnsInHanded_of_change_sized own started noInit hfn witness ?_;intro W base args ds gs before hval hW _ hsz _;have hW':=hW;obtain⟨p,q,hA,hV,rfl,_,_⟩:=hW;rw[hv] at hV;obtain⟨rfl,rfl⟩:=trodVars_none hV
 have hp:∀ t∈fn.params.toList,isVar C.prog t=true∧C.prog.readableRec t=true:=fun t ht=>by
  have:=atg.1 hpar t ht;simpa using this
 have hw:∀ n∈DataW.weightsEach C.prog fn.params.toList ds,n≤reachBytes:=fun n hn=>by
  have:=atg.1 hsz n (by
   have:s.plain.varTypes C.prog=[]:=by simp[ChangeSpec.plain,DataSpec.varTypes,hv]
   rw[this,List.append_nil,List.append_nil];exact hn)
  simpa using this
 refine(contract W args (Py laid (fun t ht=>(hp t ht).1) (fun j t v h1 h2=>hval j t v (by simpa using h1) (by simpa using h2)) hA hw)).mono fun e W' ⟨he,hB⟩=>?_
 subst he;exact⟨_,rfl,UA laid hv tb hres hb hpar hspec hW' hB⟩
end
end Go.Proofs.YtdcofoaihmongaaGreat
namespace Go.Proofs.YtdcofoaihmongaaGreat
open Go.RowKit
abbrev Gd:=(Nat→Bool)→Value→World→Prop
def X1(x:Value):Gd:=fun _ v _=>x=v
def Ev(L:Nat→Bool)(d:List Deferred)(w:World)(a:Act):List (Option Nat)→List Gd→Array Value→Prop
 | some s::ss,g::gs,t=>∃ u,g L u w∧Ev L d w a ss gs (t.setIfInBounds s u)
 | none::ss,g::gs,t=>∃ u,g L u w∧Ev L d w a ss gs t
 | _,_,t=>a=⟨t,d⟩
structure vn (slots:List (Option Nat)) (aH:List Gd) (inv:World→Prop) (t:Array Value) (d:List Deferred) (L:Nat→Bool) (a:Act) (w:World):Prop where
 defers:a.defers=d
 inv:inv w
 done:∀ i,L i=true→i<slots.length→∀ g,aH[i]?=some g→∃ v,(∀ s,slots[i]?=some (some s)→a.tmps[s]?=some v)∧g L v w
 rest:∀ j,slots.contains (some j)=false→a.tmps[j]?=t[j]?
 size:a.tmps.size=t.size
theorem Bq{L:Nat→Bool}{d:List Deferred}{w:World}{a:Act}(hd:a.defers=d):∀ (slots:List (Option Nat)) (aH:List Gd) (t:Array Value),slots.length=aH.length →
 (∀ (i:Nat) (g:Gd),aH[i]?=some g→∃ v,(∀ s,slots[i]?=some (some s)→a.tmps[s]?=some v)∧g L v w)→(∀ j,slots.contains (some j)=false→a.tmps[j]?=t[j]?)→a.tmps.size=t.size→Ev L d w a slots aH t
 | [],[],t,_,_,hr,_=>by
  show a=⟨t,d⟩;obtain⟨at',ad⟩:=a;have e1:at'=t:=Array.ext_getElem? fun j=>hr j rfl
  have e2:ad=d:=hd;rw[e1,e2]
 | none::ss,g::gs,t,hl,hg,hr,hs=>by
  obtain⟨u,_,hgu⟩:=hg 0 g rfl;refine⟨u,hgu,Bq hd ss gs _ (by simpa using hl) (fun i g' h2=>?_) (fun j hj=>hr j ?_) hs⟩
  ·obtain⟨v,h3,h4⟩:=hg (i+1) g' (by simpa using h2);exact⟨v,fun s' h1=>h3 s' (by simpa using h1),h4⟩
  ·simp only[List.contains_cons,hj,Bool.or_false];rfl
 | some s::ss,g::gs,t,hl,hg,hr,hs=>by
  obtain⟨u,hu,hgu⟩:=hg 0 g rfl;have hu:=hu s rfl;refine⟨u,hgu,Bq hd ss gs _ (by simpa using hl) (fun i g' h2=>?_) (fun j hj=>?_) (by rw[Array.size_setIfInBounds];exact hs)⟩
  ·obtain⟨v,h3,h4⟩:=hg (i+1) g' (by simpa using h2);exact⟨v,fun s' h1=>h3 s' (by simpa using h1),h4⟩
  ·by_cases h:s=j
   ·subst h;have hlt:s<a.tmps.size:=(Array.getElem?_eq_some_iff.1 hu).1;rw[hu,Array.getElem?_setIfInBounds_self_of_lt (by omega)]
   ·rw[Array.getElem?_setIfInBounds_ne h];refine hr j ?_;have h1:¬ j=s:=fun e=>h e.symm
    simp only[List.contains_cons,hj,Bool.or_false];simpa using h1
 | [],_::_,_,hl,_,_,_=>by simp at hl
 | _::_,[],_,hl,_,_,_=>by simp at hl
theorem vn.laid{slots:List (Option Nat)}{aH:List Gd}{inv:World→Prop}{t:Array Value}{d:List Deferred}{L:Nat→Bool}{a:Act}{w:World}(h:vn slots aH inv t d L a w)(hl:slots.length=aH.length)
 (hL:∀ i,i<slots.length→L i=true):Ev L d w a slots aH t:=
 Bq h.defers slots aH t hl (fun i g h2=>h.done i (hL i (by rw[hl];exact(atj.1 h2).1)) (by rw[hl];exact(atj.1 h2).1) g h2) h.rest h.size
def NH(ms:List Nat):List Gd→Prop
 | []=>True
 | g::r=>(∀ (L:Nat→Bool) (i:Nat) v w w',ms.contains i=false→g L v w→Below w.heap.size w w'→g (upd L i) v w')∧NH ms r
theorem Bo{ms:List Nat}:∀ {l:List Gd},NH ms l→∀ g∈l,∀ (L:Nat→Bool) (i:Nat) v w w',ms.contains i=false→g L v w→Below w.heap.size w w'→g (upd L i) v w'
 | [],_,_,h=>by cases h
 | x::r,h,g,hg=>by
  rcases ati.1 hg with rfl|hg
  ·exact h.1
  ·exact Bo h.2 g hg
theorem jv{ms:List Nat}(x:Value):∀ (L:Nat→Bool) (i:Nat) v w w',ms.contains i=false→X1 x L v w→Below w.heap.size w w'→X1 x (upd L i) v w':=fun _ _ _ _ _ _ h _=>h
def z_(slots:List (Option Nat))(L:Nat→Bool)(a:Act)(w w':World)(i:Nat):Nat→List Gd→Prop
 | _,[]=>True
 | j,g::r=>(j≠i→L j=true→∀ v,(∀ s,slots[j]?=some (some s)→a.tmps[s]?=some v)→g L v w→g (upd L i) v w')∧z_ slots L a w w' i (j+1) r
theorem Br{slots:List (Option Nat)}{L:Nat→Bool}{a:Act}{w w':World}{i:Nat}:∀ {k:Nat} {l:List Gd},z_ slots L a w w' i k l→∀ (j:Nat) (g:Gd),l[j]?=some g→k+j≠i→L (k+j)=true→∀ v,(∀ s,slots[k+j]?=some (some s)→a.tmps[s]?=some v)→g L v w→g (upd L i) v w'
 | _,[],_,j,_,h=>by simp at h
 | _,x::_,h,0,g,hg=>by
  simp at hg;subst hg;exact h.1
 | k,_::r,h,j+1,g,hg=>by
  have:=Br h.2 j g (by simpa using hg)
  rwa [show k+1+j=k+(j+1) by omega] at this
def Es(ms:List Nat)(slots:List (Option Nat))(aH:List Gd)(L:Nat→Bool)(a:Act)(w w':World)(i:Nat):Prop:=match ms.contains i with
 | true=>z_ slots L a w w' i 0 aH
 | false=>Below w.heap.size w w'
theorem LH{ms:List Nat}{slots:List (Option Nat)}{aH:List Gd}{L:Nat→Bool}{a:Act}{w w':World}{i:Nat}(h:ms.contains i=true):Es ms slots aH L a w w' i=z_ slots L a w w' i 0 aH:=by unfold Es;rw[h]
theorem Iw{ms:List Nat}{slots:List (Option Nat)}{aH:List Gd}{L:Nat→Bool}{a:Act}{w w':World}{i:Nat}(h:ms.contains i=false):Es ms slots aH L a w w' i=Below w.heap.size w w':=by unfold Es;rw[h]
theorem vn.put{slots:List (Option Nat)}{aH:List Gd}{inv:World→Prop}{t:Array Value}{d:List Deferred}{L:Nat→Bool}{a:Act}{w w':World}{i:Nat}{s:Option Nat}{v:Value}{L':Nat→Bool}(h:vn slots aH inv t d L a w)
 (hnd:(slots.filterMap fun x=>x).Nodup) (hbd:slots.all (fun s=>decide (s.getD 0<t.size))=true) (hst:∀ (j:Nat) (g:Gd),aH[j]?=some g→j≠i→L j=true→∀ v,(∀ s,slots[j]?=some (some s)→a.tmps[s]?=some v)→g L v w→g L' v w') {UL:World→Prop} (hinv:UL w') (hs:slots[i]?=some s) (hg:∀ g:Gd,aH[i]?=some g→g L' v w')
 (hL:∀ j,L' j=true→j=i∨L j=true):vn slots aH UL t d L' (a.put s v) w':=by
 cases s with
 | none=>
  refine⟨h.defers,hinv,?_,h.rest,h.size⟩;intro j hj hjl g' hg';by_cases hji:j=i
  ·subst hji;exact⟨v,fun s' hs'=>(by rw[hs] at hs';cases hs'),hg g' hg'⟩
  ·obtain⟨u,hu,hgu⟩:=h.done j ((hL j hj).resolve_left hji) hjl g' hg';exact⟨u,hu,hst j g' hg' hji ((hL j hj).resolve_left hji) u hu hgu⟩
 | some s=>
  refine⟨h.defers,hinv,?_,?_,?_⟩
  ·intro j hj hjl g' hg';by_cases hji:j=i
   ·subst hji;refine⟨v,fun s' hs'=>?_,hg g' hg'⟩;obtain rfl:s=s':=atl (atl (hs.symm.trans hs'))
    have hlt:s<a.tmps.size:=by
     rw[h.size];have:=atg.1 hbd (some s) (atk hs);simpa using this
    show(a.tmps.setIfInBounds s v)[s]?=some v;rw[Array.getElem?_setIfInBounds_self_of_lt hlt]
   ·obtain⟨u,hu,hgu⟩:=h.done j ((hL j hj).resolve_left hji) hjl g' hg';refine⟨u,fun s' hs'=>?_,hst j g' hg' hji ((hL j hj).resolve_left hji) u hu hgu⟩;have hne:s≠s':=fun e=>hji (Bb hnd (e▸hs') hs)
    show(a.tmps.setIfInBounds s v)[s']?=some u;rw[Array.getElem?_setIfInBounds_ne hne];exact hu s' hs'
  ·intro j hj
   have hne:s≠j:=fun e=>by
    have hm:some j∈slots:=e▸atk hs;have:slots.contains (some j)=true:=by simpa using hm
    rw[this] at hj;cases hj
   show(a.tmps.setIfInBounds s v)[j]?=t[j]?;rw[Array.getElem?_setIfInBounds_ne hne];exact h.rest j hj
  ·show(a.tmps.setIfInBounds s v).size=t.size;rw[Array.size_setIfInBounds];exact h.size
def tQ(P:Program)(ops:Array Oper)(slots:List (Option Nat))(aH:List Gd)(inv:(Nat→Bool)→World→Prop)(ms:List Nat)(t:Array Value)(d:List Deferred)(Q:Exit→Act→World→Prop):Nat→List Oper→List Gd→Prop
 | i,o::r,g::gs=>(∀ (L:Nat→Bool) (a:Act) (w:World) (Q':Exit→Act→World→Prop),L i=false→inv L w →
  (∀ k,(∃ gr,(⟨k,gr⟩:Edge)∈o.after.toList∧Region.binds .any ⟨k,gr⟩=true)→∀ g,aH[k]?=some g→∃ v,(∀ s,slots[k]?=some (some s)→a.tmps[s]?=some v)∧g L v w) →
  (∀ j,slots.contains (some j)=false→a.tmps[j]?=t[j]?) →
  (∀ v w',Es ms slots aH L a w w' i→inv (upd L i) w'→g (upd L i) v w'→Q' .normal (a.put o.dst v) w')→wpList P ops Q' [o] a w)∧tQ P ops slots aH inv ms t d Q (i+1) r gs
 | _,[o],[]=>∀ (a:Act) (w:World) (L:Nat→Bool),Ev L d w a slots aH t→inv L w→(∀ i,i<slots.length→L i=true)→∀ (Q':Exit→Act→World→Prop),(∀ a w,Q .normal a w→Q' .normal a w)→wpList P ops Q' [o] a w
 | _,_,_=>False
theorem IJ{P:Program}{ops:Array Oper}{slots:List (Option Nat)}{aH:List Gd}{inv:(Nat→Bool)→World→Prop}{ms:List Nat}{t:Array Value}{d:List Deferred}{Q:Exit→Act→World→Prop}:∀ (k:Nat) (l:List Oper) (gs:List Gd),tQ P ops slots aH inv ms t d Q k l gs →
 l.length=gs.length+1 ∧
 (∀ (i:Nat) (o:Oper),l[i]?=some o→i<gs.length →
 (∀ (L:Nat→Bool) (a:Act) (w:World) (Q':Exit→Act→World→Prop),L (k+i)=false→inv L w →
  (∀ k,(∃ gr,(⟨k,gr⟩:Edge)∈o.after.toList∧Region.binds .any ⟨k,gr⟩=true)→∀ g,aH[k]?=some g→∃ v,(∀ s,slots[k]?=some (some s)→a.tmps[s]?=some v)∧g L v w) →
  (∀ j,slots.contains (some j)=false→a.tmps[j]?=t[j]?) →
  (∀ v w',Es ms slots aH L a w w' (k+i)→inv (upd L (k+i)) w'→(∀ g:Gd,gs[i]?=some g→g (upd L (k+i)) v w')→Q' .normal (a.put o.dst v) w')→wpList P ops Q' [o] a w)) ∧
 (∀ o,l[gs.length]?=some o→∀ (a:Act) (w:World) (L:Nat→Bool),Ev L d w a slots aH t→inv L w→(∀ i,i<slots.length→L i=true)→∀ (Q':Exit→Act→World→Prop),(∀ a w,Q .normal a w→Q' .normal a w)→wpList P ops Q' [o] a w)
 | k,x::r,g::gs,h=>by
  obtain⟨h1,h2,h3⟩:=IJ (k+1) r gs h.2;refine⟨by simpa using h1,?_,fun o ho=>h3 o (by simpa using ho)⟩;intro i o ho hi
  cases i with
  | zero=>
   simp at ho;subst ho
   exact fun L a w Q' h0 h1 h2 h3 h4=>h.1 L a w Q' h0 h1 h2 h3 fun v w' hb hi hg=>h4 v w' hb hi fun g' e=>by
    simp at e;rw[← e];exact hg
  | succ i=>
   have:=h2 i o (by simpa using ho) (by simpa using hi);rw[show k+1+i=k+(i+1) by omega] at this;simpa using this
 | _,[o],[],h=>⟨rfl,fun i o' _ hi=>by simp at hi,fun o' ho'=>by simp at ho';subst ho';exact h⟩
 | _,[],_,h=>by cases ‹List Gd›<;>exact h.elim
 | _,_::_::_,[],h=>h.elim
section
variable {P:Program} {Q:Exit→Act→World→Prop}
theorem yT{id:Nat}{l:List Oper}{t:Array Value}{d:List Deferred}{w:World}(slots:List (Option Nat))(aH:List Gd)(inv:(Nat→Bool)→World→Prop)(ms:List Nat)
 (hm:P.follows .mixedOrders=true) (eS:ordered 0 l=true) (Jz:consumed l=true) (gG:(l.map (·.dst)).take slots.length=slots) (hnd:(slots.filterMap fun x=>x).Nodup) (hbd:slots.all (fun s=>decide (s.getD 0<t.size))=true) (hlen:slots.length=aH.length)
 (h0:inv (fun _=>false) w.drew) (aa_:NH ms aH)
 (hstep:tQ P l.toArray slots aH inv ms t d Q 0 l aH) :
 (Code.region id l.toArray true).wp P Q ⟨t,d⟩ w:=by
 obtain⟨hn,hat,hla⟩:=IJ 0 l aH hstep;rw[← hlen] at hn hat hla
 have hsl:∀ (i:Nat) (o:Oper),l[i]?=some o→i<slots.length→slots[i]?=some o.dst:=fun i o ho hi=>by
  have h:=congrArg (fun x:List (Option Tmp)=>x[i]?) gG;simp only[atm,List.getElem?_take,if_pos hi,ho,Option.map_some] at h;exact h.symm
 have hst:=Bo aa_
 refine fV hm eS (fun L a w=>(∀ j o,l[j]?=some o→L j=true→∀ e∈o.after.toList,Region.binds .any e=true→L e.on=true) ∧
  (L slots.length=false→vn slots aH (inv L) t d L a w)∧(L slots.length=true→Q .normal a w)) ?_ ?_ ?_
 ·refine⟨fun _ _ _ h=>(by cases h),fun _=>?_,fun h=>(by cases h)⟩;exact⟨rfl,h0,fun i h=>by simp at h,fun _ _=>rfl,rfl⟩
 ·have key:∀ (i:Nat) (o:Oper),l[i]?=some o→∀ (L:Nat→Bool) (a:Act) (w:World) (Q':Exit→Act→World→Prop),
   ((∀ j o,l[j]?=some o→L j=true→∀ e∈o.after.toList,Region.binds .any e=true→L e.on=true)∧(L slots.length=false→vn slots aH (inv L) t d L a w)∧(L slots.length=true→Q .normal a w))→L i=false →
   (∀ e∈o.after.toList,Region.binds .any e=true→L e.on=true) →
   (∀ a w,((∀ j o,l[j]?=some o→upd L i j=true→∀ e∈o.after.toList,Region.binds .any e=true→upd L i e.on=true)∧(upd L i slots.length=false→vn slots aH (inv (upd L i)) t d (upd L i) a w)∧(upd L i slots.length=true→Q .normal a w))→Q' .normal a w) →
   wpList P l.toArray Q' [o] a w:=by
   intro i o ho L a w Q' ⟨hcl,hpl,hq⟩ hL hA hK;have hil:i<slots.length+1:=by rw[← hn];exact(atj.1 ho).1
   have up:∀ k,L k=true→upd L i k=true:=fun k hk=>by simp[upd,hk]
   have hcl':∀ j o,l[j]?=some o→upd L i j=true→∀ e∈o.after.toList,Region.binds .any e=true→upd L i e.on=true:=by
    intro j o' hj uN e he hb;by_cases hji:j=i
    ·subst hji;obtain rfl:o=o':=atl (ho.symm.trans hj);exact up _ (hA e he hb)
    ·have hne:(j == i)=false:=by simpa using hji
     exact up _ (hcl j o' hj (by simpa[upd,hne] using uN) e he hb)
   by_cases hin:i=slots.length
   ·subst hin;have hall:=mh eS Jz L hn (fun j o hj _=>hcl j o hj) (fun o' ho'=>by obtain rfl:o=o':=atl (ho.symm.trans ho');exact hA);refine hla o ho a w L ((hpl hL).laid hlen hall) (hpl hL).inv hall Q' fun a' w' hq'=>hK a' w' ⟨hcl',fun h=>?_,fun _=>hq'⟩
    simp[upd] at h
   ·have hi:i<slots.length:=by omega
    have hLn:L slots.length=false:=by
     cases hx:L slots.length with
     | false=>rfl
     | true=>
      have hall:=mh eS Jz L hn (fun j o hj _=>hcl j o hj) (fun o' ho'=>hcl _ o' ho' hx);rw[hall i hi] at hL;cases hL
    have hI:=hpl hLn;have hne:(slots.length == i)=false:=by simpa using fun e=>hin (Eq.symm e)
    have h1:=hat i o ho hi L a w Q' (by rw[Nat.zero_add];exact hL) hI.inv (fun k ⟨gr,hk,hb⟩ g hg=>hI.done k (hA _ hk hb) (by rw[hlen];exact(atj.1 hg).1) g hg) hI.rest;refine h1 fun v w' hb hii hg=>?_
    have hs:=hsl i o ho hi;rw[Nat.zero_add] at hii hb hg
    have MX:∀ (j:Nat) (g:Gd),aH[j]?=some g→j≠i→L j=true→∀ v,(∀ s,slots[j]?=some (some s)→a.tmps[s]?=some v)→g L v w→g (upd L i) v w':=by
     intro j g hgj hne uN v hv hgv
     cases he:ms.contains i with
     | true=>
      rw[LH he] at hb;have:=Br hb j g hgj (by omega) (by rw[Nat.zero_add];exact uN) v (by rw[Nat.zero_add];exact hv) hgv;exact this
     | false=>
      rw[Iw he] at hb;exact hst g (atk hgj) L i v w w' he hgv hb
    refine hK _ _ ⟨hcl',fun _=>?_,fun h=>?_⟩
    ·refine hI.put hnd hbd MX hii hs hg fun j hj=>?_
     by_cases hji:j=i
     ·exact .inl hji
     ·have:(j == i)=false:=by simpa using hji
      exact .inr (by simpa[upd,this] using hj)
    ·simp[upd,hne,hLn] at h
  have all:∀ (r:List Oper) (k:Nat),(∀ i o,r[i]?=some o→l[k+i]?=some o)→jj P l.toArray (fun L a w=>(∀ j o,l[j]?=some o→L j=true→∀ e∈o.after.toList,Region.binds .any e=true→L e.on=true) ∧
   (L slots.length=false→vn slots aH (inv L) t d L a w)∧(L slots.length=true→Q .normal a w)) k r:=by
   intro r
   induction r with
   | nil=>intro k _;trivial
   | cons o r ih=>
    intro k h;refine⟨fun L a w Q' hI hL hA hK=>key k o (h 0 o rfl) L a w Q' hI hL hA hK,ih (k+1) fun i o' ho'=>?_⟩;have:=h (i+1) o' (by simpa using ho')
    rwa [show k+1+i=k+(i+1) by omega]
  exact all l 0 fun i o ho=>by simpa using ho
 ·intro L a w hI hL;exact hI.2.2 (hL slots.length (by omega))
end
end Go.Proofs.YtdcofoaihmongaaGreat

import Derived.Below
import Derived.BigQuiet
import Derived.ChangeKeysEq
import Derived.Deep.DeepCutAuto
import Derived.Deep.MidRow
import Derived.DeepKeys4
import Derived.Great.BuildSlice
import Derived.Handy
import Derived.Laws.Bits64b
import Derived.Laws.OwnMore
import Derived.Laws.Pointers
import Derived.Laws.Rows
import Derived.Laws.StructEq
import Derived.Laws.Tables
import Derived.Lib.Hide
import Derived.Maps.Own
import Derived.Maps.OwnSet
import Derived.Maps.Range
import Derived.Maps.RangeWalk
import Derived.OpenShut
import Derived.Orders
import Derived.ProofKit
import Derived.SizedLaws
import Derived.Sort.Grow
import Derived.Tactics
import Derived.Test.YtdcofoaihmongaaGreatProg
import Derived.Test.YtdcofoaihmongaaGreatRows
import Derived.WalkKit
import Derived.WalkSmall
import Derived.WalkSpells
import Derived.WideKeyMaps
open Array renaming getD_eq_getD_getElem?→aq4
open Bool renaming and_eq_true→aqX
open Go.Lib renaming hid→ark
open Go.RowKit renaming Below→ara
open Go.Sem renaming run_bind→aq2
open List renaming getElem?_append_left→aqY,getElem?_append_right→aqZ,getElem?_eq_getElem→aq0,all_eq_true→aq3,mem_cons→aq5,getElem?_eq_some_iff→aq6,mem_of_getElem?→aq7,getElem?_map→aq9,length_take→arb,mem_map→ard,mem_cons_self→arh,mem_cons_of_mem→ari,length_append→arj
open Nat renaming le_trans→aq1,lt_of_lt_of_le→aq_,eq_of_beq_eq_true→arf
open Option.some renaming inj→aq8
set_option maxRecDepth 100000
set_option maxHeartbeats 8000000
namespace Go.Proofs.YtdcofoaihmongaaGreat
open Go.RowKit
def iQ(o:Option TypeInfo)(k b:Nat):Bool:=
 match o with
 | some i=>(match i.zero with|some z=>z.cells.size == k|none=>false)&&i.size == k&&i.bytes == b
 | none=>false
theorem nX{o:Option TypeInfo}{k b:Nat}(h:iQ o k b=true):∃ i z,o=some i∧i.zero=some z∧i.size=k∧i.bytes=b∧z.cells.size=k:=by
 unfold iQ at h;split at h
 ·rename_i i;split at h
  ·rename_i z hz;simp only[aqX,beq_iff_eq] at h;exact⟨i,z,rfl,hz,h.1.2,h.2,h.1.1⟩
  ·simp at h
 ·simp at h
theorem gQ{k:IntKind}{a b:Int}(h:a=b):Ending.returned (.int k a)=.returned (.int k b):=by rw[h]
theorem aD{a b:Bool}(h:a=b):Ending.returned (.bool a)=.returned (.bool b):=by rw[h]
theorem bf{α}{l:List α}{k:Nat}{t:α}(h:l[k]?=some t):l.take (k+1)=l.take k++[t]:=by
 rw[List.take_add_one,h];rfl
theorem lX{α}{f:α→List Value}{k:Nat}(hf:∀ x,(f x).length=k){l:List α}{i:Nat}{t:α}(h:l[i]?=some t)(j:Nat)(hj:j<k):(l.flatMap f)[i*k+j]?=(f t)[j]?:=by
 induction l generalizing i with
 | nil=>simp at h
 | cons x l ih=>
  have hl:=hf x
  cases i with
  | zero=>
   simp at h;subst h;rw[List.flatMap_cons,Nat.zero_mul,Nat.zero_add,aqY (by omega)]
  | succ i=>
   have:=ih (i:=i) (by simpa using h);rw[List.flatMap_cons,aqZ (by rw[hl,Nat.add_mul];omega),← this];congr 1;rw[hl,Nat.add_mul];omega
def SliceAt(w:World)(v:Value)(k n:Nat)(cs:List Value):Prop:=
 cs.length=n*k∧n≤maxLen∧(∀ u∈cs,u.oneCell'=true) ∧
  ((v=.slice none 0 0∧n=0)∨∃ a c,v=.slice (some a) n c∧n≤c∧∀ j u,cs[j]?=some u→w.cell? (a.add j)=some u)
theorem block_add(a:Addr)(n:Nat):(a.add n).block=a.block:=by unfold Addr.add;split<;>rfl
theorem SliceAt.keep{w w':World}{v:Value}{k n:Nat}{cs:List Value}(h:SliceAt w v k n cs)(hb:Below w.heap.size w w'):SliceAt w' v k n cs:=
 ⟨h.1,h.2.1,h.2.2.1,h.2.2.2.imp id fun⟨a,c,hv,hn,hc⟩=>⟨a,c,hv,hn,fun j u hu=>cell_later hb (hc j u hu)⟩⟩
theorem SliceAt.nil(w:World)(k:Nat):SliceAt w (.slice none 0 0) k 0 []:=⟨by simp,by simp[maxLen],by simp,.inl ⟨rfl,rfl⟩⟩
theorem CY{w:World}{a:Addr}{u:Value}(h:w.cell? (a.add 0)=some u):∃ b off,a=⟨b,off,none⟩:=by
 obtain⟨b,off,s⟩:=a;refine⟨b,off,?_⟩
 cases s with
 | none=>rfl
 | some x=>
  exfalso;unfold World.cell? Addr.add at h;split at h<;>simp at h
theorem SliceAt.form{w:World}{v:Value}{k n:Nat}{cs:List Value}(h:SliceAt w v k n cs)(hk:0<k):
 ∃ a c,v=.slice a n c∧n≤c∧n≤9223372036854775807∧∀ i,i<n→∃ b off,a=some ⟨b,off,none⟩∧∀ j u,cs[i*k+j]?=some u→w.cell? ⟨b,off+i*k+j,none⟩=some u:=by
 have hm:=h.2.1;unfold maxLen at hm;rcases h.2.2.2 with⟨rfl,rfl⟩|⟨a,c,rfl,hn,hc⟩
 ·exact⟨none,0,rfl,Nat.le_refl _,by omega,fun i hi=>by omega⟩
 ·refine⟨_,c,rfl,hn,by omega,fun i hi=>?_⟩;have hlt:i*k<cs.length:=by rw[h.1];exact Nat.mul_lt_mul_of_pos_right hi hk
  obtain⟨b,off,rfl⟩:=CY (hc 0 _ (aq0 (by omega)));exact⟨b,off,rfl,fun j u hu=>by have:=hc _ u hu;rwa [Addr.add_mid,← Nat.add_assoc] at this⟩
theorem SliceAt.bR{w:World}{base:Nat}{e:TypeId}{k n:Nat}{v:Value}{cs:List Value}(h:w.ownsRow base e k v n cs)(h1:∀ u∈cs,u.oneCell'=true):SliceAt w v k n cs:=by
 refine⟨h.1,?_,h1,?_⟩
 ·rcases h.2 with⟨_,rfl⟩|⟨g,cap,cur,_,_,_,hn,hc,_⟩
  ·simp[maxLen]
  ·omega
 ·rcases h.2 with h2|⟨g,cap,cur,rfl,_,hg,hn,hc,hs,ht⟩
  ·exact .inl h2
  ·exact .inr ⟨_,cap,rfl,hn,World.ownsRow.cells h (g:=g) rfl⟩
def Whole(w:World)(g:Nat)(t:TypeId)(cs:Array Value):Prop:=w.heap[g]?=some (.cells cs t (0,0))
section
variable {w w':World} {g:Nat} {t:TypeId} {cs:Array Value}
theorem Whole.lt(h:Whole w g t cs):g<w.heap.size:=by
 rcases Nat.lt_or_ge g w.heap.size with hlt|hge
 ·exact hlt
 ·unfold Whole at h;rw[Array.getElem?_eq_none hge] at h;cases h
theorem Whole.cell(h:Whole w g t cs)(i:Nat):w.cell? ⟨g,i,none⟩=cs[i]?:=cell_of_row w g i cs t (0,0) h
theorem Whole.frozen(h:Whole w g t cs)(i:Nat):w.frozen? ⟨g,i,none⟩=false:=frozen_of_row w g i cs t h
theorem Whole.new(w:World)(t:TypeId)(cs:Array Value):Whole (w.alloc (.cells cs t)) w.heap.size t cs:=heap_alloc_new w _
theorem Whole.alloc(h:Whole w g t cs)(o:Obj):Whole (w.alloc o) g t cs:=(Below.heap_alloc w o g h.lt).trans h
theorem Whole.drewN(h:Whole w g t cs)(n:Nat):Whole (w.drewN n) g t cs:=h
theorem Whole.below{B:Nat}(h:Whole w g t cs)(hb:Below B w w')(hg:g<B):Whole w' g t cs:=(hb.block g hg).trans h
theorem Whole.under{B:Nat}(hb:Below B w w')(h:Whole w g t cs)(hg:g<B):Whole w' g t cs:=h.below hb hg
theorem Whole.grown{row:Option Nat}(h:Whole w g t cs)(hb:w.grownBy w' row)(hg:some g≠row):Whole w' g t cs:=(hb.block g h.lt hg).trans h
end
structure wM (w w':World) (g:Nat):Prop where
 os:w'.os=w.os
 tape:w'.tape=w.tape
 output:w'.output=w.output
 size:w'.heap.size=w.heap.size
 block:∀ k,k≠g→w'.heap[k]?=w.heap[k]?
theorem wM.refl(w:World)(g:Nat):wM w w g:=⟨rfl,rfl,rfl,rfl,fun _ _=>rfl⟩
theorem wM.trans{a b c:World}{g:Nat}(h:wM a b g)(k:wM b c g):wM a c g:=
 ⟨k.os.trans h.os,k.tape.trans h.tape,k.output.trans h.output,k.size.trans h.size,fun i hi=>(k.block i hi).trans (h.block i hi)⟩
theorem wM.cell(w:World)(g i:Nat)(v:Value):wM w (w.setCell ⟨g,i,none⟩ v) g:=
 ⟨rfl,rfl,rfl,by simp[World.setCell],fun k hk=>heap_setCell_other w _ k v hk⟩
theorem wM.below{w w':World}{g B:Nat}(h:wM w w' g)(hg:B≤g):Below B w w':=
 ⟨h.os,h.tape,h.output,by rw[h.size];exact Nat.le_refl _,fun k hk=>h.block k (by omega)⟩
theorem wM.whole{w w':World}{g g':Nat}{t:TypeId}{cs:Array Value}(h:wM w w' g)(hw:Whole w g' t cs)(hne:g'≠g):Whole w' g' t cs:=(h.block g' hne).trans hw
theorem wM.grown{w w':World}{g:Nat}(h:wM w w' g):w.grownBy w' (some g):=
 ⟨h.os,h.tape,h.output,by rw[h.size];exact Nat.le_refl _,fun k _ hk=>h.block k fun e=>hk (by rw[e])⟩
theorem wM.own{w w':World}{g base:Nat}{e:TypeId}{size n:Nat}{v:Value}{xs:List Value}(h:wM w w' g)(ho:w.ownsRow base e size v n xs)(hne:v.ownBlock≠some g):w'.ownsRow base e size v n xs:=
 ho.kept h.grown (.inr hne)
theorem wM.cell'{w w':World}{g:Nat}(h:wM w w' g){a:Addr}(ha:a.block≠g):w'.cell? a=w.cell? a:=World.cell?_of_block (h.block _ ha)
theorem wM.slice{w w':World}{g:Nat}{v:Value}{k n:Nat}{cs:List Value}(h:wM w w' g)(hs:SliceAt w v k n cs)(hne:v.ownBlock≠some g):SliceAt w' v k n cs:=
 ⟨hs.1,hs.2.1,hs.2.2.1,hs.2.2.2.imp id fun⟨a,c,hv,hn,hc⟩=>⟨a,c,hv,hn,fun j u hu=>(h.cell' (by rw[block_add];intro e;exact hne (by rw[hv];exact congrArg some e))).trans (hc j u hu)⟩⟩
theorem tT{w:World}{base base':Nat}{e:TypeId}{size n:Nat}{v:Value}{xs:List Value}(h:w.ownsRow base e size v n xs)(hb:base'≤base):w.ownsRow base' e size v n xs:=
 ⟨h.1,h.2.imp id fun⟨g,cap,cur,hv,hg,r⟩=>⟨g,cap,cur,hv,aq1 hb hg,r⟩⟩
def splice(cs:Array Value)(o:Nat):List Value→Array Value
 | []=>cs
 | v::r=>splice (cs.setIfInBounds o v) (o+1) r
theorem wZ(cs:Array Value)(o:Nat)(l:List Value):(splice cs o l).size=cs.size:=by
 induction l generalizing cs o with
 | nil=>rfl
 | cons v r ih=>rw[splice,ih];simp
theorem mw(cs:Array Value)(o:Nat)(l:List Value)(h:o+l.length≤cs.size):(splice cs o l).toList=cs.toList.take o++l++cs.toList.drop (o+l.length):=by
 induction l generalizing cs o with
 | nil=>simp[splice]
 | cons v r ih=>
  simp only[List.length_cons] at h;rw[splice,ih _ _ (by rw[Array.size_setIfInBounds];omega)];rw[Array.toList_setIfInBounds,List.length_cons,List.drop_set_of_lt (by omega),List.take_succ_eq_append_getElem (by rw[List.length_set,Array.length_toList];omega)];rw[List.getElem_set_self,List.take_set_of_le (Nat.le_refl _)];simp only[List.append_assoc,List.cons_append,List.nil_append];rw[show o+1+r.length=o+(r.length+1) by omega]
theorem tF{g:Nat}{t:TypeId}:∀ (l:List Value) (o:Nat) (cs:Array Value) (w:World),Whole w g t cs→wM w (w.setCells g o l) g∧Whole (w.setCells g o l) g t (splice cs o l)
 | [],_,_,w,h=>⟨wM.refl w g,h⟩
 | v::r,o,cs,w,h=>by
  have h1:Whole (w.setCell ⟨g,o,none⟩ v) g t (cs.setIfInBounds o v):=heap_setCell_same w g o cs t v h;have:=tF r (o+1) _ _ h1;exact⟨(wM.cell w g o v).trans this.1,this.2⟩
theorem tS{w:World}{base:Nat}{e:TypeId}{k n:Nat}{v:Value}{cs:List Value}(h:w.ownsRow base e k v n cs)(hn:0<n):
 ∃ g cap cur,v=.slice (some ⟨g,0,none⟩) n cap∧base≤g∧Whole w g e cur∧n≤cap∧cap≤maxLen∧cur.size=cap*k∧cur.toList.take (n*k)=cs:=by
 rcases h.2 with⟨_,rfl⟩|⟨g,cap,cur,hv,hg,hh,h1,h2,h3,h4⟩
 ·omega
 ·exact⟨g,cap,cur,hv,hg,hh,h1,h2,h3,h4⟩
theorem Iu{k:Nat}{xs:List (List Value)}(hx:∀ x∈xs,x.length=k){i:Nat}{x:List Value}(h:xs[i]?=some x)(j:Nat)(hj:j<k):xs.flatten[i*k+j]?=x[j]?:=by
 induction xs generalizing i with
 | nil=>simp at h
 | cons y xs ih=>
  have hy:=hx y (by simp)
  cases i with
  | zero=>
   simp at h;subst h;rw[List.flatten_cons,Nat.zero_mul,Nat.zero_add,aqY (by omega)]
  | succ i=>
   have:=ih (fun z hz=>hx z (by simp[hz])) (i:=i) (by simpa using h);rw[List.flatten_cons,aqZ (by rw[hy,Nat.add_mul];omega),← this];congr 1;rw[hy,Nat.add_mul];omega
section
variable {P:Program}
theorem vD(w:World)(b o:Nat)(ty:TypeId)(v:Value)(ht:w.there b o v.cells.size)(hi:(P.info? ty).map (·.size)=some v.cells.size)(h1:v.cells.toList.all (·.oneCell')=true):
 (storeVar ty ⟨b,o,none⟩ v).run P w=.ok () (w.setCells b o v.cells.toList):=by
 have h:=run_storeVar_mid (P:=P) w b o ty v.cells ht hi (by rw[← Array.all_toList];exact h1);have e:(Value.agg v.cells).cells=v.cells:=rfl;unfold storeVar at h ⊢;rw[e] at h;exact h
theorem Whole.there{w:World}{g:Nat}{t:TypeId}{cs:Array Value}(h:Whole w g t cs)(o n:Nat)(hn:o+n≤cs.size):w.there g o n:=fun j hj=>by
 refine⟨?_,h.frozen _⟩;rw[h.cell,Array.getElem?_eq_getElem (by omega)];rfl
theorem DP{op:Oper}{a:Act}{w:World}{K:Act→World→Prop}{Q:Exit→Act→World→Prop}(ty:TypeId)(x y:Operand)(ho:op.op=.store ty x y)
 (g o:Nat) (v:Value) (hx:a.eval x=.pointer (some ⟨g,o,none⟩)) (hy:a.eval y=v) (t:TypeId) (cs:Array Value) (hw:Whole w g t cs) (hfit:o+v.cells.size≤cs.size)
 (hi:(P.info? ty).map (·.size)=some v.cells.size) (h1:v.cells.toList.all (·.oneCell')=true)
 (h:∀ w',wM w w' g→Whole w' g t (splice cs o v.cells.toList)→K (a.put op.dst undef) w'):op.wp P a w K Q:=by
 unfold Oper.wp execOp;simp only[ho,hx,hy,Instr.storeAt,Instr.sureAddr,aq2,Sem.run_pure,Result.andThen_ok,vD w g o ty v (hw.there o _ hfit) hi h1];have:=tF v.cells.toList o cs w hw;exact h _ this.1 this.2
end
end Go.Proofs.YtdcofoaihmongaaGreat
namespace Go.Proofs.YtdcofoaihmongaaGreat
def upd(L:Nat→Bool)(i:Nat):Nat→Bool:=fun j=>j == i||L j
def lF(P:Program)(ops:Array Oper)(I:(Nat→Bool)→Act→World→Prop):Nat→List Oper→Prop
 | _,[]=>True
 | i,o::r=>(∀ (L:Nat→Bool) (a:Act) (w:World) (Q':Exit→Act→World→Prop),I L a w→L i=false→(∀ e∈o.after.toList,Region.binds .any e=true→L e.on=true) →
  (∀ a w,I (upd L i) a w→Q' .normal a w)→wpList P ops Q' [o] a w)∧lF P ops I (i+1) r
def ordered:Nat→List Oper→Bool
 | _,[]=>true
 | i,o::r=>o.after.toList.all (fun e=>!Region.binds .any e||decide (e.on<i))&&ordered (i+1) r
theorem kS:∀ (k:Nat) (l:List Oper),ordered k l=true→∀ i o,l[i]?=some o→∀ e∈o.after.toList,Region.binds .any e=true→e.on<k+i
 | _,[],_,i,o,h,_,_,_=>by simp at h
 | k,x::r,h,0,o,ho,e,he,hb=>by
  simp only[ordered,aqX,aq3] at h;simp at ho;subst ho;have:=h.1 e he;rw[hb] at this;simpa using this
 | k,x::r,h,i+1,o,ho,e,he,hb=>by
  simp only[ordered,aqX] at h;have:=kS (k+1) r h.2 i o (by simpa using ho) e he hb;omega
theorem GV{P:Program}{ops:Array Oper}{I:(Nat→Bool)→Act→World→Prop}:∀ (k:Nat) (l:List Oper),lF P ops I k l→∀ i o,l[i]?=some o →
 ∀ (L:Nat→Bool) (a:Act) (w:World) (Q':Exit→Act→World→Prop),I L a w→L (k+i)=false→(∀ e∈o.after.toList,Region.binds .any e=true→L e.on=true) →
  (∀ a w,I (upd L (k+i)) a w→Q' .normal a w)→wpList P ops Q' [o] a w
 | _,[],_,i,o,h=>by simp at h
 | k,x::r,h,0,o,ho=>by
  simp at ho;subst ho;exact h.1
 | k,x::r,h,i+1,o,ho=>by
  have:=GV (k+1) r h.2 i o (by simpa using ho)
  rwa [show k+1+i=k+(i+1) by omega] at this
section
variable {P:Program} {ops:Array Oper} {Q:Exit→Act→World→Prop}
theorem BS{listed:Array Bool}(hs:listed.size=ops.size)(fP:∀ (i:Nat) (o:Oper),ops[i]?=some o→∀ e∈o.after.toList,Region.binds .any e=true→e.on<i)(hr:Region.ready .any ops listed=[]):
 ∀ i,i<ops.size→listed.getD i false=true:=by
 intro i
 induction i using Nat.strongRecOn with
 | ind i ih=>
  intro hi;refine Classical.byContradiction fun hn=>?_
  have hm:i∈Region.ready .any ops listed:=mem_ready.2 ⟨by
   rw[aq4,Array.getElem?_eq_getElem (by omega)] at hn ⊢;simpa using hn,ops[i],Array.getElem?_eq_getElem hi,fun e he hb=>ih e.on (fP i _ (Array.getElem?_eq_getElem hi) e (by simpa using he) hb) (Nat.lt_trans (fP i _ (Array.getElem?_eq_getElem hi) e (by simpa using he) hb) hi)⟩
  rw[hr] at hm;cases hm
theorem DR{i:Nat}{o:Oper}{a:Act}{w:World}{K:Act→World→Prop}(ho:ops[i]?=some o)
 (h:∀ Q':Exit→Act→World→Prop,(∀ a w,K a w→Q' .normal a w)→wpList P ops Q' [o] a w):wpOp P ops Q i K a w:=by
 have h1:=h (fun e a w=>match e with|.normal=>K a w|e=>Q e a w) (fun _ _ h=>h);unfold wpOp;rw[ho];simp only[wpList] at h1;dsimp only;split
 ·rename_i hw;rw[if_pos hw] at h1;refine h1.imp (fun h2=>?_) (fun h2=>⟨h2.1,h2.2⟩);unfold Oper.wp at *;generalize (execOp a.eval o).run P w=r at *
  cases r with
  | ok n w'=>
   cases n<;>simp only[Oper.upon] at h2 ⊢<;>first|exact h2|exact Calls.mono h2 (fun e w'' he=>by cases e<;>exact he)
  | halt x w'=>cases x<;>simp only[Oper.upon] at h2 ⊢<;>exact h2
 ·rename_i hw;rw[if_neg hw] at h1;exact h1
theorem OX(I:(Nat→Bool)→Act→World→Prop)(fP:∀ (i:Nat) (o:Oper),ops[i]?=some o→∀ e∈o.after.toList,Region.binds .any e=true→e.on<i)
 (hstep:∀ (i:Nat) (o:Oper),ops[i]?=some o→∀ (L:Nat→Bool) (a:Act) (w:World),I L a w→L i=false→(∀ e∈o.after.toList,Region.binds .any e=true→L e.on=true)→wpOp P ops Q i (I (upd L i)) a w)
 (hend:∀ (L:Nat→Bool) (a:Act) (w:World),I L a w→(∀ i,i<ops.size→L i=true)→Q .normal a w) :
 ∀ (fuel:Nat) (listed:Array Bool) (a:Act) (w:World),listed.size=ops.size→listed.toList.count false≤fuel→I (fun j=>listed.getD j false) a w→wpAny P .any ops Q fuel listed a w:=by
 intro fuel
 induction fuel with
 | zero=>
  intro listed a w hs hc hI
  have hr:Region.ready .any ops listed=[]:=by
   refine List.eq_nil_iff_forall_not_mem.2 fun j hj=>?_
   have h:=mem_ready.1 hj;obtain⟨h0,o,ho,_⟩:=h;have hlt:j<ops.size:=(Array.getElem?_eq_some_iff.1 ho).1
   have hmem:false∈listed.toList:=by
    rw[aq4,Array.getElem?_eq_getElem (by omega)] at h0;simp only[Option.getD_some] at h0;rw[← h0];simp
   have:=List.count_pos_iff.2 hmem;omega
  exact⟨hr,hend _ a w hI (BS hs fP hr)⟩
 | succ fuel ih=>
  intro listed a w hs hc hI;refine⟨fun hr=>hend _ a w hI (BS hs fP hr),fun j hj=>?_⟩;have h:=mem_ready.1 hj;obtain⟨h0,o,ho,ha⟩:=h;have hlt:j<ops.size:=(Array.getElem?_eq_some_iff.1 ho).1;have hjl:j<listed.size:=by omega
  have h0':listed[j]=false:=by
   rw[aq4,Array.getElem?_eq_getElem hjl] at h0;simpa using h0
  refine wpOp_mono (fun a' w' hI'=>ih (listed.setIfInBounds j true) a' w' (by simpa using hs) ?_ ?_) (hstep j o ho _ a w hI ?_ (fun e he hb=>ha e (by simpa using he) hb))
  ·rw[Array.toList_setIfInBounds,List.count_set (by simpa using hjl)]
   have hmem:false∈listed.toList:=by
    rw[← h0'];simp
   have:=List.count_pos_iff.2 hmem;have hb:(listed.toList[j] == false)=true:=by simpa using h0'
   rw[if_pos hb,if_neg (by simp)];omega
  ·have:(fun k=>(listed.setIfInBounds j true).getD k false)=upd (fun k=>listed.getD k false) j:=by
    funext k
    unfold upd;by_cases hk:k=j
    ·subst hk;simp[aq4,hjl]
    ·have:(k == j)=false:=by simpa using hk
     simp only[this,Bool.false_or];rw[aq4,aq4,Array.getElem?_setIfInBounds_ne (Ne.symm hk)]
   rw[this];exact hI'
  ·rw[aq4,Array.getElem?_eq_getElem hjl,Option.getD_some,h0']
theorem jl{id:Nat}{l:List Oper}{a:Act}{w:World}(hm:P.follows .mixedOrders=true)(fP:ordered 0 l=true)(I:(Nat→Bool)→Act→World→Prop)
 (h0:I (fun _=>false) a w.drew) (hstep:lF P l.toArray I 0 l) (hend:∀ (L:Nat→Bool) (a:Act) (w:World),I L a w→(∀ i,i<l.length→L i=true)→Q .normal a w) :
 (Code.region id l.toArray true).wp P Q a w:=by
 refine wp_region_any hm (OX I (fun i o ho e he hb=>?_) (fun i o ho L a w hI hL ha=>?_) (fun L a w hI hL=>hend L a w hI (by simpa using hL)) _ _ a _ (by simp) ?_ ?_)
 ·have:=kS 0 l fP i o (by simpa using ho) e he hb;omega
 ·refine DR ho fun Q' hQ'=>?_
  have:=GV 0 l hstep i o (by simpa using ho) L a w Q' hI (by simpa using hL) ha (by simpa using hQ');exact this
 ·exact aq1 (List.count_le_length ..) (by simp)
 ·have:(fun j=>(Array.replicate l.toArray.size false).getD j false)=fun _=>false:=by
   funext j
   rw[aq4,Array.getElem?_replicate];split<;>rfl
  rw[this];exact h0
end
end Go.Proofs.YtdcofoaihmongaaGreat
namespace Go.Proofs.YtdcofoaihmongaaGreat
open Go.RowKit
structure F6 (slots:List Nat) (aU:List (Value→World→Prop)) (inv:World→Prop) (t:Array Value) (d:List Deferred) (L:Nat→Bool) (a:Act) (w:World):Prop where
 defers:a.defers=d
 inv:inv w
 done:∀ i,L i=true→∀ s g,slots[i]?=some s→aU[i]?=some g→∃ v,a.tmps[s]?=some v∧g v w
 rest:∀ j,slots.contains j=false→a.tmps[j]?=t[j]?
 size:a.tmps.size=t.size
def gN(g:Value→World→Prop):Prop:=∀ v w w',g v w→Below w.heap.size w w'→g v w'
def lE:List (Value→World→Prop)→Prop
 | []=>True
 | g::r=>gN g∧lE r
theorem Dk:∀ {l:List (Value→World→Prop)},lE l→∀ g∈l,gN g
 | [],_,_,h=>by cases h
 | x::r,h,g,hg=>by
  rcases aq5.1 hg with rfl|hg
  ·exact h.1
  ·exact Dk h.2 g hg
def kr(x:Value):Value→World→Prop:=fun v _=>x=v
theorem aZ(x:Value):gN (kr x):=fun _ _ _ h _=>h
theorem kT{l:List Nat}(h:l.Nodup){i j s:Nat}(hi:l[i]?=some s)(hj:l[j]?=some s):i=j:=by
 obtain⟨hi1,hi2⟩:=aq6.1 hi;obtain⟨hj1,hj2⟩:=aq6.1 hj;have hp:=List.pairwise_iff_getElem.1 h;rcases Nat.lt_trichotomy i j with hlt|he|hlt
 ·exact absurd (hi2.trans hj2.symm) (hp i j hi1 hj1 hlt)
 ·exact he
 ·exact absurd (hj2.trans hi2.symm) (hp j i hj1 hi1 hlt)
def Laid(d:List Deferred)(w:World)(a:Act):List (Option Nat)→List (Value→World→Prop)→Array Value→Prop
 | some s::ss,g::gs,t=>∃ u,g u w∧Laid d w a ss gs (t.setIfInBounds s u)
 | none::ss,g::gs,t=>∃ u,g u w∧Laid d w a ss gs t
 | _,_,t=>a=⟨t,d⟩
structure Jt (slots:List (Option Nat)) (aU:List (Value→World→Prop)) (inv:World→Prop) (t:Array Value) (d:List Deferred) (L:Nat→Bool) (a:Act) (w:World):Prop where
 defers:a.defers=d
 inv:inv w
 done:∀ i,L i=true→∀ g,aU[i]?=some g→∃ v,(∀ s,slots[i]?=some (some s)→a.tmps[s]?=some v)∧g v w
 rest:∀ j,slots.contains (some j)=false→a.tmps[j]?=t[j]?
 size:a.tmps.size=t.size
theorem zk{d:List Deferred}{w:World}{a:Act}(hd:a.defers=d):∀ (slots:List (Option Nat)) (aU:List (Value→World→Prop)) (t:Array Value),slots.length=aU.length →
 (∀ (i:Nat) (g:Value→World→Prop),aU[i]?=some g→∃ v,(∀ s,slots[i]?=some (some s)→a.tmps[s]?=some v)∧g v w)→(∀ j,slots.contains (some j)=false→a.tmps[j]?=t[j]?)→a.tmps.size=t.size→Laid d w a slots aU t
 | [],[],t,_,_,hr,_=>by
  show a=⟨t,d⟩;obtain⟨at',ad⟩:=a;have e1:at'=t:=Array.ext_getElem? fun j=>hr j rfl
  have e2:ad=d:=hd;rw[e1,e2]
 | none::ss,g::gs,t,hl,hg,hr,hs=>by
  obtain⟨u,_,hgu⟩:=hg 0 g rfl;refine⟨u,hgu,zk hd ss gs _ (by simpa using hl) (fun i g' h2=>?_) (fun j hj=>hr j ?_) hs⟩
  ·obtain⟨v,h3,h4⟩:=hg (i+1) g' (by simpa using h2);exact⟨v,fun s' h1=>h3 s' (by simpa using h1),h4⟩
  ·simp only[List.contains_cons,hj,Bool.or_false];rfl
 | some s::ss,g::gs,t,hl,hg,hr,hs=>by
  obtain⟨u,hu,hgu⟩:=hg 0 g rfl;have hu:=hu s rfl;refine⟨u,hgu,zk hd ss gs _ (by simpa using hl) (fun i g' h2=>?_) (fun j hj=>?_) (by rw[Array.size_setIfInBounds];exact hs)⟩
  ·obtain⟨v,h3,h4⟩:=hg (i+1) g' (by simpa using h2);exact⟨v,fun s' h1=>h3 s' (by simpa using h1),h4⟩
  ·by_cases h:s=j
   ·subst h;have hlt:s<a.tmps.size:=(Array.getElem?_eq_some_iff.1 hu).1;rw[hu,Array.getElem?_setIfInBounds_self_of_lt (by omega)]
   ·rw[Array.getElem?_setIfInBounds_ne h];refine hr j ?_;have h1:¬ j=s:=fun e=>h e.symm
    simp only[List.contains_cons,hj,Bool.or_false];simpa using h1
 | [],_::_,_,hl,_,_,_=>by simp at hl
 | _::_,[],_,hl,_,_,_=>by simp at hl
theorem Jt.laid{slots:List (Option Nat)}{aU:List (Value→World→Prop)}{inv:World→Prop}{t:Array Value}{d:List Deferred}{L:Nat→Bool}{a:Act}{w:World}(h:Jt slots aU inv t d L a w)(hl:slots.length=aU.length)
 (hL:∀ i,i<slots.length→L i=true):Laid d w a slots aU t:=
 zk h.defers slots aU t hl (fun i g h2=>h.done i (hL i (by rw[hl];exact(aq6.1 h2).1)) g h2) h.rest h.size
theorem Ax{l:List (Option Nat)}(h:(l.filterMap fun x=>x).Nodup):∀ {i j s:Nat},l[i]?=some (some s)→l[j]?=some (some s)→i=j:=by
 induction l with
 | nil=>intro i j s hi;simp at hi
 | cons x l ih=>
  have key:∀ {j s:Nat},x=some s→l[j]?=some (some s)→False:=by
   intro j s hx hj;subst hx;simp only[List.filterMap_cons,List.nodup_cons] at h;exact h.1 (List.mem_filterMap.2 ⟨some s,aq7 hj,rfl⟩)
  have h':(l.filterMap fun x=>x).Nodup:=by
   cases x with
   | none=>simpa[List.filterMap_cons] using h
   | some s=>simp only[List.filterMap_cons,List.nodup_cons] at h;exact h.2
  intro i j s hi hj
  cases i with
  | zero=>
   cases j with
   | zero=>rfl
   | succ j=>exact(key (by simpa using hi) (by simpa using hj)).elim
  | succ i=>
   cases j with
   | zero=>exact(key (by simpa using hj) (by simpa using hi)).elim
   | succ j=>exact congrArg (·+1) (ih h' (by simpa using hi) (by simpa using hj))
theorem Jt.put{slots:List (Option Nat)}{aU:List (Value→World→Prop)}{inv:World→Prop}{t:Array Value}{d:List Deferred}{L:Nat→Bool}{a:Act}{w w':World}{i:Nat}{s:Option Nat}{v:Value}(h:Jt slots aU inv t d L a w)
 (hnd:(slots.filterMap fun x=>x).Nodup) (hbd:slots.all (fun s=>decide (s.getD 0<t.size))=true) (hst:∀ (j:Nat) (g:Value→World→Prop),aU[j]?=some g→j≠i→∀ v,g v w→g v w') {TB:World→Prop} (hinv:TB w') (hs:slots[i]?=some s) (hg:∀ g:Value→World→Prop,aU[i]?=some g→g v w')
 {L':Nat→Bool} (hL:∀ j,L' j=true→j=i∨L j=true):Jt slots aU TB t d L' (a.put s v) w':=by
 cases s with
 | none=>
  refine⟨h.defers,hinv,?_,h.rest,h.size⟩;intro j hj g' hg';by_cases hji:j=i
  ·subst hji;exact⟨v,fun s' hs'=>(by rw[hs] at hs';cases hs'),hg g' hg'⟩
  ·obtain⟨u,hu,hgu⟩:=h.done j ((hL j hj).resolve_left hji) g' hg';exact⟨u,hu,hst j g' hg' hji u hgu⟩
 | some s=>
  refine⟨h.defers,hinv,?_,?_,?_⟩
  ·intro j hj g' hg';by_cases hji:j=i
   ·subst hji;refine⟨v,fun s' hs'=>?_,hg g' hg'⟩;obtain rfl:s=s':=aq8 (aq8 (hs.symm.trans hs'))
    have hlt:s<a.tmps.size:=by
     rw[h.size];have:=aq3.1 hbd (some s) (aq7 hs);simpa using this
    show(a.tmps.setIfInBounds s v)[s]?=some v;rw[Array.getElem?_setIfInBounds_self_of_lt hlt]
   ·obtain⟨u,hu,hgu⟩:=h.done j ((hL j hj).resolve_left hji) g' hg';refine⟨u,fun s' hs'=>?_,hst j g' hg' hji u hgu⟩;have hne:s≠s':=fun e=>hji (Ax hnd (e▸hs') hs)
    show(a.tmps.setIfInBounds s v)[s']?=some u;rw[Array.getElem?_setIfInBounds_ne hne];exact hu s' hs'
  ·intro j hj
   have hne:s≠j:=fun e=>by
    have hm:some j∈slots:=e▸aq7 hs;have:slots.contains (some j)=true:=by simpa using hm
    rw[this] at hj;cases hj
   show(a.tmps.setIfInBounds s v)[j]?=t[j]?;rw[Array.getElem?_setIfInBounds_ne hne];exact h.rest j hj
  ·show(a.tmps.setIfInBounds s v).size=t.size;rw[Array.size_setIfInBounds];exact h.size
def consumed(l:List Oper):Bool:=(List.range (l.length-1)).all fun i=>l.any fun o=>o.after.toList.any fun e=>e.on == i&&Region.binds .any e
theorem Mk{l:List Oper}(fP:ordered 0 l=true)(hc:consumed l=true)(L:Nat→Bool){n:Nat}(hn:l.length=n+1)
 (hcl:∀ j o,l[j]?=some o→j<n→L j=true→∀ e∈o.after.toList,Region.binds .any e=true→L e.on=true) (hlast:∀ o,l[n]?=some o→∀ e∈o.after.toList,Region.binds .any e=true→L e.on=true) :
 ∀ i,i<n→L i=true:=by
 have key:∀ m i,i<n→n-i=m→L i=true:=by
  intro m
  induction m using Nat.strongRecOn with
  | ind m ih=>
   intro i hi hm;have h1:=aq3.1 hc i (by simp;omega);obtain⟨o,ho,h2⟩:=List.any_eq_true.1 h1;obtain⟨e,he,h3⟩:=List.any_eq_true.1 h2;simp only[aqX,beq_iff_eq] at h3;obtain⟨rfl,hb⟩:=h3;obtain⟨j,hj⟩:=List.getElem?_of_mem ho;have hlt:=kS 0 l fP j o hj e he hb;have hjn:j<n+1:=by rw[← hn];exact(aq6.1 hj).1
   by_cases hje:j=n
   ·subst hje;exact hlast o hj e he hb
   ·exact hcl j o hj (by omega) (ih (n-j) (by omega) j (by omega) rfl) e he hb
 exact fun i hi=>key _ i hi rfl
end Go.Proofs.YtdcofoaihmongaaGreat
namespace Go.Proofs.YtdcofoaihmongaaGreat
open Go Go.RowKit
def aG(f:Nat→Int):Nat→Nat→Int
 | 0,_=>0
 | k+1,i=>if f i=0 then aG f k (i+1) else f i
theorem bY(f:Nat→Int)(n:Nat):aG f (n-n) n=0:=by rw[Nat.sub_self];rfl
theorem bZ{f:Nat→Int}{n i:Nat}(h:i<n)(hf:f i≠0):aG f (n-i) i=f i:=by
 obtain⟨k,hk⟩:∃ k,n-i=k+1:=⟨n-i-1,by omega⟩;rw[hk];exact if_neg hf
theorem bG{f:Nat→Int}{n i:Nat}(h:i<n)(hf:f i=0):aG f (n-i) i=aG f (n-(i+1)) (i+1):=by
 obtain⟨k,hk⟩:∃ k,n-i=k+1:=⟨n-i-1,by omega⟩;rw[hk,show n-(i+1)=k by omega];exact if_pos hf
theorem cH{f:Nat→Int}:∀ (k i:Nat),aG f k i=0↔∀ j,i≤j→j<i+k→f j=0
 | 0,i=>⟨fun _ j h1 h2=>by omega,fun _=>rfl⟩
 | k+1,i=>by
  unfold aG;by_cases h:f i=0
  ·rw[if_pos h,cH k (i+1)];constructor
   ·intro g j h1 h2;by_cases e:j=i
    ·subst e;exact h
    ·exact g j (by omega) (by omega)
   ·intro g j h1 h2;exact g j (by omega) (by omega)
  ·rw[if_neg h];exact⟨fun e=>absurd e h,fun g=>absurd (g i (by omega) (by omega)) h⟩
def kV(f:Nat→Int):Nat→Int
 | 0=>0
 | i+1=>max (kV f i) (f i)
theorem vO{f:Nat→Int}{b:Int}(hb:0≤b):∀ n,(∀ i,i<n→f i≤b)→kV f n≤b
 | 0,_=>hb
 | n+1,h=>Int.max_le.2 ⟨vO hb n fun i hi=>h i (by omega),h n (by omega)⟩
theorem jr(f:Nat→Int):∀ n,0≤kV f n
 | 0=>Int.le_refl 0
 | n+1=>Int.le_trans (jr f n) (Int.le_max_left _ _)
def eT(f:Nat→Bool):Nat→Nat→Bool
 | 0,_=>false
 | k+1,i=>f i||eT f k (i+1)
theorem h_(f:Nat→Bool)(n:Nat):eT f (n-n) n=false:=by rw[Nat.sub_self];rfl
theorem dZ{f:Nat→Bool}{n i:Nat}(h:i<n)(hf:f i=true):eT f (n-i) i=true:=by
 obtain⟨k,hk⟩:∃ k,n-i=k+1:=⟨n-i-1,by omega⟩;rw[hk];show(f i||_)=true;rw[hf];rfl
theorem jD{f:Nat→Bool}{n i:Nat}(h:i<n)(hf:f i=false):eT f (n-i) i=eT f (n-(i+1)) (i+1):=by
 obtain⟨k,hk⟩:∃ k,n-i=k+1:=⟨n-i-1,by omega⟩;rw[hk,show n-(i+1)=k by omega];show(f i||_)=_;rw[hf];rfl
theorem rT{f:Nat→Bool}:∀ (k i:Nat),eT f k i=true↔∃ j,i≤j∧j<i+k∧f j=true
 | 0,i=>⟨fun h=>(by cases h),fun⟨j,h1,h2,_⟩=>by omega⟩
 | k+1,i=>by
  show(f i||eT f k (i+1))=true↔_;rw[Bool.or_eq_true,rT k (i+1)];constructor
  ·rintro(h|⟨j,h1,h2,h3⟩)
   ·exact⟨i,by omega,by omega,h⟩
   ·exact⟨j,by omega,by omega,h3⟩
  ·rintro⟨j,h1,h2,h3⟩;by_cases e:j=i
   ·subst e;exact .inl h3
   ·exact .inr ⟨j,by omega,by omega,h3⟩
section
variable {P:Program}
theorem yB(w:World)(g o:Nat)(ty:TypeId)(cs:List Value)(d:TypeDesc)(hc:∀ j u,cs[j]?=some u→w.cell? ⟨g,o+j,none⟩=some u)
 (hu:P.underlying ty=some d) (hd:(match d with|.struct _|.array _ _=>true|_=>false)=true) (hi:(P.info? ty).map (·.size)=some cs.length) :
 (loadVar ty ⟨g,o,none⟩).run P w=.ok (.agg cs.toArray) w:=by
 have hl:(loadCells ⟨g,o,none⟩ cs.length).run P w=.ok cs.toArray w:=
  run_loadCells_list (P:=P) w ⟨g,o,none⟩ cs (fun j v hv=>by
   have hadd:(⟨g,o,none⟩:Addr).add j=⟨g,o+j,none⟩:=by unfold Addr.add;split<;>simp_all
   rw[hadd];exact hc j v hv)
 cases hq:P.info? ty with
 | none=>simp[hq] at hi
 | some i=>
  have hs:i.size=cs.length:=by simpa[hq] using hi
  have hagg:(isAgg ty).run P w=.ok true w:=by
   unfold isAgg;rw[aq2,run_underlying hu w];cases d<;>simp_all
  simp[loadVar,aq2,hagg,sizeOf,typeInfo,hq,hs,hl]
end
theorem F6.laid{slots:List Nat}{aU:List (Value→World→Prop)}{inv:World→Prop}{t:Array Value}{d:List Deferred}{L:Nat→Bool}{a:Act}{w:World}
 (h:F6 slots aU inv t d L a w) (hlen:slots.length=aU.length) (hall:∀ i,i<slots.length→L i=true):Laid d w a (slots.map some) aU t:=by
 refine zk h.defers _ _ _ (by simpa using hlen) (fun i g hg=>?_) (fun j hj=>h.rest j ?_) h.size
 ·have hi:i<slots.length:=by rw[hlen];exact(aq6.1 hg).1
  obtain⟨v,h1,h2⟩:=h.done i (hall i hi) _ g (aq0 hi) hg;refine⟨v,fun s hs=>?_,h2⟩;simp only[aq9,aq0 hi,Option.map_some,Option.some.injEq] at hs;rw[← hs];exact h1
 ·rw[Bool.eq_false_iff] at hj ⊢;intro e;apply hj;rw[List.contains_iff_mem] at e ⊢;exact List.mem_map_of_mem e
def Kq:Array Value→List Nat→List Value→Array Value
 | t,s::ss,v::vs=>Kq (t.setIfInBounds s v) ss vs
 | t,_,_=>t
theorem Dl{d:List Deferred}{w:World}{a:Act}:∀ (slots:List Nat) (vals:List Value) (t:Array Value),slots.length=vals.length→Laid d w a (slots.map some) (vals.map kr) t→a=⟨Kq t slots vals,d⟩
 | [],[],_,_,h=>h
 | s::ss,v::vs,t,hl,h=>by
  obtain⟨u,hu,h⟩:=h;cases hu;exact Dl ss vs _ (by simpa using hl) h
theorem F6.frame{slots:List Nat}{aU:List (Value→World→Prop)}{inv:World→Prop}{t:Array Value}{d:List Deferred}{L:Nat→Bool}{a:Act}{w:World}
 (h:F6 slots aU inv t d L a w) (hall:∀ i,i<slots.length→L i=true) (vals:List Value) (hg:aU=vals.map kr) (hlen:slots.length=vals.length) {t':Array Value} (he:Kq t slots vals=t'):a=⟨t',d⟩:=by
 subst hg he;exact Dl slots vals t hlen (h.laid (by simpa using hlen) hall)
end Go.Proofs.YtdcofoaihmongaaGreat
namespace Go.Proofs.YtdcofoaihmongaaGreat
open Go.RowKit
theorem gL{w w':World}{B base:Nat}{e:TypeId}{size n:Nat}{v:Value}{xs:List Value}(hb:Below B w w')(h:w.ownsRow base e size v n xs)(hB:w.heap.size≤B):w'.ownsRow base e size v n xs:=
 ⟨h.1,h.2.imp id fun⟨g,cap,cur,hv,hg,hh,r⟩=>⟨g,cap,cur,hv,hg,(hb.block g (aq_ (Array.getElem?_eq_some_iff.1 hh).1 hB)).trans hh,r⟩⟩
theorem jE{w:World}{base g:Nat}{e t:TypeId}{size n:Nat}{v:Value}{xs:List Value}{cs:Array Value}(h:w.ownsRow base e size v n xs)(hg:Whole w g t cs)(hne:e≠t):v.ownBlock≠some g:=by
 rcases h.2 with⟨rfl,_⟩|⟨g',cap,cur,rfl,_,hh,_⟩
 ·simp[Value.ownBlock]
 ·intro he;have hgg:g'=g:=by simpa[Value.ownBlock] using he
  subst hgg;unfold Whole at hg;rw[hh] at hg;simp only[Option.some.injEq,Obj.cells.injEq] at hg;exact hne hg.2.1
end Go.Proofs.YtdcofoaihmongaaGreat
namespace Go.Proofs.YtdcofoaihmongaaGreat
open Go Go.RowKit
def At(a:Act)(s:Nat)(v:Value):Prop:=a.tmps[s]?=some v
theorem At.ev{a:Act}{s:Nat}{v:Value}(h:At a s v):a.eval (.tmp s)=v:=by
 unfold At at h;show a.tmps.getD s undef=v;rw[aq4,h];rfl
theorem At.eq{a:Act}{s:Nat}{v u:Value}(h:At a s v)(e:v=u):At a s u:=e▸h
structure Fr (a:Act) (N:Nat):Prop where
 defers:a.defers=[]
 size:a.tmps.size=N
structure Put (a:Act) (s:Nat) (v:Value) (a':Act):Prop where
 now:At a' s v
 old:∀ {j:Nat} {u:Value},(j == s)=false→At a j u→At a' j u
 fr:∀ {N:Nat},Fr a N→Fr a' N
theorem Put.eq{a a':Act}{s:Nat}{v u:Value}(h:Put a s v a')(e:v=u):Put a s u a':=e▸h
theorem pQ{a:Act}{N d:Nat}{v:Value}(hf:Fr a N)(hd:d<N):Put a d v (a.put (some d) v):=by
 refine⟨?_,fun {j u} hj h=>?_,fun {N} h=>⟨h.defers,?_⟩⟩
 ·show(a.tmps.setIfInBounds d v)[d]?=some v;rw[Array.getElem?_setIfInBounds_self_of_lt (by rw[hf.size];exact hd)]
 ·show(a.tmps.setIfInBounds d v)[j]?=some u;have hne:d≠j:=fun e=>by subst e;simp at hj
  rw[Array.getElem?_setIfInBounds_ne hne];exact h
 ·show(a.tmps.setIfInBounds d v).size=N;rw[Array.size_setIfInBounds];exact h.size
section
variable {P:Program} {ops:Array Oper} {Q:Exit→Act→World→Prop} {a:Act} {w w':World} {rest:List Oper} {o:Oper} {v:Value} {d N:Nat}
theorem jF(hg:o.guard=none):Region.wanted o (yielded ops a.tmps)=true:=by simp[Region.wanted,hg]
theorem G_{j s:Nat}{b:Bool}(hg:o.guard=some (j,b))(hj:(ops[j]?).bind (·.dst)=some s)(h:At a s (.bool b)):Region.wanted o (yielded ops a.tmps)=true:=by
 unfold At at h;simp[Region.wanted,hg,yielded,hj,h]
theorem Db{j s:Nat}{b c:Bool}(hg:o.guard=some (j,b))(hj:(ops[j]?).bind (·.dst)=some s)(h:At a s (.bool c))(hne:(c == b)=false):Region.wanted o (yielded ops a.tmps)=false:=by
 unfold At at h;simp only[Region.wanted,hg,yielded,hj,Option.bind_some,h];simpa using hne
theorem PE{j s:Nat}{b:Bool}(hg:o.guard=some (j,b))(hj:(ops[j]?).bind (·.dst)=some s)(h:At a s undef):Region.wanted o (yielded ops a.tmps)=false:=by
 unfold At at h;simp only[Region.wanted,hg,yielded,hj,Option.bind_some,h];simp[undef]
theorem nE(hw:Region.wanted o (yielded ops a.tmps)=true)(hr:(execOp a.eval o).run P w=.ok (.value v) w')(hd:o.dst=some d)(hf:Fr a N)(hN:d<N)
 (next:∀ a',Put a d v a'→wpList P ops Q rest a' w'):wpList P ops Q (o::rest) a w:=
 wpList_step fun K hK=>by
  rw[if_pos hw];unfold Oper.wp;rw[hr,Oper.upon_value,hd];exact hK _ _ (next _ (pQ hf hN))
theorem zL(hw:Region.wanted o (yielded ops a.tmps)=false)(hd:o.dst=some d)(hf:Fr a N)(hN:d<N)
 (next:∀ a',Put a d undef a'→wpList P ops Q rest a' w):wpList P ops Q (o::rest) a w:=
 wpList_skip hw (by rw[hd];exact next _ (pQ hf hN))
theorem VJ(hw:Region.wanted o (yielded ops a.tmps)=true)(hr:(execOp a.eval o).run P w=.ok .skip w')(hd:o.dst=none)(next:wpList P ops Q rest a w'):wpList P ops Q (o::rest) a w:=
 wpList_step fun K hK=>by
  rw[if_pos hw];unfold Oper.wp;rw[hr,Oper.upon_skip,hd];exact hK _ _ next
theorem j_(hw:Region.wanted o (yielded ops a.tmps)=true){f:FuncId}{args:Array Value}(hr:(execOp a.eval o).run P w=.ok (.enter f args) w){R:Value→World→Prop}
 (hc:Calls P f args w fun e w'=>∃ v,e=.returned v∧R v w') (hd:o.dst=some d) (hf:Fr a N) (hN:d<N)
 (next:∀ v a' w',R v w'→Put a d v a'→wpList P ops Q rest a' w'):wpList P ops Q (o::rest) a w:=
 wpList_step fun K hK=>by
  rw[if_pos hw];unfold Oper.wp;rw[hr,Oper.upon_enter];refine hc.mono ?_;rintro e w' ⟨v,rfl,h⟩;show K _ _;rw[hd];exact hK _ _ (next v _ w' h (pQ hf hN))
theorem wH{f:FuncId}{args:Array Value}{v:Value}{R:World→Prop}(h:Calls P f args w fun e w'=>e=.returned v∧R w'):Calls P f args w fun e w'=>∃ u,e=.returned u∧(u=v∧R w'):=
 h.mono fun _ _ ⟨h1,h2⟩=>⟨v,h1,rfl,h2⟩
theorem ef{x:Operand}(ho:o.op=.move x)(hx:a.eval x=v):(execOp a.eval o).run P w=.ok (.value v) w:=by
 unfold execOp;simp only[ho,hx];rfl
theorem ni{x:Operand}(ho:o.op=.assign x)(hx:a.eval x=v):(execOp a.eval o).run P w=.ok (.value v) w:=by
 unfold execOp;simp only[ho,hx];rfl
theorem sI{c x y:Operand}{t:Bool}{u:Value}(ho:o.op=.pick c x y)(hc:a.eval c=.bool t)(hx:a.eval x=v)(hy:a.eval y=u):(execOp a.eval o).run P w=.ok (.value (if t then v else u)) w:=by
 unfold execOp;simp only[ho,hc,hx,hy];cases t<;>rfl
theorem Oq{x:Operand}{ty:TypeId}(ho:o.op=.box ty x)(hx:a.eval x=v):(execOp a.eval o).run P w=.ok (.value (.pointer (some ⟨w.heap.size,0,none⟩))) (w.alloc (.cells v.cells ty)):=by
 unfold execOp;simp only[ho,hx,aq2,Instr.box,newVar,newRow,run_newObj_alloc,Sem.run_pure,Result.andThen_ok]
theorem Sj{ty:TypeId}{z:Value}(hz:(P.info? ty).bind (·.zero)=some z)(w:World):(zeroValue ty).run P w=.ok z w:=by
 unfold zeroValue typeInfo
 cases hi:P.info? ty with
 | none=>rw[hi] at hz;cases hz
 | some i=>
  rw[hi] at hz;have hz':i.zero=some z:=hz;simp[aq2,hi,hz']
theorem uy{ty:TypeId}{z:Value}(ho:o.op=.alloc ty)(hz:(P.info? ty).bind (·.zero)=some z):(execOp a.eval o).run P w=.ok (.value (.pointer (some ⟨w.heap.size,0,none⟩))) (w.alloc (.cells z.cells ty)):=by
 unfold execOp;simp only[ho,Instr.alloc,aq2,Sj hz,Result.andThen_ok,newVar,newRow,run_newObj_alloc,Sem.run_pure]
theorem cM{ty:TypeId}{x:Operand}{p:Addr}{dd:TypeDesc}(ho:o.op=.load ty x)(hx:a.eval x=.pointer (some p))(hu:P.underlying ty=some dd)
 (hd:(match dd with|.struct _|.array _ _=>false|_=>true)=true) (hc:w.cell? p=some v):(execOp a.eval o).run P w=.ok (.value v) w:=by
 have hagg:(isAgg ty).run P w=.ok false w:=by
  unfold isAgg;rw[aq2,run_underlying hu w];cases dd<;>simp_all
 unfold execOp;simp only[ho,hx,Instr.loadAt,Instr.sureAddr,aq2,Sem.run_pure,Result.andThen_ok,loadVar,hagg];simp[run_load,hc]
theorem gu{ty:TypeId}{x:Operand}{g f:Nat}(cs:List Value){dd:TypeDesc}(ho:o.op=.load ty x)(hx:a.eval x=.pointer (some ⟨g,f,none⟩))(hu:P.underlying ty=some dd)
 (hd:(match dd with|.struct _|.array _ _=>true|_=>false)=true) (hi:(P.info? ty).map (·.size)=some cs.length) (hc:∀ j u,cs[j]?=some u→w.cell? ⟨g,f+j,none⟩=some u):(execOp a.eval o).run P w=.ok (.value (.agg cs.toArray)) w:=by
 unfold execOp;simp only[ho,hx,Instr.loadAt,Instr.sureAddr,aq2,Sem.run_pure,Result.andThen_ok,yB w g f ty cs dd hc hu hd hi]
theorem cZ{x:Operand}{p:Addr}(ho:o.op=.nilCheck x)(hx:a.eval x=.pointer (some p)):(execOp a.eval o).run P w=.ok (.value (.pointer (some p))) w:=by
 unfold execOp;simp only[ho,hx];rfl
theorem ku{ty:TypeId}{x:Operand}{f g off:Nat}{fs:Array Field}{fd:Field}{k:Nat}(ho:o.op=.fieldAddr ty x f)(hx:a.eval x=.pointer (some ⟨g,off,none⟩))(hu:P.underlying ty=some (.struct fs))(hf:fs[f]?=some fd)
 (hs:(P.info? fd.type).map (·.size)=some (k+1)):(execOp a.eval o).run P w=.ok (.value (.pointer (some ⟨g,off+fd.offset,none⟩))) w:=by
 have hadd:(⟨g,off,none⟩:Addr).add fd.offset=⟨g,off+fd.offset,none⟩:=by unfold Addr.add;split<;>simp_all
 have hsz:(sizeOf fd.type).run P w=.ok (k+1) w:=by
  cases hq:P.info? fd.type with
  | none=>simp[hq] at hs
  | some i=>
   have hs':i.size=k+1:=by simpa[hq] using hs
   simp[sizeOf,typeInfo,hq,hs',aq2]
 unfold execOp;simp only[ho,hx,Instr.fieldAt,aq2,run_underlying hu w,Result.andThen_ok,hf,Instr.sureAddr,Sem.run_pure,fieldPlace,hsz];simp[hadd]
theorem run_sizeOf{ty:TypeId}{k:Nat}(hs:(P.info? ty).map (·.size)=some k)(w:World):(sizeOf ty).run P w=.ok k w:=by
 cases hq:P.info? ty with
 | none=>simp[hq] at hs
 | some i=>
  have hs':i.size=k:=by simpa[hq] using hs
  simp[sizeOf,typeInfo,hq,hs',aq2]
theorem bT{ty e:TypeId}{x y:Operand}{g off n c i k:Nat}{ik:IntKind}(ho:o.op=.indexAddr ty x y)(hx:a.eval x=.slice (some ⟨g,off,none⟩) n c)(hy:a.eval y=.int ik (i:Int))(hi:i<n)(hu:P.underlying ty=some (.slice e))
 (hs:(P.info? e).map (·.size)=some k):(execOp a.eval o).run P w=.ok (.value (.pointer (some ⟨g,off+i*k,none⟩))) w:=by
 have hadd:(⟨g,off,none⟩:Addr).add (i*k)=⟨g,off+i*k,none⟩:=by unfold Addr.add;split<;>simp_all
 unfold execOp;simp only[ho,hx,hy,Instr.indexAt,asIntOf,aq2,run_underlying hu w,Result.andThen_ok,Sem.run_pure];have h1:(0:Int)≤(i:Int)∧(i:Int)<(n:Int):=by omega
 simp[h1,run_sizeOf hs,hadd]
theorem L5{ty e:TypeId}{x y:Operand}{g off n i k:Nat}{ik:IntKind}(ho:o.op=.indexAddr ty x y)(hx:a.eval x=.pointer (some ⟨g,off,none⟩))(hy:a.eval y=.int ik (i:Int))(hi:i<n)(hu:P.underlying ty=some (.array n e))
 (hs:(P.info? e).map (·.size)=some k):(execOp a.eval o).run P w=.ok (.value (.pointer (some ⟨g,off+i*k,none⟩))) w:=by
 have hadd:(⟨g,off,none⟩:Addr).add (i*k)=⟨g,off+i*k,none⟩:=by unfold Addr.add;split<;>simp_all
 unfold execOp;simp only[ho,hx,hy,Instr.indexAt,asIntOf,aq2,run_underlying hu w,Result.andThen_ok,Sem.run_pure,Instr.sureAddr];have h1:(0:Int)≤(i:Int)∧(i:Int)<(n:Int):=by omega
 simp[h1,run_sizeOf hs,hadd]
theorem sJ{ty:TypeId}{x y:Operand}{s:ByteArray}{i:Nat}{ik:IntKind}(ho:o.op=.index ty x y)(hx:a.eval x=.string s)(hy:a.eval y=.int ik (i:Int))(hi:i<s.size)(hu:P.underlying ty=some .string):
 (execOp a.eval o).run P w=.ok (.value (.int .u8 ((s[i]'hi).toNat:Int))) w:=by
 unfold execOp;simp only[ho,hx,hy,Instr.index,asIntOf,aq2,run_underlying hu w,Result.andThen_ok,Sem.run_pure];simp[hi]
section
variable {ty yt:TypeId} {x y:Operand} {k:IntKind} {m n:Int}
theorem j5(ho:o.op=.binOp .lss ty x y yt)(hx:a.eval x=.int k m)(hy:a.eval y=.int k n):(execOp a.eval o).run P w=.ok (.value (.bool (decide (m<n)))) w:=by
 unfold execOp;simp[ho,hx,hy,eqGuard,binOp,Op.intCmp]
theorem YM(ho:o.op=.binOp .leq ty x y yt)(hx:a.eval x=.int k m)(hy:a.eval y=.int k n):(execOp a.eval o).run P w=.ok (.value (.bool (decide (m≤n)))) w:=by
 unfold execOp;simp[ho,hx,hy,eqGuard,binOp,Op.intCmp]
theorem IG(ho:o.op=.binOp .gtr ty x y yt)(hx:a.eval x=.int k m)(hy:a.eval y=.int k n):(execOp a.eval o).run P w=.ok (.value (.bool (decide (n<m)))) w:=by
 unfold execOp;simp[ho,hx,hy,eqGuard,binOp,Op.intCmp]
theorem Ol(ho:o.op=.binOp .geq ty x y yt)(hx:a.eval x=.int k m)(hy:a.eval y=.int k n):(execOp a.eval o).run P w=.ok (.value (.bool (decide (n≤m)))) w:=by
 unfold execOp;simp[ho,hx,hy,eqGuard,binOp,Op.intCmp]
theorem U1(ho:o.op=.binOp .eql ty x y yt)(hx:a.eval x=.int k m)(hy:a.eval y=.int k n):(execOp a.eval o).run P w=.ok (.value (.bool (decide (m=n)))) w:=by
 unfold execOp;simp[ho,hx,hy,eqGuard,binOp,Op.intCmp];rfl
theorem U0(ho:o.op=.binOp .neq ty x y yt)(hx:a.eval x=.int k m)(hy:a.eval y=.int k n):(execOp a.eval o).run P w=.ok (.value (.bool (!decide (m=n)))) w:=by
 unfold execOp;simp[ho,hx,hy,eqGuard,binOp,Op.intCmp];rfl
theorem fS(ho:o.op=.binOp .add ty x y yt)(hx:a.eval x=.int k m)(hy:a.eval y=.int k n):(execOp a.eval o).run P w=.ok (.value (.int k (k.wrap (m+n)))) w:=by
 unfold execOp;simp[ho,hx,hy,eqGuard,binOp,Op.intArith]
theorem Oj(ho:o.op=.binOp .sub ty x y yt)(hx:a.eval x=.int k m)(hy:a.eval y=.int k n):(execOp a.eval o).run P w=.ok (.value (.int k (k.wrap (m-n)))) w:=by
 unfold execOp;simp[ho,hx,hy,eqGuard,binOp,Op.intArith]
theorem YL(ho:o.op=.binOp .mul ty x y yt)(hx:a.eval x=.int k m)(hy:a.eval y=.int k n):(execOp a.eval o).run P w=.ok (.value (.int k (k.wrap (m*n)))) w:=by
 unfold execOp;simp[ho,hx,hy,eqGuard,binOp,Op.intArith]
theorem U3(ho:o.op=.binOp .and ty x y yt)(hx:a.eval x=.int k m)(hy:a.eval y=.int k n):(execOp a.eval o).run P w=.ok (.value (.int k (k.wrap (BitVec.ofInt k.bits m&&&BitVec.ofInt k.bits n).toNat))) w:=by
 unfold execOp;simp[ho,hx,hy,eqGuard,binOp,Op.intBits]
theorem adY(ho:o.op=.binOp .or ty x y yt)(hx:a.eval x=.int k m)(hy:a.eval y=.int k n):(execOp a.eval o).run P w=.ok (.value (.int k (k.wrap (BitVec.ofInt k.bits m|||BitVec.ofInt k.bits n).toNat))) w:=by
 unfold execOp;simp[ho,hx,hy,eqGuard,binOp,Op.intBits]
theorem adW(ho:o.op=.binOp .xor ty x y yt)(hx:a.eval x=.int k m)(hy:a.eval y=.int k n):(execOp a.eval o).run P w=.ok (.value (.int k (k.wrap (BitVec.ofInt k.bits m ^^^ BitVec.ofInt k.bits n).toNat))) w:=by
 unfold execOp;simp[ho,hx,hy,eqGuard,binOp,Op.intBits]
theorem U2(ho:o.op=.binOp .andNot ty x y yt)(hx:a.eval x=.int k m)(hy:a.eval y=.int k n):(execOp a.eval o).run P w=.ok (.value (.int k (k.wrap (BitVec.ofInt k.bits m&&&~~~ BitVec.ofInt k.bits n).toNat))) w:=by
 unfold execOp;simp[ho,hx,hy,eqGuard,binOp,Op.intBits]
theorem oD{b:Bool}(ho:o.op=.unOp .not ty x)(hx:a.eval x=.bool b):(execOp a.eval o).run P w=.ok (.value (.bool (!b))) w:=by
 unfold execOp;simp[ho,hx,Op.unary]
theorem UZ(ho:o.op=.unOp .neg ty x)(hx:a.eval x=.int k m):(execOp a.eval o).run P w=.ok (.value (.int k (k.wrap (0-m)))) w:=by
 unfold execOp;simp[ho,hx,Op.unary,Op.intArith]
theorem b_{s t:ByteArray}(ho:o.op=.binOp .eql ty x y yt)(hx:a.eval x=.string s)(hy:a.eval y=.string t):(execOp a.eval o).run P w=.ok (.value (.bool (s.toList == t.toList))) w:=by
 unfold execOp;simp[ho,hx,hy,eqGuard,binOp,Op.stringOp]
theorem adZ{s t:ByteArray}(ho:o.op=.binOp .neq ty x y yt)(hx:a.eval x=.string s)(hy:a.eval y=.string t):(execOp a.eval o).run P w=.ok (.value (.bool (!(s.toList == t.toList)))) w:=by
 unfold execOp;simp[ho,hx,hy,eqGuard,binOp,Op.stringOp]
def fQ(s:ByteArray):Bool:=s.toList == (⟨#[]⟩:ByteArray).toList
theorem ad2{s:ByteArray}(ho:o.op=.binOp .eql ty x y yt)(hx:a.eval x=.string s)(hy:a.eval y=.string ⟨#[]⟩):(execOp a.eval o).run P w=.ok (.value (.bool (fQ s))) w:=b_ ho hx hy
end
theorem gA{t e:TypeId}{x:Operand}{g:Option Addr}{n c:Nat}(ho:o.op=.call { callee:=.builtin .len,args:=#[x],argTypes:=#[t] })(hx:a.eval x=.slice g n c)(hu:P.underlying t=some (.slice e)):
 (execOp a.eval o).run P w=.ok (.value (.int .i64 (n:Int))) w:=by
 unfold execOp;simp[ho,hx,resolve,invoke,builtin,Builtin.len_,run_underlying hu,aq2,goInt]
theorem Bv{t:TypeId}{x:Operand}{s:ByteArray}(ho:o.op=.call { callee:=.builtin .len,args:=#[x],argTypes:=#[t] })(hx:a.eval x=.string s)(hu:P.underlying t=some .string):
 (execOp a.eval o).run P w=.ok (.value (.int .i64 (s.size:Int))) w:=by
 unfold execOp;simp[ho,hx,resolve,invoke,builtin,Builtin.len_,run_underlying hu,aq2,goInt]
theorem bO{x:Operand}{i:Nat}{vs:Array Value}(ho:o.op=.extract x i)(hx:a.eval x=.tuple vs)(hi:vs[i]?=some v):(execOp a.eval o).run P w=.ok (.value v) w:=by
 unfold execOp;simp[ho,hx,Instr.extract,hi]
theorem eZ{f:FuncId}{xs:Array Operand}{ts:Array TypeId}{fn:Func}{c:Code}{args:Array Value}(ho:o.op=.call { callee:=.value (.func f),args:=xs,argTypes:=ts })(hf:P.funcs[f]?=some fn) (hn:(fn.name == "runtime.NumGoroutine")=false) (hb:fn.body=some c)
 (ha:xs.map a.eval=args):(execOp a.eval o).run P w=.ok (.enter f args) w:=by
 have h0:fn.body.isNone=false:=by rw[hb];rfl
 unfold execOp;simp only[ho,resolve,ha,Act.eval,Deferred.ofValue,invoke,callFunc,aq2,Sem.run_pure,Result.andThen_ok,run_program,hf,hn,h0];simp
theorem oq{t e:TypeId}{len k:Nat}{parts:Array (Nat×Operand)}{cells:Array Value}{z:Value}(ho:o.op=.buildSlice t len parts)(hu:P.underlying t=some (.slice e))(hs:(P.info? e).map (·.size)=some k)(hz:(P.info? e).bind (·.zero)=some z)
 (hsmall:len*k≤2^24) (hpos:0<len*k) {pv:Array (Nat×Value)} (hp:(parts.map fun(i,x)=>(i,a.eval x))=pv) (h:Instr.fill (fun i=>some (i*k,k)) ((Array.range (len*k)).map (z.cells[·%z.cells.size]!)) pv.toList=some cells) :
 (execOp a.eval o).run P w=.ok (.value (.slice (some ⟨w.heap.size,0,none⟩) len len)) (w.alloc (.cells cells e)):=by
 subst hp
 cases hi:P.info? e with
 | none=>rw[hi] at hz;cases hz
 | some i=>
  rw[hi] at hz hs;have hz':i.zero=some z:=hz;have hs':i.size=k:=by simpa using hs
  subst hs';have:=run_buildSlice (P:=P) w t e len (parts.map fun(i,x)=>(i,a.eval x)) cells i z hu hi hz' (by omega) (by omega) h;unfold execOp;simp only[ho,aq2,this,Result.andThen_ok,Sem.run_pure]
structure New (w w':World) (g:Nat) (ty:TypeId) (cs:Array Value):Prop where
 at_:w.heap.size=g
 eq:w'=w.alloc (.cells cs ty)
theorem New.whole{g:Nat}{ty:TypeId}{cs:Array Value}(h:New w w' g ty cs):Whole w' g ty cs:=by
 rw[h.eq,← h.at_];exact Whole.new w ty cs
theorem New.below{g:Nat}{ty:TypeId}{cs:Array Value}(h:New w w' g ty cs):ara w.heap.size w w':=by
 rw[h.eq];exact(Below.refl _ w).alloc (Nat.le_refl _) _
theorem zM(hw:Region.wanted o (yielded ops a.tmps)=true){ty:TypeId}{cs:Array Value}{f:Nat→Value}(hr:(execOp a.eval o).run P w=.ok (.value (f w.heap.size)) (w.alloc (.cells cs ty)))(hd:o.dst=some d)(hf:Fr a N)(hN:d<N)
 (next:∀ g a' w',New w w' g ty cs→Put a d (f g) a'→wpList P ops Q rest a' w'):wpList P ops Q (o::rest) a w:=
 nE hw hr hd hf hN fun a' p=>next w.heap.size a' _ ⟨rfl,rfl⟩ p
theorem oQ(hw:Region.wanted o (yielded ops a.tmps)=true){ty:TypeId}{x y:Operand}(ho:o.op=.store ty x y){g f:Nat}(hx:a.eval x=.pointer (some ⟨g,f,none⟩))(hy:a.eval y=v){t:TypeId}{cs cs':Array Value}(H:Whole w g t cs)
 {l:List Value} (hl:v.cells.toList=l) (hfit:f+l.length≤cs.size) (hi:(P.info? ty).map (·.size)=some l.length) (h1:l.all (·.oneCell')=true) (hsp:splice cs f l=cs') (hd:o.dst=none)
 (next:∀ w',wM w w' g→Whole w' g t cs'→wpList P ops Q rest a w'):wpList P ops Q (o::rest) a w:=by
 subst hl hsp;have hsz:v.cells.size=v.cells.toList.length:=by simp
 refine wpList_step fun K hK=>?_
 rw[if_pos hw];refine DP ty x y ho g f v hx hy t cs H (by rw[hsz];exact hfit) (by rw[hsz];exact hi) h1 fun w' h2 h3=>?_
 rw[hd];exact hK _ _ (next w' h2 h3)
theorem aaX{ty yt:TypeId}{x y:Operand}{xs ys:Array Value}{b:Bool}(ho:o.op=.binOp .eql ty x y yt)(hx:a.eval x=.agg xs)(hy:a.eval y=.agg ys)(hm:P.eqGuardType P.depth ty=false)
 (hq:(Op.equalIn 10000 ty (.agg xs) (.agg ys)).run P w=.ok b w):(execOp a.eval o).run P w=.ok (.value (.bool b)) w:=by
 unfold execOp;simp[ho,hx,hy,run_eqGuard_agg (hm:=hm),run_eql_struct,hq]
theorem aaU{ty yt:TypeId}{x y:Operand}{xs ys:Array Value}{b:Bool}(ho:o.op=.binOp .neq ty x y yt)(hx:a.eval x=.agg xs)(hy:a.eval y=.agg ys)(hm:P.eqGuardType P.depth ty=false)
 (hq:(Op.equalIn 10000 ty (.agg xs) (.agg ys)).run P w=.ok b w):(execOp a.eval o).run P w=.ok (.value (.bool (!b))) w:=by
 unfold execOp;simp[ho,hx,hy,run_eqGuard_agg (hm:=hm),run_neq_struct,hq]
theorem ux{t:TypeId}{parts:Array (Nat×Operand)}{cells:Array Value}(ho:o.op=.build t parts){pv:Array (Nat×Value)}(hp:(parts.map fun(i,x)=>(i,a.eval x))=pv)(h:P.built t pv.toList=some cells):
 (execOp a.eval o).run P w=.ok (.value (.agg cells)) w:=by
 subst hp;unfold execOp;simp only[ho,aq2,run_build w t _ cells h,Result.andThen_ok,Sem.run_pure]
theorem _root_.Go.RowKit.Below.step{w0 w1 w2:World}{B:Nat}(h:ara B w0 w1)(k:ara w1.heap.size w1 w2)(hB:B≤w1.heap.size):ara B w0 w2:=h.trans (k.mono hB)
end
theorem rE{b:Bool}(h:b=true):¬ b=false:=by rw[h];decide
theorem rD{b:Bool}(h:b=false):¬ b=true:=by rw[h];decide
theorem kI(cs:Array Value)(l:List Value)(h:cs.size=l.length):splice cs 0 l=l.toArray:=by
 apply Array.toList_inj.1;rw[mw _ _ _ (by omega)];simp[List.drop_of_length_le (show cs.toList.length≤l.length by simp[h])]
section
variable {w:World} {a:Act} {g f:Nat} {t:TypeId} {cs:Array Value}
theorem zO{l:List Value}(h:Whole w g t cs)(hl:l=(cs.toList.drop f).take l.length):∀ j u,l[j]?=some u→w.cell? ⟨g,f+j,none⟩=some u:=fun j u hu=>by
 rw[h.cell];have hj:j<l.length:=(aq6.1 hu).1;rw[hl,List.getElem?_take,if_pos hj,List.getElem?_drop] at hu;simpa using hu
theorem pH{b o:Nat}{k l:List Value}(h:∀ j u,k[j]?=some u→w.cell? ⟨b,o+j,none⟩=some u)(hl:l=(k.drop f).take l.length):∀ j u,l[j]?=some u→w.cell? ⟨b,o+f+j,none⟩=some u:=fun j u hu=>by
 have hj:j<l.length:=(aq6.1 hu).1;rw[hl,List.getElem?_take,if_pos hj,List.getElem?_drop] at hu;rw[Nat.add_assoc];exact h _ u hu
variable {x1 x2 x3 x4 x5 x6:Operand} {v1 v2 v3 v4 v5 v6:Value}
theorem args1(h1:a.eval x1=v1):#[x1].map a.eval=#[v1]:=by simp[h1]
theorem args2(h1:a.eval x1=v1)(h2:a.eval x2=v2):#[x1,x2].map a.eval=#[v1,v2]:=by simp[h1,h2]
theorem YQ(h1:a.eval x1=v1)(h2:a.eval x2=v2)(h3:a.eval x3=v3):#[x1,x2,x3].map a.eval=#[v1,v2,v3]:=by simp[h1,h2,h3]
end
theorem wrap_i64{n:Int}(h:-9223372036854775808≤n∧n≤9223372036854775807):IntKind.i64.wrap n=n:=IntWalk.i64_in n h
section
variable {P:Program} {Q:Exit→Act→World→Prop} {a:Act} {w:World}
theorem RU{f:FuncId}{fn:Func}{c:Code}{args:Array Value}{R:Ending→World→Prop}{N:Nat}(hf:P.funcs[f]?=some fn)(hb:fn.body=some c)(hn:fn.ntmps=N)(hN:args.size≤N)
 (h:∀ a,Fr a N→(∀ i v,args[i]?=some v→At a i v)→c.wp P (bodyPost P fn R) a w):Calls P f args w R:=by
 refine calls_of_wp hf hb (h _ ⟨rfl,?_⟩ ?_)
 ·simp;omega
 ·intro i v hv;have hi:i<args.size:=(Array.getElem?_eq_some_iff.1 hv).1;show(args++Array.replicate (fn.ntmps-args.size) undef)[i]?=some v;rw[Array.getElem?_append_left hi];exact hv
theorem ah{id:Nat}{l:List Oper}(h:wpList P l.toArray Q l a w):(Code.region id l.toArray false).wp P Q a w:=wp_region_lit h
theorem RT{fn:Func}{R:Ending→World→Prop}{N s:Nat}{v:Value}(hr:fn.results=#[.tmp s])(hf:Fr a N)(h:At a s v)(hR:R (.returned v) w):bodyPost P fn R .ret a w:=by
 refine⟨hf.defers,v,?_,hR⟩;have he:a.tmps.getD s undef=v:=h.ev;rw[aq4] at he;simp[results,hr,he]
theorem MP{fn:Func}{R:Ending→World→Prop}{N s t:Nat}{v u:Value}(hr:fn.results=#[.tmp s,.tmp t])(hf:Fr a N)(h:At a s v)(k:At a t u)(hR:R (.returned (.tuple #[v,u])) w):bodyPost P fn R .ret a w:=by
 refine⟨hf.defers,_,?_,hR⟩;have he:a.tmps.getD s undef=v:=h.ev;have ke:a.tmps.getD t undef=u:=k.ev;rw[aq4] at he ke;simp[results,hr,he,ke]
theorem VK{fn:Func}{R:Ending→World→Prop}{N s t r:Nat}{v u x:Value}(hr:fn.results=#[.tmp s,.tmp t,.tmp r])(hf:Fr a N)(h:At a s v)(k:At a t u)(l:At a r x)(hR:R (.returned (.tuple #[v,u,x])) w):bodyPost P fn R .ret a w:=by
 refine⟨hf.defers,_,?_,hR⟩;have he:a.tmps.getD s undef=v:=h.ev;have ke:a.tmps.getD t undef=u:=k.ev;have le:a.tmps.getD r undef=x:=l.ev;rw[aq4] at he ke le;simp[results,hr,he,ke,le]
theorem MQ{fn:Func}{R:Ending→World→Prop}{N:Nat}(hr:fn.results=#[])(hf:Fr a N)(hR:R (.returned (.tuple #[])) w):bodyPost P fn R .ret a w:=by
 refine⟨hf.defers,_,?_,hR⟩;simp[results,hr]
theorem Y7{fn:Func}{R:Ending→World→Prop}(h:bodyPost P fn R .ret a w):bodyPost P fn R .normal a w:=h
theorem least{p:Nat→Prop}:∀ n,p n→∃ n,p n∧∀ m,p m→n≤m:=by
 intro n
 induction n using Nat.strongRecOn with
 | _ n ih=>
  intro hn;by_cases h:∃ m,m<n∧p m
  ·obtain⟨m,hm,hp⟩:=h;exact ih m hm hp
  ·exact⟨n,hn,fun m hm=>Nat.le_of_not_lt fun hlt=>h ⟨m,hlt,hm⟩⟩
theorem fH{ι:Type}{c:Code}(I:ι→Act→World→Prop)(μ:ι→Nat)(x:ι)(h0:I x a w)
 (round:∀ x a w,I x a w→c.wp P (Exit.then (fun a' w'=>∃ x',I x' a' w'∧μ x'<μ x) Q) a w):(Code.loop c).wp P Q a w:=by
 classical
 have hex:∀ a w,(∃ x,I x a w)→∃ n,(∃ x,I x a w∧μ x=n)∧∀ m,(∃ x,I x a w∧μ x=m)→n≤m:=fun a w ⟨x,hx⟩=>least (μ x) ⟨x,hx,rfl⟩
 refine wp_loop (fun a w=>∃ x,I x a w) (fun a w=>if h:∃ x,I x a w then Classical.choose (hex a w h) else 0) ⟨x,h0⟩ ?_;intro a w h;obtain⟨⟨x,hx,hm⟩,-⟩:=Classical.choose_spec (hex a w h);refine Code.wp_mono ?_ (round x a w hx);intro e a' w' hq
 cases e with
 | normal=>
  obtain⟨x',hx',hlt⟩:=hq;refine⟨⟨x',hx'⟩,?_⟩;rw[dif_pos ⟨x',hx'⟩,dif_pos h];exact Nat.lt_of_le_of_lt ((Classical.choose_spec (hex a' w' ⟨x',hx'⟩)).2 _ ⟨x',hx',rfl⟩) (by rw[← hm];exact hlt)
 | _=>exact hq
end
abbrev Good:=Value→World→Prop
def cF(P:Program)(ops:Array Oper)(K:Act→World→Prop):List Oper→Act→World→Prop
 | [],a,w=>K a w
 | o::r,a,w=>∀ Q':Exit→Act→World→Prop,(∀ a w,cF P ops K r a w→Q' .normal a w)→wpList P ops Q' [o] a w
structure rO (slots:List Nat) (aU:List Good) (inv:World→Prop) (a0:Act) (N:Nat) (L:Nat→Bool) (a:Act) (w:World):Prop where
 fr:Fr a N
 inv:inv w
 done:∀ i,L i=true→∀ s g,slots[i]?=some s→aU[i]?=some g→∃ v,At a s v∧g v w
 rest:∀ j u,slots.contains j=false→At a0 j u→At a j u
def kN(P:Program)(ops:Array Oper)(slots:List Nat)(aU:List Good)(inv:World→Prop)(a0:Act)(N:Nat):List Oper→List Good→Prop
 | [],_=>True
 | _::_,[]=>False
 | o::r,g::gs=>(∀ (a:Act) (w:World) (Q':Exit→Act→World→Prop),Fr a N→inv w →
  (∀ k,(∃ gr,(⟨k,gr⟩:Edge)∈o.after.toList∧Region.binds .any ⟨k,gr⟩=true)→∀ s g,slots[k]?=some s→aU[k]?=some g→∃ v,At a s v∧g v w) →
  (∀ j u,slots.contains j=false→At a0 j u→At a j u) →
  (∀ v a' w',ara w.heap.size w w'→g v w'→Put a (o.dst.getD 0) v a'→Q' .normal a' w')→wpList P ops Q' [o] a w)∧kN P ops slots aU inv a0 N r gs
theorem EX{P:Program}{ops:Array Oper}{slots:List Nat}{aU:List Good}{inv:World→Prop}{a0:Act}{N:Nat}:∀ (l:List Oper) (gs:List Good),kN P ops slots aU inv a0 N l gs→∀ (i:Nat) (o:Oper),l[i]?=some o →
 (∀ (a:Act) (w:World) (Q':Exit→Act→World→Prop),Fr a N→inv w →
  (∀ k,(∃ gr,(⟨k,gr⟩:Edge)∈o.after.toList∧Region.binds .any ⟨k,gr⟩=true)→∀ s g,slots[k]?=some s→aU[k]?=some g→∃ v,At a s v∧g v w) →
  (∀ j u,slots.contains j=false→At a0 j u→At a j u) →
  (∀ v a' w',ara w.heap.size w w'→(∀ g:Good,gs[i]?=some g→g v w')→Put a (o.dst.getD 0) v a'→Q' .normal a' w')→wpList P ops Q' [o] a w)
 | [],_,_,i,o,h=>by simp at h
 | _::_,[],h,_,_,_=>h.elim
 | x::r,g::gs,h,0,o,ho=>by
  simp at ho;subst ho;exact fun a w Q' h1 h2 h3 h4 h5=>h.1 a w Q' h1 h2 h3 h4 fun v a' w' hb hg hp=>h5 v a' w' hb (fun g' e=>by simp at e;rw[← e];exact hg) hp
 | x::r,g::gs,h,i+1,o,ho=>by
  have:=EX r gs h.2 i o (by simpa using ho);simpa using this
def vu(k:Nat)(l:List Oper):Bool:=(List.range l.length).all fun j=>decide (j<k)||consumed (l.take (j+1))
theorem tU:∀ (k m:Nat) (l:List Oper),ordered k l=true→ordered k (l.take m)=true
 | _,0,_,_=>by simp[ordered]
 | _,_+1,[],_=>by simp[ordered]
 | k,m+1,o::r,h=>by
  simp only[ordered,aqX] at h;simp only[List.take_succ_cons,ordered,aqX];exact⟨h.1,tU (k+1) m r h.2⟩
theorem mg{l:List Oper}(fP:ordered 0 l=true){k:Nat}(ht:vu k l=true)(L:Nat→Bool)(hcl:∀ j o,l[j]?=some o→L j=true→∀ e∈o.after.toList,Region.binds .any e=true→L e.on=true)
 {j:Nat} {o:Oper} (hj:l[j]?=some o) (hk:k≤j) (jJ:∀ e∈o.after.toList,Region.binds .any e=true→L e.on=true):∀ i,i<j→L i=true:=by
 have hlt:=(aq6.1 hj).1
 have hc:consumed (l.take (j+1))=true:=by
  have:=aq3.1 ht j (by simpa using hlt);simp only[Bool.or_eq_true,decide_eq_true_eq] at this;exact this.resolve_left (by omega)
 refine Mk (l:=l.take (j+1)) (tU 0 _ l fP) hc L (n:=j) (by rw[arb];omega) ?_ ?_
 ·intro i o' hi hij hL;rw[List.getElem?_take,if_pos (by omega)] at hi;exact hcl i o' hi hL
 ·intro o' ho';rw[List.getElem?_take,if_pos (by omega)] at ho';obtain rfl:o=o':=aq8 (hj.symm.trans ho');exact jJ
section
variable {P:Program} {Q:Exit→Act→World→Prop}
theorem oP{id:Nat}{l:List Oper}{a:Act}{w:World}{N:Nat}(k:Nat)(slots:List Nat)(aU:List Good)(inv:World→Prop)
 (hm:P.follows .mixedOrders=true) (fP:ordered 0 l=true) (htail:vu k l=true) (jc:(l.take k).map (·.dst)=slots.map some) (hnd:slots.Nodup) (_:slots.all (fun s=>decide (s<N))=true) (_:aU.length=slots.length)
 (hf:Fr a N) (h0:inv w.drew) (hinv:∀ w w',inv w→ara w.heap.size w w'→inv w') (hst:lE aU)
 (hstep:kN P l.toArray slots aU inv a N (l.take k) aU)
 (hend:∀ a' w',rO slots aU inv a N (fun _=>true) a' w'→cF P l.toArray (Q .normal) (l.drop k) a' w'):(Code.region id l.toArray true).wp P Q a w:=by
 have ZV:=Dk hst
 have hk:slots.length=(l.take k).length:=by
  have:=congrArg List.length jc;simpa using this.symm
 have hsl:∀ (i:Nat) (o:Oper),i<k→l[i]?=some o→∃ s,slots[i]?=some s∧o.dst=some s:=fun i o hi ho=>by
  have h:=congrArg (fun x:List (Option Tmp)=>x[i]?) jc;simp only[aq9,List.getElem?_take,if_pos hi,ho,Option.map_some] at h
  cases hs:slots[i]? with
  | none=>rw[hs] at h;cases h
  | some s=>rw[hs] at h;exact⟨s,rfl,aq8 h⟩
 refine jl hm fP (fun L b u=>(∀ j o,l[j]?=some o→L j=true→∀ e∈o.after.toList,Region.binds .any e=true→L e.on=true) ∧
  ((∀ j,k≤j→j<l.length→L j=false)→rO slots aU inv a N L b u) ∧
  (∀ j,k≤j→j<l.length→L j=true→(∀ j',j<j'→j'<l.length→L j'=false)→cF P l.toArray (Q .normal) (l.drop (j+1)) b u)) ?_ ?_ ?_
 ·exact⟨fun _ _ _ h=>(by cases h),fun _=>⟨hf,h0,(fun i h=>(by cases h)),fun _ _ _ h=>h⟩,fun _ _ _ h=>(by cases h)⟩
 ·have key:∀ (i:Nat) (o:Oper),l[i]?=some o→∀ (L:Nat→Bool) (b:Act) (u:World) (Q':Exit→Act→World→Prop),
   ((∀ j o,l[j]?=some o→L j=true→∀ e∈o.after.toList,Region.binds .any e=true→L e.on=true)∧((∀ j,k≤j→j<l.length→L j=false)→rO slots aU inv a N L b u) ∧
     (∀ j,k≤j→j<l.length→L j=true→(∀ j',j<j'→j'<l.length→L j'=false)→cF P l.toArray (Q .normal) (l.drop (j+1)) b u))→L i=false →
   (∀ e∈o.after.toList,Region.binds .any e=true→L e.on=true) →
   (∀ b u,((∀ j o,l[j]?=some o→upd L i j=true→∀ e∈o.after.toList,Region.binds .any e=true→upd L i e.on=true)∧((∀ j,k≤j→j<l.length→upd L i j=false)→rO slots aU inv a N (upd L i) b u) ∧
    (∀ j,k≤j→j<l.length→upd L i j=true→(∀ j',j<j'→j'<l.length→upd L i j'=false)→cF P l.toArray (Q .normal) (l.drop (j+1)) b u))→Q' .normal b u) →
   wpList P l.toArray Q' [o] b u:=by
   intro i o ho L b u Q' ⟨hcl,hpl,Ye⟩ hL hA hK;have hil:=(aq6.1 ho).1;have up:∀ j,L j=true→upd L i j=true:=fun j hj=>by simp[upd,hj]
   have hcl':∀ j o,l[j]?=some o→upd L i j=true→∀ e∈o.after.toList,Region.binds .any e=true→upd L i e.on=true:=by
    intro j o' hj Bb e he hb;by_cases hji:j=i
    ·subst hji;obtain rfl:o=o':=aq8 (ho.symm.trans hj);exact up _ (hA e he hb)
    ·have hne:(j == i)=false:=by simpa using hji
     exact up _ (hcl j o' hj (by simpa[upd,hne] using Bb) e he hb)
   have hno:∀ j,k≤j→j<l.length→i<j→L j=false:=fun j hkj hj hij=>by
    cases hx:L j with
    | false=>rfl
    | true=>
     obtain⟨oj,hoj⟩:∃ oj,l[j]?=some oj:=⟨_,aq0 hj⟩;have:=mg fP htail L hcl hoj hkj (hcl j oj hoj hx) i hij;rw[hL] at this;cases this
   by_cases hik:i<k
   ·have hD:=hpl fun j hkj hj=>hno j hkj hj (by omega)
    obtain⟨s,hs,hd⟩:=hsl i o hik ho;refine EX (l.take k) aU hstep i o (by rw[List.getElem?_take,if_pos hik];exact ho) b u Q' hD.fr hD.inv (fun j ⟨gr,hj,hb⟩ s g hs hg=>hD.done j (hA _ hj hb) s g hs hg) hD.rest ?_;intro v b' u' hb hg hp;rw[hd] at hp;refine hK b' u' ⟨hcl',fun _=>⟨hp.fr hD.fr,hinv _ _ hD.inv hb,?_,?_⟩,?_⟩
    ·intro j hj s' g' hs' hg';by_cases hji:j=i
     ·subst hji;obtain rfl:s=s':=aq8 (hs.symm.trans hs');exact⟨v,hp.now,hg g' hg'⟩
     ·have hne:s'≠s:=fun e=>hji (kT hnd (e▸hs') hs)
      have Bb:L j=true:=by
       have:(j == i)=false:=by simpa using hji
       simpa[upd,this] using hj
      obtain⟨x,hx,hgx⟩:=hD.done j Bb s' g' hs' hg';exact⟨x,hp.old (by simpa using hne) hx,ZV g' (aq7 hg') x u u' hgx hb⟩
    ·intro j x hj hx
     have hne:j≠s:=fun e=>by
      have hm:j∈slots:=e▸aq7 hs;have:slots.contains j=true:=by simpa using hm
      rw[this] at hj;cases hj
     exact hp.old (by simpa using hne) (hD.rest j x hj hx)
    ·intro j hkj hj Bb;have hne:(j == i)=false:=by simp;omega
     have:=hno j hkj hj (by omega);simp[upd,hne,this] at Bb
   ·have hall:=mg fP htail L hcl ho (by omega) hA
    have hT:cF P l.toArray (Q .normal) (l.drop i) b u:=by
     by_cases hik':i=k
     ·subst hik'
      have hD:=hpl fun j hkj hj=>by
       by_cases hji:j=i
       ·rw[hji];exact hL
       ·exact hno j hkj hj (by omega)
      refine hend b u ⟨hD.fr,hD.inv,fun j _ s g hs hg=>hD.done j (hall j ?_) s g hs hg,hD.rest⟩;have:=(aq6.1 hs).1;rw[hk,arb] at this;omega
     ·have:=Ye (i-1) (by omega) (by omega) (hall (i-1) (by omega)) fun j' h1 h2=>by
       by_cases hji:j'=i
       ·rw[hji];exact hL
       ·exact hno j' (by omega) h2 (by omega)
      rwa [show i-1+1=i by omega] at this
    rw[List.drop_eq_getElem_cons hil] at hT
    have ho':l[i]=o:=by
     have:=aq0 hil;rw[ho] at this;exact(aq8 this).symm
    rw[ho'] at hT;refine hT Q' fun b' u' hT'=>hK b' u' ⟨hcl',fun h=>?_,fun j hkj hj Bb hlast=>?_⟩
    ·have:=h i (by omega) hil;simp[upd] at this
    ·by_cases hji:j=i
     ·subst hji;exact hT'
     ·have hne:(j == i)=false:=by simpa using hji
      by_cases hlt:j<i
      ·have:=hlast i hlt hil;simp[upd] at this
      ·have:=hno j hkj hj (by omega);simp[upd,hne,this] at Bb
  have all:∀ (r:List Oper) (m:Nat),(∀ i o,r[i]?=some o→l[m+i]?=some o)→lF P l.toArray (fun L b u=>(∀ j o,l[j]?=some o→L j=true→∀ e∈o.after.toList,Region.binds .any e=true→L e.on=true) ∧
   ((∀ j,k≤j→j<l.length→L j=false)→rO slots aU inv a N L b u) ∧
   (∀ j,k≤j→j<l.length→L j=true→(∀ j',j<j'→j'<l.length→L j'=false)→cF P l.toArray (Q .normal) (l.drop (j+1)) b u)) m r:=by
   intro r
   induction r with
   | nil=>intro m _;trivial
   | cons o r ih=>
    intro m h;refine⟨fun L b u Q' hI hL hA hK=>key m o (h 0 o rfl) L b u Q' hI hL hA hK,ih (m+1) fun i o' ho'=>?_⟩;have:=h (i+1) o' (by simpa using ho')
    rwa [show m+1+i=m+(i+1) by omega]
  exact all l 0 fun i o ho=>by simpa using ho
 ·intro L b u ⟨hcl,hpl,Ye⟩ hall;by_cases hkl:k<l.length
  ·have:=Ye (l.length-1) (by omega) (by omega) (hall _ (by omega)) fun j' h1 h2=>by omega
   rw[show l.length-1+1=l.length by omega,List.drop_length] at this;exact this
  ·have hD:=hpl fun j h1 h2=>by omega
   have:=hend b u ⟨hD.fr,hD.inv,fun j _ s g hs hg=>hD.done j (hall j ?_) s g hs hg,hD.rest⟩
   ·rw[List.drop_of_length_le (by omega)] at this;exact this
   ·have:=(aq6.1 hs).1;rw[hk,arb] at this;omega
end
end Go.Proofs.YtdcofoaihmongaaGreat
namespace Go.Proofs.YtdcofoaihmongaaGreat
open Go Go.ChangeMaps Go.MapKept
open Go.Maps (Keyed)
def aL(w:World)(P:Program)(k:TypeId)(b:Nat)(D:List (Value×Value)):Prop:=
 ∃ es clock,w.heap[b]?=some (.map es clock)∧Stamped es clock∧(es.toList.map fun e=>(e.key,e.val)).Perm D∧∀ p∈D,∃ l,keyOf P k p.1=some l
variable {P:Program} {k:TypeId} {w:World} {b:Nat} {D:List (Value×Value)}
theorem aL.lt(h:aL w P k b D):b<w.heap.size:=by
 obtain⟨es,clock,hb,_⟩:=h;exact(Array.getElem?_eq_some_iff.1 hb).1
theorem aL.kept{w':World}(h:aL w P k b D)(hb:w'.heap[b]?=w.heap[b]?):aL w' P k b D:=by
 obtain⟨es,clock,h1,h2⟩:=h;exact⟨es,clock,hb.trans h1,h2⟩
theorem aL.perm{D':List (Value×Value)}(h:aL w P k b D)(hp:D.Perm D'):aL w P k b D':=by
 obtain⟨es,clock,h1,h2,h3,h4⟩:=h;exact⟨es,clock,h1,h2,h3.trans hp,fun p hq=>h4 p (hp.mem_iff.2 hq)⟩
theorem aL.made(w:World)(P:Program)(k:TypeId):aL (w.alloc (.map #[] 0)) P k w.heap.size []:=
 ⟨#[],0,(MapKept.heap_alloc w _).1,stamped_empty 0,by simp,by simp⟩
theorem aL.keys(h:aL w P k b D):(D.map Prod.fst).Nodup:=by
 obtain⟨es,clock,_,h2,h3,_⟩:=h;have hn:es.toList.Pairwise (fun x y=>x.key≠y.key):=((stamped_iff es clock).1 h2).2.2
 have:((es.toList.map fun e=>(e.key,e.val)).map Prod.fst).Nodup:=by
  rw[List.map_map,List.Nodup,List.pairwise_map];exact hn
 exact(h3.map Prod.fst).nodup_iff.1 this
theorem aL.size(h:aL w P k b D):∃ es clock,w.heap[b]?=some (.map es clock)∧es.size=D.length:=by
 obtain⟨es,clock,h1,_,h3,_⟩:=h;exact⟨es,clock,h1,by simpa using h3.length_eq⟩
theorem rY{α:Type}:∀ (l:List α) (j:Nat) (h:j<l.length),(l[j]::l.eraseIdx j).Perm l
 | x::l,0,_=>List.Perm.refl _
 | x::l,j+1,h=>(List.Perm.swap _ _ _).trans ((rY l j (by simpa using h)).cons x)
theorem aL.find{es:Array MapEntry}(K:Keyed P k)(hp:(es.toList.map fun e=>(e.key,e.val)).Perm D)(hk:∀ p∈D,∃ l,keyOf P k p.1=some l)(w:World){key:Value}{l:Lit}(hkey:keyOf P k key=some l):
 ((Instr.findKey k key es.toList).run P w=.ok none w∧(∀ e∈es.toList,e.key≠key)∧∀ p∈D,p.1≠key) ∨
 ∃ j e,(Instr.findKey k key es.toList).run P w=.ok (some (j,e.val)) w∧es.toList[j]?=some e∧e.key=key∧(key,e.val)∈D:=by
 have hks:∀ e∈es.toList,∃ l,keyOf P k e.key=some l:=fun e he=>hk (e.key,e.val) (hp.mem_iff.1 (ard.2 ⟨e,he,rfl⟩))
 rcases K.find w hkey es.toList hks with⟨h1,h2⟩|⟨j,e,h1,h2,h3⟩
 ·refine Or.inl ⟨h1,h2,fun p hq he=>?_⟩;obtain⟨e,he',rfl⟩:=ard.1 (hp.mem_iff.2 hq);exact h2 e he' he
 ·exact Or.inr ⟨j,e,h1,h2,h3,hp.mem_iff.1 (ard.2 ⟨e,aq7 h2,by rw[h3]⟩)⟩
variable {t e:TypeId}
theorem aL.mZ(c:Bool)(h:aL w P k b D)(K:Keyed P k)(ht:P.underlying t=some (.map k e)){z:Value}(hz:(zeroValue e).run P w=.ok z w){key:Value}{l:Lit}(hkey:keyOf P k key=some l)(hno:∀ p∈D,p.1≠key):
 (Instr.lookup t (.map (some b)) key c).run P w=.ok (if c then .tuple #[z,.bool false] else z) w:=by
 obtain⟨es,clock,hb,hs,hp,hk⟩:=h;rcases aL.find K hp hk w hkey with⟨h1,h2,_⟩|⟨j,e0,h1,h2,h3,h4⟩
 ·simp[Instr.lookup,run_underlying ht,MapKept.run_getObj_map hb,K.check w _ hkey,h1,hz,Result.andThen]
 ·exact absurd rfl (hno _ h4)
theorem aL.qV(c:Bool)(h:aL w P k b D)(K:Keyed P k)(ht:P.underlying t=some (.map k e)){key val:Value}{l:Lit}(hkey:keyOf P k key=some l)(hin:(key,val)∈D):
 (Instr.lookup t (.map (some b)) key c).run P w=.ok (if c then .tuple #[val,.bool true] else val) w:=by
 have hnd:=h.keys;obtain⟨es,clock,hb,hs,hp,hk⟩:=h;rcases aL.find K hp hk w hkey with⟨h1,h2,h5⟩|⟨j,e0,h1,h2,h3,h4⟩
 ·exact absurd rfl (h5 _ hin)
 ·have:e0.val=val:=by
   have:=lQ hnd h4 hin;exact this
  simp[Instr.lookup,run_underlying ht,MapKept.run_getObj_map hb,K.check w _ hkey,h1,this,Result.andThen]
where
 lQ:∀ {D:List (Value×Value)},(D.map Prod.fst).Nodup→∀ {x a b:Value},(x,a)∈D→(x,b)∈D→a=b
 | [],_,_,_,_,h,_=>by cases h
 | p::D,hn,x,a,b,ha,hb=>by
  simp only[List.map_cons,List.nodup_cons] at hn;rcases aq5.1 ha with rfl|ha'
  ·rcases aq5.1 hb with hb'|hb'
   ·exact(congrArg Prod.snd hb').symm
   ·exact absurd (ard.2 ⟨_,hb',rfl⟩) hn.1
  ·rcases aq5.1 hb with rfl|hb'
   ·exact absurd (ard.2 ⟨_,ha',rfl⟩) hn.1
   ·exact lQ hn.2 ha' hb'
theorem aL.Ny(h:aL w P k b D)(K:Keyed P k)(ht:P.underlying t=some (.map k e)){key val:Value}{l:Lit}(hkey:keyOf P k key=some l)(hno:∀ p∈D,p.1≠key):
 ∃ w',(Instr.mapUpdate t (.map (some b)) key val).run P w=.ok () w'∧aL w' P k b ((key,val)::D)∧w.grownBy w' (some b)∧w'.heap.size=w.heap.size:=by
 obtain⟨es,clock,hb,hs,hp,hk⟩:=h;have hsz:es.size=D.length:=by simpa using hp.length_eq
 rcases aL.find K hp hk w hkey with⟨h1,h2,_⟩|⟨j,e0,h1,h2,h3,h4⟩
 ·refine⟨setBlock w b (.map (es.push ⟨key,val,clock⟩) (clock+1)),?_,⟨_,_,heap_setBlock_same hb _,stamped_push hs h2,?_,?_⟩,⟨rfl,rfl,rfl,by simp[setBlock],fun i _ hi=>heap_setBlock_other hb _ (fun e=>hi (by rw[e]))⟩,by simp[setBlock]⟩
  ·simp[Instr.mapUpdate,run_underlying ht,MapKept.run_getObj_map hb,K.check w false hkey,h1,MapKept.run_setObj_map _ hb,Result.andThen,setBlock]
  ·simp only[Array.toList_push,List.map_append,List.map_cons,List.map_nil];exact(List.perm_append_singleton _ _).trans (hp.cons _)
  ·intro p hq;rcases aq5.1 hq with rfl|hq
   ·exact⟨l,hkey⟩
   ·exact hk p hq
 ·exact absurd rfl (hno _ h4)
theorem aL.Nx{old:Value}{R:List (Value×Value)}(h:aL w P k b D)(K:Keyed P k)(ht:P.underlying t=some (.map k e)){key val:Value}{l:Lit}(hkey:keyOf P k key=some l)(hD:D.Perm ((key,old)::R)):
 ∃ w',(Instr.mapUpdate t (.map (some b)) key val).run P w=.ok () w'∧aL w' P k b ((key,val)::R)∧w.grownBy w' (some b)∧w'.heap.size=w.heap.size:=by
 have h':=h.perm hD;have hnd:=h'.keys;obtain⟨es,clock,hb,hs,hp,hk⟩:=h';rcases aL.find K hp hk w hkey with⟨h1,h2,h5⟩|⟨j,e0,h1,h2,h3,h4⟩
 ·exact absurd rfl (h5 (key,old) (by simp))
 ·have hj:es[j]?=some e0:=by simpa using h2
  have hjl:j<es.toList.length:=(aq6.1 h2).1;have hkeyf:∀ e',es[j]?=some e'→({ e' with key:=key,val:=val }:MapEntry).key=e'.key:=fun e' he'=>by rw[hj] at he';cases he';exact h3.symm
  have hlist:(es.modify j (fun e'=>{ e' with key:=key,val:=val })).toList=es.toList.set j { e0 with key:=key,val:=val }:=by rw[Array.toList_modify,modify_eq_set _ _ _ _ h2]
  refine⟨setBlock w b (.map (es.modify j (fun e'=>{ e' with key:=key,val:=val })) clock),?_,⟨_,_,heap_setBlock_same hb _,stamped_modify hs _ _ (fun _ _=>rfl) (fun e' _ he'=>hkeyf e' he'),?_,?_⟩,⟨rfl,rfl,rfl,by simp[setBlock],fun i _ hi=>heap_setBlock_other hb _ (fun e=>hi (by rw[e]))⟩,by simp[setBlock]⟩
  ·simp[Instr.mapUpdate,run_underlying ht,MapKept.run_getObj_map hb,K.check w false hkey,h1,hj,h3,K.stays w hkey,MapKept.run_setObj_map _ hb,Result.andThen,setBlock]
  ·rw[hlist,List.map_set]
   have mL:(es.toList.map fun e=>(e.key,e.val)).Perm ((key,e0.val)::R):=by
    have:e0.val=old:=aL.qV.lQ hnd h4 (by simp);rw[this];exact hp
   have hl:j<(es.toList.map fun e=>(e.key,e.val)).length:=by simpa using hjl
   refine(set_perm _ _ hl _).trans (List.Perm.cons _ ?_)
   have hx:(es.toList.map fun e=>(e.key,e.val))[j]=(key,e0.val):=by
    have:=(aq6.1 h2).2;simp[← h3,this]
   have h6:=(rY _ j hl).trans mL;rw[hx] at h6;exact h6.cons_inv
  ·intro p hq;rcases aq5.1 hq with rfl|hq
   ·exact⟨l,hkey⟩
   ·exact hk p (by simp[hq])
theorem aL.del{ty:TypeId}{old:Value}{R:List (Value×Value)}(h:aL w P k b D)(K:Keyed P k)(ht:P.underlying t=some (.map k e)){key:Value}{l:Lit}(hkey:keyOf P k key=some l)(hD:D.Perm ((key,old)::R)):
 ∃ w',(Builtin.delete_ #[t,k] ty #[.map (some b),key]).run P w=.ok (.tuple #[]) w'∧aL w' P k b R∧w.grownBy w' (some b)∧w'.heap.size=w.heap.size:=by
 have h':=h.perm hD;have hnd:=h'.keys;obtain⟨es,clock,hb,hs,hp,hk⟩:=h';rcases aL.find K hp hk w hkey with⟨h1,h2,h5⟩|⟨j,e0,h1,h2,h3,h4⟩
 ·exact absurd rfl (h5 (key,old) (by simp))
 ·have hjl:j<es.toList.length:=(aq6.1 h2).1;have hjs:j<es.size:=by simpa using hjl
  have hsub:(es.eraseIdxIfInBounds j).toList=es.toList.eraseIdx j:=by
   unfold Array.eraseIdxIfInBounds;rw[dif_pos hjs];simp
  refine⟨setBlock w b (.map (es.eraseIdxIfInBounds j) clock),?_,⟨_,_,heap_setBlock_same hb _,stamped_erase hs j,?_,fun p hq=>hk p (by simp[hq])⟩,⟨rfl,rfl,rfl,by simp[setBlock],fun i _ hi=>heap_setBlock_other hb _ (fun e=>hi (by rw[e]))⟩,by simp[setBlock]⟩
  ·simp[Builtin.delete_,run_underlying ht,MapKept.run_getObj_map hb,K.check w _ hkey,h1,MapKept.run_setObj_map _ hb,Result.andThen,setBlock]
  ·rw[hsub,map_eraseIdx]
   have mL:(es.toList.map fun e=>(e.key,e.val)).Perm ((key,e0.val)::R):=by
    have:e0.val=old:=aL.qV.lQ hnd h4 (by simp);rw[this];exact hp
   have hl:j<(es.toList.map fun e=>(e.key,e.val)).length:=by simpa using hjl
   have hx:(es.toList.map fun e=>(e.key,e.val))[j]=(key,e0.val):=by
    have:=(aq6.1 h2).2;simp[← h3,this]
   have h6:=(rY _ j hl).trans mL;rw[hx] at h6;exact h6.cons_inv
end Go.Proofs.YtdcofoaihmongaaGreat
namespace Go.Proofs.YtdcofoaihmongaaGreat
open Go Go.RowKit
abbrev Slots:=List (Nat×Value)
def look(q:Nat):Slots→Option Value
 | []=>none
 | (s,v)::r=>bif Nat.beq q s then some v else look q r
theorem bB(q s:Nat)(v:Value)(l:Slots):look q ((s,v)::l)=bif (q == s) then some v else look q l:=by
 show(bif Nat.beq q s then some v else look q l)=_
 cases h:q == s with
 | true=>rw[show q=s by simpa using h,Nat.beq_refl]
 | false=>
  have hne:q≠s:=by simpa using h
  rw[show Nat.beq q s=false from by cases hb:Nat.beq q s with|false=>rfl|true=>exact absurd (arf hb) hne]
structure Fs (a:Act) (N:Nat) (l:Slots):Prop where
 fr:Fr a N
 at_:∀ q v,look q l=some v→At a q v
section
variable {a:Act} {N:Nat} {l:Slots}
theorem Fs.g(h:Fs a N l)(q:Nat){v:Value}(hv:look q l=some v):At a q v:=h.at_ q v hv
theorem Fs.e(h:Fs a N l)(q:Nat){v:Value}(hv:look q l=some v):a.eval (.tmp q)=v:=(h.at_ q v hv).ev
theorem Fs.put{a':Act}{d:Nat}{v:Value}(h:Fs a N l)(p:Put a d v a'):Fs a' N ((d,v)::l):=by
 refine⟨p.fr h.fr,fun q u hq=>?_⟩;rw[bB] at hq
 cases e:q == d with
 | true=>
  rw[e] at hq;have hq':v=u:=aq8 hq;have e':q=d:=by simpa using e
  subst hq' e';exact p.now
 | false=>
  rw[e] at hq;exact p.old e (h.at_ q u hq)
theorem Fs.eq(h:Fs a N l)(q:Nat){v u:Value}(hv:look q l=some v)(e:v=u):Fs a N ((q,u)::l):=by
 refine⟨h.fr,fun s x hs=>?_⟩;rw[bB] at hs
 cases he:s == q with
 | true=>
  rw[he] at hs;have hs':u=x:=aq8 hs;have e':s=q:=by simpa using he
  subst hs' e' e;exact h.at_ _ _ hv
 | false=>
  rw[he] at hs;exact h.at_ s x hs
def Sub(l:Slots):Slots→Prop
 | []=>True
 | p::r=>look p.1 l=some p.2∧Sub l r
theorem Fs.sub{l':Slots}(h:Fs a N l)(hs:Sub l l'):Fs a N l':=by
 refine⟨h.fr,?_⟩
 induction l' with
 | nil=>intro q v hq;cases hq
 | cons p r ih=>
  intro q v hq;obtain⟨q0,v0⟩:=p;rw[bB] at hq
  cases e:q == q0 with
  | true=>
   rw[e] at hq;have hq':v0=v:=aq8 hq;have e':q=q0:=by simpa using e
   subst hq' e';exact h.at_ _ _ hs.1
  | false=>
   rw[e] at hq;exact ih hs.2 q v hq
def ens(k:Nat):List Value→Slots
 | []=>[]
 | v::r=>(k,v)::ens (k+1) r
theorem Fs.args{args:Array Value}(hf:Fr a N)(h:∀ i v,args[i]?=some v→At a i v){vs:List Value}(e:args=vs.toArray):Fs a N (ens 0 vs):=by
 refine⟨hf,fun q v hq=>h q v ?_⟩;subst e
 have key:∀ (vs:List Value) (k q:Nat) (v:Value),look q (ens k vs)=some v→k≤q∧vs[q-k]?=some v:=by
  intro vs
  induction vs with
  | nil=>
   intro k q v h;exact absurd h (by simp[look,ens])
  | cons x r ih=>
   intro k q v h;rw[ens,bB] at h
   cases e:q == k with
   | true=>
    rw[e] at h;have e':q=k:=by simpa using e
    subst e';simpa using h
   | false=>
    rw[e] at h;have hne:q≠k:=by simpa using e
    obtain⟨h1,h2⟩:=ih (k+1) q v h;refine⟨by omega,?_⟩;rw[show q-k=(q-(k+1))+1 by omega];simpa using h2
 have:=key vs 0 q v hq;simpa using this.2
end
abbrev Bx:=Nat×TypeId×Array Value
structure Rw where
 v:Value
 e:TypeId
 k:Nat
 n:Nat
 xs:List Value
def jH(D:List (Value×Value)):Array Value:=(D.flatMap fun p=>[p.1,p.2]).toArray
def abj(w:World)(b:Bx):Prop:=Nat.blt b.2.1 9000=false∧∃ D,b.2.2=jH D∧aL w Tryz.prog (b.2.1-9000) b.1 D
def uR(w:World)(b:Bx):Prop:=(Nat.blt b.2.1 9000=true∧Whole w b.1 b.2.1 b.2.2)∨abj w b
theorem uR.lt{w:World}{b:Bx}(h:uR w b):b.1<w.heap.size:=by
 rcases h with⟨_,h⟩|⟨_,D,_,h⟩
 ·exact h.lt
 ·exact h.lt
theorem uR.kept{w w':World}{b:Bx}(h:uR w b)(hb:w'.heap[b.1]?=w.heap[b.1]?):uR w' b:=by
 rcases h with⟨h0,h⟩|⟨h0,D,h1,h⟩
 ·exact .inl ⟨h0,hb.trans h⟩
 ·exact .inr ⟨h0,D,h1,h.kept hb⟩
theorem uR.whole{w:World}{g:Nat}{t:TypeId}{cs:Array Value}(h:uR w (g,t,cs))(ht:Nat.blt t 9000=true):Whole w g t cs:=by
 rcases h with⟨_,h⟩|⟨h0,_⟩
 ·exact h
 ·have h0:Nat.blt t 9000=false:=h0;rw[ht] at h0;cases h0
structure aV (B:Nat) (w0 w:World) (bs:List Bx) (rs:List Rw):Prop where
 below:ara B w0 w
 le:B≤w0.heap.size
 old:∀ g cs,Whole w0 g 52 cs→Whole w g 52 cs
 box:∀ b∈bs,uR w b
 lo:∀ b∈bs,B≤b.1
 nd:(bs.map (·.1)).Nodup
 row:∀ r∈rs,w.ownsRow B r.e r.k r.v r.n r.xs
 far:∀ r∈rs,∀ b∈bs,r.v.ownBlock≠some b.1
 vH:rs.Pairwise fun r s=>r.v.ownBlock=none∨r.v.ownBlock≠s.v.ownBlock
abbrev Mm (w0 w:World) (bs:List Bx) (rs:List Rw):Prop:=aV w0.heap.size w0 w bs rs
section
variable {B:Nat} {w0 w w':World} {bs:List Bx} {rs:List Rw}
@[reducible] def aV.wd(_:aV B w0 w bs rs):World:=w
theorem Mm.start(w:World):Mm w w [] []:=⟨Below.refl _ w,Nat.le_refl _,fun _ _ h=>h,by simp,by simp,by simp,by simp,by simp,.nil⟩
theorem aV.big(M:aV B w0 w bs rs):B≤w.heap.size:=aq1 M.le M.below.size
theorem aV.b(M:aV B w0 w bs rs)(i:Nat){g:Nat}{t:TypeId}{cs:Array Value}(h:bs[i]?=some (g,t,cs))(ht:Nat.blt t 9000=true:=by rfl):Whole w g t cs:=(M.box _ (aq7 h)).whole ht
theorem aV.r(M:aV B w0 w bs rs)(i:Nat){r:Rw}(h:rs[i]?=some r):w.ownsRow B r.e r.k r.v r.n r.xs:=M.row _ (aq7 h)
theorem aV.keep(M:aV B w0 w bs rs)(hb:ara w.heap.size w w'):aV B w0 w' bs rs:=
 ⟨M.below.step hb M.big,M.le,fun g cs h=>Whole.under hb (M.old g cs h) (M.old g cs h).lt,fun b h=>(M.box b h).kept (hb.block _ (M.box b h).lt),M.lo,M.nd,fun r h=>gL hb (M.row r h) (Nat.le_refl _),M.far,M.vH⟩
theorem aV.new(M:aV B w0 w bs rs){g:Nat}{t:TypeId}{cs:Array Value}(n:New w w' g t cs)(ht:Nat.blt t 9000=true:=by rfl):aV B w0 w' ((g,t,cs)::bs) rs:=by
 have M':=M.keep n.below;have hlt:∀ b∈bs,b.1<g:=fun b h=>n.at_▸(M.box b h).lt
 refine⟨M'.below,M'.le,M'.old,?_,?_,?_,M'.row,?_,M.vH⟩
 ·intro b hb;rcases aq5.1 hb with rfl|hb
  ·exact .inl ⟨ht,n.whole⟩
  ·exact M'.box b hb
 ·intro b hb;rcases aq5.1 hb with rfl|hb
  ·exact n.at_▸M.big
  ·exact M.lo b hb
 ·rw[List.map_cons,List.nodup_cons];refine⟨fun h=>?_,M.nd⟩;obtain⟨b,hb,e⟩:=ard.1 h;have:=hlt b hb;simp only at e;omega
 ·intro r hr b hb;rcases aq5.1 hb with rfl|hb
  ·intro e;have:=((M.row r hr).lt g e).2;rw[← n.at_] at this;omega
  ·exact M.far r hr b hb
theorem aV.sto(M:aV B w0 w bs rs)(i:Nat){g:Nat}{t:TypeId}{cs cs':Array Value}(h:bs[i]?=some (g,t,cs))(s:wM w w' g)(h':Whole w' g t cs')(ht:Nat.blt t 9000=true:=by rfl)(hw:Nat.beq t 52=false∨w0.heap.size≤B:=by first|exact .inl rfl|exact .inr (Nat.le_refl _)):aV B w0 w' (bs.set i (g,t,cs')) rs:=by
 have hi:=(aq6.1 h).1;have hm:=aq7 h
 have hmap:(bs.set i (g,t,cs')).map (·.1)=bs.map (·.1):=by
  refine List.ext_getElem? fun j=>?_
  rw[aq9,aq9,List.getElem?_set];by_cases e:i=j
  ·subst e;simp[hi,(aq6.1 h).2]
  ·simp[e]
 have T4:∀ b∈bs.set i (g,t,cs'),∃ b'∈bs,b'.1=b.1:=fun b hb=>by
  rcases List.mem_or_eq_of_mem_set hb with hb|rfl
  ·exact⟨b,hb,rfl⟩
  ·exact⟨_,hm,rfl⟩
 refine⟨M.below.trans (s.below (M.lo _ hm)),M.le,fun g' cs'' h2=>s.whole (M.old g' cs'' h2) ?_,?_,?_,by rw[hmap];exact M.nd,?_,?_,M.vH⟩
 ·intro e;rcases hw with hw|hw
  ·subst e;have h3:w.heap[g']?=some (.cells cs'' 52 (0,0)):=M.old g' cs'' h2;have h4:w.heap[g']?=some (.cells cs t (0,0)):=(M.box _ hm).whole ht;rw[h3] at h4;have h5:(52:Nat)=t:=by injection h4 with h4;injection h4
   rw[← h5] at hw;cases hw
  ·have h3:=h2.lt;have h4:=M.lo _ hm;simp only at h4;omega
 ·intro b hb;obtain⟨j,hj⟩:=List.getElem?_of_mem hb;rw[List.getElem?_set] at hj;by_cases e:i=j
  ·subst e;rw[if_pos rfl,if_pos hi] at hj;obtain rfl:=aq8 hj;exact .inl ⟨ht,h'⟩
  ·rw[if_neg e] at hj;refine(M.box b (aq7 hj)).kept (s.block _ fun e'=>e ?_);have h1:(bs.map (·.1))[i]?=some g:=by rw[aq9,h];rfl
   have h2:(bs.map (·.1))[j]?=some g:=by rw[aq9,hj];simp[e']
   exact kT M.nd h1 h2
 ·intro b hb;obtain⟨b',hb',e⟩:=T4 b hb;rw[← e];exact M.lo b' hb'
 ·intro r hr;exact s.own (M.row r hr) (M.far r hr _ hm)
 ·intro r hr b hb;obtain⟨b',hb',e⟩:=T4 b hb;rw[← e];exact M.far r hr b' hb'
theorem aV.grow(M:aV B w0 w bs rs)(i:Nat){r:Rw}(h:rs[i]?=some r){v':Value}{n':Nat}{xs':List Value}(ho:w'.ownsRow B r.e r.k v' n' xs')(hg:w.grownBy w' r.v.ownBlock)
 (hv:v'.ownBlock=r.v.ownBlock∨v'.ownBlock=none∨∃ g,v'.ownBlock=some g∧w.heap.size≤g) (hw:Nat.beq r.e 52=false∨w0.heap.size≤B:=by first|exact .inl rfl|exact .inr (Nat.le_refl _)):aV B w0 w' bs (rs.set i { r with v:=v',n:=n',xs:=xs' }):=by
 have hi:=(aq6.1 h).1;have hm:=aq7 h;refine⟨M.below.grown hg M.big (fun q hq=>((M.row r hm).lt q hq).1),M.le,fun g cs h2=>(M.old g cs h2).grown hg ?_,?_,M.lo,M.nd,?_,?_,?_⟩
 ·rcases hw with hw|hw
  ·exact fun e=>jE (M.row r hm) (M.old g cs h2) (fun e2=>by rw[e2] at hw;cases hw) e.symm
  ·intro e;have h3:=h2.lt;have h4:=((M.row r hm).lt g e.symm).1;omega
 ·intro b hb;exact(M.box b hb).kept (hg.block _ (M.box b hb).lt fun e=>M.far r hm b hb e.symm)
 ·intro s hs;obtain⟨j,hj⟩:=List.getElem?_of_mem hs;rw[List.getElem?_set] at hj;by_cases e:i=j
  ·subst e;rw[if_pos rfl,if_pos hi] at hj;obtain rfl:=aq8 hj;exact ho
  ·rw[if_neg e] at hj;have iN:=aq7 hj;refine(M.row s iN).kept hg ?_;have hp:=List.pairwise_iff_getElem.1 M.vH;have hjl:=(aq6.1 hj).1;have e1:rs[i]=r:=(aq6.1 h).2;have e2:rs[j]=s:=(aq6.1 hj).2;rcases Nat.lt_or_gt_of_ne e with hlt|hgt
   ·rcases hp i j hi hjl hlt with h0|h0
    ·rw[e1] at h0;rw[h0]
     cases hso:s.v.ownBlock with
     | none=>exact .inl rfl
     | some q=>exact .inr (by simp)
    ·rw[e1,e2] at h0;exact .inr fun e3=>h0 e3.symm
   ·rcases hp j i hjl hi hgt with h0|h0
    ·rw[e2] at h0;exact .inl h0
    ·rw[e1,e2] at h0;exact .inr h0
 ·intro s hs b hb;rcases List.mem_or_eq_of_mem_set hs with hs|rfl
  ·exact M.far s hs b hb
  ·rcases hv with e|e|⟨g,e,hge⟩
   ·show v'.ownBlock≠_;rw[e];exact M.far r hm b hb
   ·show v'.ownBlock≠_;rw[e];simp
   ·show v'.ownBlock≠_;rw[e];intro e';have:=(M.box b hb).lt;have e2:g=b.1:=aq8 e';omega
 ·rw[List.pairwise_iff_getElem];intro j k hj hk hjk;rw[List.length_set] at hj hk;have hp:=List.pairwise_iff_getElem.1 M.vH j k hj hk hjk;have e1:rs[i]=r:=(aq6.1 h).2;simp only[List.getElem_set];by_cases ej:i=j
  ·subst ej;have ek:¬ i=k:=by omega
   simp only[if_true,if_neg ek];rcases hv with e|e|⟨g,e,hge⟩
   ·rw[e];rw[e1] at hp;exact hp
   ·exact .inl e
   ·refine .inr ?_;rw[e];intro e';have:=((M.row _ (List.getElem_mem hk)).lt g e'.symm).2;omega
  ·by_cases ek:i=k
   ·subst ek;simp only[if_neg ej,if_true];rcases hv with e|e|⟨g,e,hge⟩
    ·rw[e];rw[e1] at hp;exact hp
    ·rw[e]
     cases hso:rs[j].v.ownBlock with
     | none=>exact .inl rfl
     | some q=>exact .inr (by simp)
    ·rw[e];refine .inr fun e'=>?_
     have:=((M.row _ (List.getElem_mem hj)).lt g e').2;omega
   ·simp only[if_neg ej,if_neg ek];exact hp
theorem aV.Ml(M:aV B w0 w bs rs){r:Rw}(ho:w.ownsRow B r.e r.k r.v r.n r.xs)(hf:∀ b∈bs,r.v.ownBlock≠some b.1)(hr:∀ s∈rs,r.v.ownBlock=none∨r.v.ownBlock≠s.v.ownBlock):aV B w0 w bs (r::rs):=by
 refine⟨M.below,M.le,M.old,M.box,M.lo,M.nd,?_,?_,List.pairwise_cons.2 ⟨hr,M.vH⟩⟩
 ·intro s hs;rcases aq5.1 hs with rfl|hs
  ·exact ho
  ·exact M.row s hs
 ·intro s hs b hb;rcases aq5.1 hs with rfl|hs
  ·exact hf b hb
  ·exact M.far s hs b hb
theorem aV.cL(M:aV B w0 w bs rs)(e:TypeId)(k:Nat):aV B w0 w bs (⟨.slice none 0 0,e,k,0,[]⟩::rs):=
 M.Ml (World.ownsRow_nil _ _ _ _) (fun _ _=>by simp[Value.ownBlock]) (fun _ _=>.inl rfl)
theorem aV.ED(M:aV B w0 w bs rs)(hb:ara w.heap.size w w'){r:Rw}(ho:w'.ownsRow w.heap.size r.e r.k r.v r.n r.xs):aV B w0 w' bs (r::rs):=by
 refine(M.keep hb).Ml (tT ho M.big) ?_ ?_
 ·intro b hb' e;have:=(ho.lt _ e).1;have:=(M.box b hb').lt;omega
 ·intro s hs
  cases hso:r.v.ownBlock with
  | none=>exact .inl rfl
  | some q=>
   refine .inr fun e=>?_
   have h1:=(ho.lt q hso).1;have h2:=((M.row s hs).lt q (by rw[← e])).2;omega
theorem aV.FT{g:Nat}{t:TypeId}{cs:Array Value}(M:aV B w0 w ((g,t,cs)::bs) rs)(k n:Nat)(hn:n≤maxLen)(hs:cs.size=n*k)(ht:Nat.blt t 9000=true:=by rfl):aV B w0 w bs (⟨.slice (some ⟨g,0,none⟩) n n,t,k,n,cs.toList⟩::rs):=by
 have hw:=(M.box _ (arh ..)).whole ht;have hnd:=List.nodup_cons.1 (show(g::bs.map (·.1)).Nodup from M.nd);have M1:aV B w0 w bs rs:=⟨M.below,M.le,M.old,fun b hb=>M.box b (ari _ hb),fun b hb=>M.lo b (ari _ hb),hnd.2,M.row,fun r hr b hb=>M.far r hr b (ari _ hb),M.vH⟩;refine M1.Ml ⟨by simp[hs],.inr ⟨g,n,cs,rfl,M.lo _ (arh ..),hw,Nat.le_refl _,hn,hs,by rw[List.take_of_length_le (by simp[hs])]⟩⟩ ?_ ?_
 ·intro b hb e;refine hnd.1 (ard.2 ⟨b,hb,?_⟩);have e2:g=b.1:=by simpa[Value.ownBlock] using e
  exact e2.symm
 ·intro s hs';refine .inr fun e=>M.far s hs' _ (arh ..) ?_
  show s.v.ownBlock=some g;rw[← e];rfl
theorem aV.cast(M:aV B w0 w bs rs){bs':List Bx}{rs':List Rw}(hb:bs=bs')(hr:rs=rs'):aV B w0 w bs' rs':=hb▸hr▸M
theorem aV.only(M:aV B w0 w bs rs){bs':List Bx}{rs':List Rw}(hb:bs'.Sublist bs)(hr:rs'.Sublist rs):aV B w0 w bs' rs':=
 ⟨M.below,M.le,M.old,fun b h=>M.box b (hb.subset h),fun b h=>M.lo b (hb.subset h),(hb.map _).nodup M.nd,fun r h=>M.row r (hr.subset h),fun r h b h'=>M.far r (hr.subset h) b (hb.subset h'),M.vH.sublist hr⟩
end
theorem aV.Ec{B:Nat}{w0 w:World}{bs:List Bx}{rs:List Rw}(M:aV B w0 w bs rs):aV B w w bs rs:=⟨Below.refl _ _,M.big,fun _ _ h=>h,M.box,M.lo,M.nd,M.row,M.far,M.vH⟩
theorem aV.comp{B:Nat}{w0 w w':World}{bs bs':List Bx}{rs rs':List Rw}(M:aV B w0 w bs rs)(M':aV B w w' bs' rs'):aV B w0 w' bs' rs':=
 ⟨M.below.trans M'.below,M.le,fun g cs h=>M'.old g cs (M.old g cs h),M'.box,M'.lo,M'.nd,M'.row,M'.far,M'.vH⟩
theorem FV{P:Program}(w:World)(base:Nat)(t ty e:TypeId)(i:TypeInfo)(z:Value)(ht:P.underlying t=some (.slice e))(hi:P.info? e=some i)(hz:i.zero=some z)
 (hzs:z.cells.size=i.size) (hsz:0<i.size) (v:Value) (n:Nat) (xs:List Value) (hown:w.ownsRow base e i.size v n xs)
 (a:Addr) (m c:Nat) (news:List Value) (hl:news.length=m*i.size) (hnews:∀ j u,news[j]?=some u→w.cell? (a.add j)=some u) (h1:∀ u∈news,u.oneCell'=true)
 (h63:n+m≤maxLen) (hbytes:(n+m)*i.bytes≤140737488355328) {v':Value} {w':World} (hr:(Builtin.append_ #[t,t] ty #[v,.slice (some a) m c]).run P w=.ok v' w') :
 v'.ownBlock=v.ownBlock∨v'.ownBlock=none∨∃ g,v'.ownBlock=some g∧w.heap.size≤g:=by
 have hsmall:n+m≤9223372036854775807:=by simp only[maxLen] at h63;omega
 rcases hown.2 with⟨rfl,rfl⟩|⟨g,cap,cur,rfl,hbg,hg,hnc,hcm,hcs,htake⟩
 ·have hx:xs=[]:=List.eq_nil_of_length_eq_zero (by simpa using hown.1);subst hx;obtain⟨v2,w2,Qf,h2,-,-⟩:=run_append_own (P:=P) w w.heap.size t ty e i z i.size i.bytes ht hi hz rfl rfl hzs hsz _ 0 [] (World.ownsRow_nil _ _ _ _) a m c news hl hnews h1 h63 hbytes (Nat.le_refl _);rw[hr] at Qf;injection Qf with e1 e2;subst e1 e2
  cases hb:v'.ownBlock with
  | none=>exact .inr (.inl rfl)
  | some g=>exact .inr (.inr ⟨g,rfl,(h2.lt g hb).1⟩)
 ·by_cases hroom:n+m≤cap
  ·have hfit:n*i.size+news.length≤cur.size:=by rw[hl,hcs,← Nat.add_mul];exact Nat.mul_le_mul_right _ hroom
   have Qf:=run_append_room (P:=P) w t ty e i ht hi g n cap cur hg a m c news hl hnews h1 hroom hfit;rw[hr] at Qf;injection Qf with e1 e2;subst e1;exact .inl rfl
  ·have holds:∀ j u,xs[j]?=some u→w.cell? ((⟨g,0,none⟩:Addr).add j)=some u:=hown.cells (g:=g) rfl;have Qf:=run_append_grow (P:=P) w t ty e i z ht hi hz ⟨g,0,none⟩ n cap xs hown.1 holds a m c news hl hnews (by omega) (by omega) (growslice_fits (by omega) hbytes);rw[hr] at Qf;injection Qf with e1 e2;subst e1;exact .inr (.inr ⟨w.heap.size,rfl,Nat.le_refl _⟩)
section
variable {P:Program} {ops:Array Oper} {Q:Exit→Act→World→Prop} {a:Act} {B:Nat} {w0 w w':World} {rest:List Oper} {o:Oper} {v:Value} {d N:Nat} {l:Slots} {bs:List Bx} {rs:List Rw}
theorem on(hg:o.guard=none):Region.wanted o (yielded ops a.tmps)=true:=jF hg
theorem gn{j s:Nat}{b:Bool}(hg:o.guard=some (j,b))(hj:(ops[j]?).bind (·.dst)=some s)(h:At a s (.bool b)):Region.wanted o (yielded ops a.tmps)=true:=G_ hg hj h
theorem kv(hw:Region.wanted o (yielded ops a.tmps)=true)(hr:(execOp a.eval o).run P w=.ok (.value v) w)(hd:o.dst=some d)(F:Fs a N l)(hN:Nat.blt d N=true)
 (next:∀ a',Fs a' N ((d,v)::l)→wpList P ops Q rest a' w):wpList P ops Q (o::rest) a w:=
 nE hw hr hd F.fr (by simpa using hN) fun a' p=>next a' (F.put p)
theorem ke(hw:Region.wanted o (yielded ops a.tmps)=true)(hr:(execOp a.eval o).run P w=.ok (.value v) w)(hd:o.dst=some d)(F:Fs a N l)(hN:Nat.blt d N=true){u:Value}(e:v=u)
 (next:∀ a',Fs a' N ((d,u)::l)→wpList P ops Q rest a' w):wpList P ops Q (o::rest) a w:=
 kv hw hr hd F hN fun a' F'=>next a' (e▸F')
theorem ko(hd:o.dst=some d){j s:Nat}{b c:Bool}(hg:o.guard=some (j,b))(hj:(ops[j]?).bind (·.dst)=some s)(h:At a s (.bool c))(hne:(c == b)=false)(F:Fs a N l)(hN:Nat.blt d N=true)
 (next:∀ a',Fs a' N ((d,undef)::l)→wpList P ops Q rest a' w):wpList P ops Q (o::rest) a w:=
 zL (Db hg hj h hne) hd F.fr (by simpa using hN) fun a' p=>next a' (F.put p)
theorem kn(hw:Region.wanted o (yielded ops a.tmps)=true){ty:TypeId}{cs:Array Value}{f:Nat→Value}(hr:(execOp a.eval o).run P w=.ok (.value (f w.heap.size)) (w.alloc (.cells cs ty)))(hd:o.dst=some d)(F:Fs a N l)(hN:Nat.blt d N=true)(M:aV B w0 w bs rs)
 (next:∀ g a' w',Fs a' N ((d,f g)::l)→aV B w0 w' ((g,ty,cs)::bs) rs→wpList P ops Q rest a' w') (ht:Nat.blt ty 9000=true:=by rfl):wpList P ops Q (o::rest) a w:=
 zM hw hr hd F.fr (by simpa using hN) fun g a' w' n p=>next g a' w' (F.put p) (M.new n ht)
theorem kb(hw:Region.wanted o (yielded ops a.tmps)=true){ty:TypeId}{x:Operand}(ho:o.op=.box ty x)(hx:a.eval x=v){cs:Array Value}(hc:v.cells=cs)(hd:o.dst=some d)(F:Fs a N l)(hN:Nat.blt d N=true)(M:aV B w0 w bs rs)
 (next:∀ g a' w',Fs a' N ((d,.pointer (some ⟨g,0,none⟩))::l)→aV B w0 w' ((g,ty,cs)::bs) rs→wpList P ops Q rest a' w') (ht:Nat.blt ty 9000=true:=by rfl):wpList P ops Q (o::rest) a w:=
 kn (f:=fun n=>.pointer (some ⟨n,0,none⟩)) hw (hc▸Oq ho hx) hd F hN M next ht
theorem ka(hw:Region.wanted o (yielded ops a.tmps)=true){ty:TypeId}{z:Value}(ho:o.op=.alloc ty)(hz:(P.info? ty).bind (·.zero)=some z){cs:Array Value}(hc:z.cells=cs)(hd:o.dst=some d)(F:Fs a N l)(hN:Nat.blt d N=true)(M:aV B w0 w bs rs)
 (next:∀ g a' w',Fs a' N ((d,.pointer (some ⟨g,0,none⟩))::l)→aV B w0 w' ((g,ty,cs)::bs) rs→wpList P ops Q rest a' w') (ht:Nat.blt ty 9000=true:=by rfl):wpList P ops Q (o::rest) a w:=
 kn (f:=fun n=>.pointer (some ⟨n,0,none⟩)) hw (hc▸uy ho hz) hd F hN M next ht
theorem kl(hw:Region.wanted o (yielded ops a.tmps)=true){t e:TypeId}{len k:Nat}{parts:Array (Nat×Operand)}{cells:Array Value}{z:Value}(ho:o.op=.buildSlice t len parts)(hu:P.underlying t=some (.slice e))(hs:(P.info? e).map (·.size)=some k)(hz:(P.info? e).bind (·.zero)=some z)
 (iN:(decide (len*k≤2^24)&&decide (0<len*k))=true) {pv:Array (Nat×Value)} (hp:(parts.map fun(i,x)=>(i,a.eval x))=pv) (h:Instr.fill (fun i=>some (i*k,k)) ((Array.range (len*k)).map (z.cells[·%z.cells.size]!)) pv.toList=some cells)
 (hd:o.dst=some d) (F:Fs a N l) (hN:Nat.blt d N=true) (M:aV B w0 w bs rs)
 (next:∀ g a' w',Fs a' N ((d,.slice (some ⟨g,0,none⟩) len len)::l)→aV B w0 w' ((g,e,cells)::bs) rs→wpList P ops Q rest a' w') (ht:Nat.blt e 9000=true:=by rfl):wpList P ops Q (o::rest) a w:=by
 simp only[aqX,decide_eq_true_eq] at iN;exact kn (f:=fun n=>.slice (some ⟨n,0,none⟩) len len) hw (oq ho hu hs hz iN.1 iN.2 hp h) hd F hN M next ht
theorem ks(hw:Region.wanted o (yielded ops a.tmps)=true){ty:TypeId}{x y:Operand}(ho:o.op=.store ty x y){g f:Nat}(hx:a.eval x=.pointer (some ⟨g,f,none⟩))(hy:a.eval y=v)(_:Fs a N l)(M:aV B w0 w bs rs)(i:Nat){t:TypeId}{cs cs':Array Value}(hi:bs[i]?=some (g,t,cs))
 {u:List Value} (hl:v.cells.toList=u) (hfit:Nat.ble (f+u.length) cs.size=true) (hz:(P.info? ty).map (·.size)=some u.length) (h1:u.all (·.oneCell')=true) (hsp:splice cs f u=cs') (hd:o.dst=none) {bs':List Bx} (hb:bs.set i (g,t,cs')=bs')
 (next:∀ w',aV B w0 w' bs' rs→wpList P ops Q rest a w') (ht:Nat.blt t 9000=true:=by rfl) (hW:Nat.beq t 52=false∨w0.heap.size≤B:=by first|exact .inl rfl|exact .inr (Nat.le_refl _)):wpList P ops Q (o::rest) a w:=
 oQ hw ho hx hy (M.b i hi ht) hl (Nat.le_of_ble_eq_true hfit) hz h1 hsp hd fun w' s h'=>next w' (hb▸M.sto i hi s h' ht hW)
theorem NW(hw:Region.wanted o (yielded ops a.tmps)=true){ty:TypeId}{x:Operand}(ho:o.op=.box ty x){cs:Array Value}(hx:a.eval x=.agg cs)(hd:o.dst=some d)(F:Fs a N l)(hN:Nat.blt d N=true)(M:aV B w0 w bs rs)
 (next:∀ g a' w',Fs a' N ((d,.pointer (some ⟨g,0,none⟩))::l)→aV B w0 w' ((g,ty,cs)::bs) rs→wpList P ops Q rest a' w') (ht:Nat.blt ty 9000=true:=by rfl):wpList P ops Q (o::rest) a w:=
 kb hw ho hx rfl hd F hN M next ht
theorem kb1(hw:Region.wanted o (yielded ops a.tmps)=true){ty:TypeId}{x:Operand}(ho:o.op=.box ty x)(hx:a.eval x=v)(hc:v.cells=#[v])(hd:o.dst=some d)(F:Fs a N l)(hN:Nat.blt d N=true)(M:aV B w0 w bs rs)
 (next:∀ g a' w',Fs a' N ((d,.pointer (some ⟨g,0,none⟩))::l)→aV B w0 w' ((g,ty,#[v])::bs) rs→wpList P ops Q rest a' w') (ht:Nat.blt ty 9000=true:=by rfl):wpList P ops Q (o::rest) a w:=
 kb hw ho hx hc hd F hN M next ht
theorem Lq(hw:Region.wanted o (yielded ops a.tmps)=true){ty:TypeId}{cs:Array Value}(ho:o.op=.alloc ty)(hz:(P.info? ty).bind (·.zero)=some (.agg cs))(hd:o.dst=some d)(F:Fs a N l)(hN:Nat.blt d N=true)(M:aV B w0 w bs rs)
 (next:∀ g a' w',Fs a' N ((d,.pointer (some ⟨g,0,none⟩))::l)→aV B w0 w' ((g,ty,cs)::bs) rs→wpList P ops Q rest a' w') (ht:Nat.blt ty 9000=true:=by rfl):wpList P ops Q (o::rest) a w:=
 ka hw ho hz rfl hd F hN M next ht
theorem ka1(hw:Region.wanted o (yielded ops a.tmps)=true){ty:TypeId}(ho:o.op=.alloc ty)(hz:(P.info? ty).bind (·.zero)=some v)(hc:v.cells=#[v])(hd:o.dst=some d)(F:Fs a N l)(hN:Nat.blt d N=true)(M:aV B w0 w bs rs)
 (next:∀ g a' w',Fs a' N ((d,.pointer (some ⟨g,0,none⟩))::l)→aV B w0 w' ((g,ty,#[v])::bs) rs→wpList P ops Q rest a' w') (ht:Nat.blt ty 9000=true:=by rfl):wpList P ops Q (o::rest) a w:=
 ka hw ho hz hc hd F hN M next ht
theorem Lm(hw:Region.wanted o (yielded ops a.tmps)=true){ty:TypeId}{x y:Operand}(ho:o.op=.store ty x y){g:Nat}{cs':Array Value}(hx:a.eval x=.pointer (some ⟨g,0,none⟩))(hy:a.eval y=.agg cs')(F:Fs a N l)(M:aV B w0 w bs rs)(i:Nat){t:TypeId}{cs:Array Value}(hi:bs[i]?=some (g,t,cs))
 {n:Nat} (hz:(P.info? ty).map (·.size)=some n) (hs:(Nat.beq cs.size n&&Nat.beq cs'.size n)=true) (h1:cs'.toList.all (·.oneCell')=true) (hd:o.dst=none)
 (next:∀ w',aV B w0 w' (bs.set i (g,t,cs')) rs→wpList P ops Q rest a w') (ht:Nat.blt t 9000=true:=by rfl) (hW:Nat.beq t 52=false∨w0.heap.size≤B:=by first|exact .inl rfl|exact .inr (Nat.le_refl _)):wpList P ops Q (o::rest) a w:=by
 obtain⟨e1,e2⟩:=Bool.and_eq_true_iff.1 hs;have e1:=arf e1;have e2:=arf e2;refine ks hw ho hx hy F M i hi rfl ?_ (hz.trans ?_) h1 (kI _ _ ?_) hd rfl next ht hW
 ·show Nat.ble (0+cs'.toList.length) cs.size=true;exact Nat.ble_eq_true_of_le (by rw[Array.length_toList];omega)
 ·show some n=some cs'.toList.length;rw[Array.length_toList,e2]
 ·show cs.size=cs'.toList.length;rw[Array.length_toList];omega
theorem kc(hw:Region.wanted o (yielded ops a.tmps)=true){f:FuncId}{args:Array Value}(hr:(execOp a.eval o).run P w=.ok (.enter f args) w)
 (hc:Calls P f args w fun e w'=>e=.returned v∧ara w.heap.size w w') (hd:o.dst=some d) (F:Fs a N l) (hN:Nat.blt d N=true) (M:aV B w0 w bs rs)
 (next:∀ a' w',Fs a' N ((d,v)::l)→aV B w0 w' bs rs→wpList P ops Q rest a' w'):wpList P ops Q (o::rest) a w:=
 j_ hw hr (wH hc) hd F.fr (by simpa using hN) fun u a' w' h p=>by
  obtain⟨rfl,hb⟩:=h;exact next a' w' (F.put p) (M.keep hb)
theorem kx(hw:Region.wanted o (yielded ops a.tmps)=true){f:FuncId}{args:Array Value}(hr:(execOp a.eval o).run P w=.ok (.enter f args) w){R:Value→World→Prop}
 (hc:Calls P f args w fun e w'=>∃ v,e=.returned v∧(R v w'∧ara w.heap.size w w')) (hd:o.dst=some d) (F:Fs a N l) (hN:Nat.blt d N=true) (M:aV B w0 w bs rs)
 (next:∀ v a' w',R v w'→ara w.heap.size w w'→Fs a' N ((d,v)::l)→aV B w0 w' bs rs→wpList P ops Q rest a' w'):wpList P ops Q (o::rest) a w:=
 j_ hw hr hc hd F.fr (by simpa using hN) fun u a' w' h p=>next u a' w' h.1 h.2 (F.put p) (M.keep h.2)
theorem kpP(hw:Region.wanted o (yielded ops a.tmps)=true){s x:Operand}{t:TypeId}(ho:o.op=.call { callee:=.builtin .append,args:=#[s,x],argTypes:=#[t,t] })
 {e:TypeId} {size bytes:Nat} (ht:P.underlying t=some (.slice e)) (hi:iQ (P.info? e) size bytes=true) (hsz:Nat.blt 0 size=true) (M:aV B w0 w bs rs) (i:Nat) {n:Nat} {xs:List Value} (ZW:rs[i]?=some ⟨v,e,size,n,xs⟩)
 (hs:a.eval s=v) {m:Nat} {news:List Value} {u:Value} (hx:a.eval x=u) (hsl:SliceAt w u size m news) (h63:n+m≤maxLen∧(n+m)*bytes≤140737488355328) (hd:o.dst=some d) (hf:Fr a N) (hN:Nat.blt d N=true)
 (next:∀ v' a' w',Put a d v' a'→aV B w0 w' bs (rs.set i ⟨v',e,size,n+m,xs++news⟩)→wpList P ops Q rest a' w') (hW:Nat.beq e 52=false∨w0.heap.size≤B:=by first|exact .inl rfl|exact .inr (Nat.le_refl _)):wpList P ops Q (o::rest) a w:=by
 have hown:=M.r i ZW;have hsz':0<size:=by simpa using hsz
 rcases hsl.2.2.2 with⟨rfl,rfl⟩|⟨ad,c,rfl,hnc,hcell⟩
 ·obtain⟨ti,z,h2,h3,h4,h5,h6⟩:=nX hi;have hnil:news=[]:=List.eq_nil_of_length_eq_zero (by rw[hsl.1];simp);subst hnil;have hrun:=run_append_owned_none (P:=P) (w:=w) B t o.type e ti size ht h2 v n xs hown;refine nE hw (v:=v) (w':=w) ?_ hd hf (by simpa using hN) fun a' p=>next v a' w p ?_
  ·unfold execOp;simp only[ho,resolve,invoke,builtin,aq2,Sem.run_pure,Result.andThen_ok,List.map_toArray,List.map_cons,List.map_nil,hs,hx,hrun]
  ·exact M.grow i ZW (by simpa using hown) ⟨rfl,rfl,rfl,Nat.le_refl _,fun _ _ _=>rfl⟩ (.inl rfl) hW
 ·obtain⟨ti,z,h2,h3,h4,h5,h6⟩:=nX hi;subst h4 h5;obtain⟨v',w',hr,g1,g2,-⟩:=run_append_own (P:=P) w B t o.type e ti z ti.size ti.bytes ht h2 h3 rfl rfl h6 hsz' v n xs hown ad m c news hsl.1 hcell hsl.2.2.1 h63.1 h63.2 M.big;have hblk:=FV (P:=P) w B t o.type e ti z ht h2 h3 h6 hsz' v n xs hown ad m c news hsl.1 hcell hsl.2.2.1 h63.1 h63.2 hr;refine nE hw (v:=v') (w':=w') ?_ hd hf (by simpa using hN) fun a' p=>next v' a' w' p (M.grow i ZW g1 g2 hblk hW)
  unfold execOp;simp only[ho,resolve,invoke,builtin,aq2,Sem.run_pure,Result.andThen_ok,List.map_toArray,List.map_cons,List.map_nil,hs,hx,hr]
theorem kp(hw:Region.wanted o (yielded ops a.tmps)=true){s x:Operand}{t:TypeId}(ho:o.op=.call { callee:=.builtin .append,args:=#[s,x],argTypes:=#[t,t] })
 {e:TypeId} {size bytes:Nat} (ht:P.underlying t=some (.slice e)) (hi:iQ (P.info? e) size bytes=true) (hsz:Nat.blt 0 size=true) (M:aV B w0 w bs rs) (i:Nat) {n:Nat} {xs:List Value} (ZW:rs[i]?=some ⟨v,e,size,n,xs⟩)
 (hs:a.eval s=v) {m:Nat} {news:List Value} {u:Value} (hx:a.eval x=u) (hsl:SliceAt w u size m news) (h63:n+m≤maxLen∧(n+m)*bytes≤140737488355328) (hd:o.dst=some d) (F:Fs a N l) (hN:Nat.blt d N=true)
 (next:∀ v' a' w',Fs a' N ((d,v')::l)→aV B w0 w' bs (rs.set i ⟨v',e,size,n+m,xs++news⟩)→wpList P ops Q rest a' w') (hW:Nat.beq e 52=false∨w0.heap.size≤B:=by first|exact .inl rfl|exact .inr (Nat.le_refl _)):wpList P ops Q (o::rest) a w:=
 kpP hw ho ht hi hsz M i ZW hs hx hsl h63 hd F.fr hN (fun v' a' w' p M'=>next v' a' w' (F.put p) M') hW
theorem aV.slice(M:aV B w0 w bs rs)(i:Nat){g:Nat}{t:TypeId}{cs:Array Value}(h:bs[i]?=some (g,t,cs)){k n:Nat}(hl:cs.toList.length=n*k)(h1:cs.toList.all (·.oneCell')=true)(hn:n≤maxLen)(ht:Nat.blt t 9000=true:=by rfl):SliceAt w (.slice (some ⟨g,0,none⟩) n n) k n cs.toList:=
 ⟨hl,hn,fun u hu=>aq3.1 h1 u hu,.inr ⟨_,n,rfl,Nat.le_refl _,fun j u hu=>by rw[Addr.add_lit,Nat.zero_add,(M.b i h ht).cell];simpa using hu⟩⟩
end
section
variable {P:Program} {Q:Exit→Act→World→Prop} {a:Act} {w:World} {N:Nat} {l:Slots}
theorem CO{g:Nat}{t:TypeId}{cs:Array Value}(h:Whole w g t cs):∀ j u,cs.toList[j]?=some u→w.cell? ⟨g,0+j,none⟩=some u:=fun j u hu=>by
 rw[Nat.zero_add,h.cell];simpa using hu
theorem zA{P:Program}{o:Oper}{ty:TypeId}{x:Operand}{g:Nat}{t:TypeId}{cs:Array Value}{dd:TypeDesc}(ho:o.op=.load ty x)(hx:a.eval x=.pointer (some ⟨g,0,none⟩))(hu:P.underlying ty=some dd)
 (hd:(match dd with|.struct _|.array _ _=>true|_=>false)=true) (h:Whole w g t cs) {n:Nat} (hi:(P.info? ty).map (·.size)=some n) (hn:Nat.beq n cs.size=true):(execOp a.eval o).run P w=.ok (.value (.agg cs)) w:=
 gu cs.toList ho hx hu hd (hi.trans (by rw[Array.length_toList,arf hn])) (CO h)
def nth:List Value→Nat→Option Value
 | [],_=>none
 | x::_,0=>some x
 | _::r,i+1=>nth r i
theorem ZF(l:List Value)(i:Nat):nth l i=l[i]?:=by
 induction l generalizing i with
 | nil=>simp[nth]
 | cons x r ih=>cases i with
  | zero=>rfl
  | succ i=>rw[nth,ih];simp
theorem Whole.c1{g:Nat}{t:TypeId}{cs:Array Value}(h:Whole w g t cs)(i:Nat):w.cell? ⟨g,i,none⟩=nth cs.toList i:=by
 rw[h.cell,ZF];simp
theorem cG{w0:World}(hb:ara w0.heap.size w0 w){g f:Nat}{cs:List Value}(h:∀ j u,cs[j]?=some u→w0.cell? ⟨g,f+j,none⟩=some u):∀ j u,cs[j]?=some u→w.cell? ⟨g,f+j,none⟩=some u:=fun j u hu=>cell_later hb (h j u hu)
theorem en{f:FuncId}{fn:Func}{c:Code}{args:Array Value}{R:Ending→World→Prop}(hf:P.funcs[f]?=some fn)(hb:fn.body=some c)(hn:fn.ntmps=N)(hN:Nat.ble args.size N=true){vs:List Value}(ha:args=vs.toArray)
 (h:∀ a,Fs a N (ens 0 vs)→c.wp P (bodyPost P fn R) a w):Calls P f args w R:=
 RU hf hb hn (Nat.le_of_ble_eq_true hN) fun a h1 h2=>h a (Fs.args h1 h2 ha)
theorem rt0{fn:Func}{R:Ending→World→Prop}(hr:fn.results=#[])(F:Fs a N l)(hR:R (.returned (.tuple #[])) w):bodyPost P fn R .ret a w:=MQ hr F.fr hR
theorem rt1{fn:Func}{R:Ending→World→Prop}{s:Nat}{v:Value}(hr:fn.results=#[.tmp s])(F:Fs a N l)(hv:look s l=some v)(hR:R (.returned v) w):bodyPost P fn R .ret a w:=RT hr F.fr (F.g s hv) hR
theorem rt2{fn:Func}{R:Ending→World→Prop}{s t:Nat}{v u:Value}(hr:fn.results=#[.tmp s,.tmp t])(F:Fs a N l)(hv:look s l=some v)(hu:look t l=some u)(hR:R (.returned (.tuple #[v,u])) w):bodyPost P fn R .ret a w:=MP hr F.fr (F.g s hv) (F.g t hu) hR
theorem hr0(P:Program)(fn:Func)(R:Ending→World→Prop)(N:Nat)(hr:fn.results=#[])(a:Act)(w:World)(l:Slots)(F:Fs a N l)(hR:R (.returned (.tuple #[])) w):bodyPost P fn R .ret a w:=rt0 hr F hR
theorem hr1(P:Program)(fn:Func)(R:Ending→World→Prop)(N s:Nat)(hr:fn.results=#[.tmp s])(a:Act)(w:World)(l:Slots)(v:Value)(F:Fs a N l)(hv:look s l=some v)(hR:R (.returned v) w):bodyPost P fn R .ret a w:=rt1 hr F hv hR
theorem Qf(P:Program)(fn:Func)(R:Ending→World→Prop)(N s t:Nat)(hr:fn.results=#[.tmp s,.tmp t])(a:Act)(w:World)(l:Slots)(v u:Value)(F:Fs a N l)(hv:look s l=some v)(hu:look t l=some u)(hR:R (.returned (.tuple #[v,u])) w):bodyPost P fn R .ret a w:=rt2 hr F hv hu hR
def RI(w0:World)(x:Int):Ending→World→Prop:=fun e w'=>e=.returned (.int .i64 x)∧ara w0.heap.size w0 w'
theorem Fs.add(F:Fs a N l){q:Nat}{v:Value}(h:At a q v):Fs a N ((q,v)::l):=by
 refine⟨F.fr,fun s x hs=>?_⟩;rw[bB] at hs
 cases he:s == q with
 | true=>
  rw[he] at hs;have hs':v=x:=aq8 hs;have e':s=q:=by simpa using he
  subst hs' e';exact h
 | false=>
  rw[he] at hs;exact F.at_ s x hs
end
section
variable {P:Program} {ops:Array Oper} {Q:Exit→Act→World→Prop} {a:Act} {B:Nat} {w0 w:World} {rest:List Oper} {o:Oper} {v:Value} {d N:Nat} {l:Slots} {bs:List Bx} {rs:List Rw}
theorem rf{α:Sort _}{x:α}:x=x:=rfl
def vl(l:Slots):Operand→Option Value
 | .tmp q=>look q l
 | .const v=>some v
 | _=>none
theorem Fs.u(F:Fs a N l){x:Operand}(h:vl l x=some v):a.eval x=v:=by
 cases x with
 | tmp q=>exact F.e q h
 | const u=>exact aq8 h
 | _=>cases h
def pl(N:Nat)(o:Oper):Option Nat:=match o.guard,o.dst with
 | none,some d=>bif Nat.blt d N then some d else none
 | _,_=>none
theorem Sv(h:pl N o=some d):o.guard=none∧o.dst=some d∧Nat.blt d N=true:=by
 unfold pl at h;split at h
 ·rename_i d' hg hd
  cases hb:Nat.blt d' N with
  | false=>rw[hb] at h;cases h
  | true=>
   rw[hb] at h;have e:d'=d:=aq8 h;subst e;exact⟨hg,hd,hb⟩
 ·cases h
theorem kz(F:Fs a N l)(h:pl N o=some d)(hr:(execOp a.eval o).run P w=.ok (.value v) w)(next:∀ a',Fs a' N ((d,v)::l)→wpList P ops Q rest a' w):wpList P ops Q (o::rest) a w:=
 have⟨h1,h2,h3⟩:=Sv h
 kv (on h1) hr h2 F h3 next
theorem xM(F:Fs a N l)(h:pl N o=some d){x:Operand}(ho:o.op=.move x)(hx:vl l x=some v)(next:∀ a',Fs a' N ((d,v)::l)→wpList P ops Q rest a' w):wpList P ops Q (o::rest) a w:=
 kz F h (ef ho (F.u hx)) next
theorem xA(F:Fs a N l)(h:pl N o=some d){x:Operand}(ho:o.op=.assign x)(hx:vl l x=some v)(next:∀ a',Fs a' N ((d,v)::l)→wpList P ops Q rest a' w):wpList P ops Q (o::rest) a w:=
 kz F h (ni ho (F.u hx)) next
theorem xF(n:Nat)(F:Fs a N l)(h:pl N o=some d){ty:TypeId}{x:Operand}{f g off:Nat}{fs:Array Field}{fd:Field}{k:Nat}(ho:o.op=.fieldAddr ty x f)(hx:vl l x=some (.pointer (some ⟨g,off,none⟩)))(hu:P.underlying ty=some (.struct fs))(hf:fs[f]?=some fd)
 (hs:(P.info? fd.type).map (·.size)=some (k+1)) (e:off+fd.offset=n) (next:∀ a',Fs a' N ((d,.pointer (some ⟨g,n,none⟩))::l)→wpList P ops Q rest a' w):wpList P ops Q (o::rest) a w:=by
 subst e;exact Proofs.YtdcofoaihmongaaGreat.kz F h (ku ho (F.u hx) hu hf hs) next
theorem xL(F:Fs a N l){g:Nat}{t:TypeId}{cs:Array Value}(H:Whole w g t cs)(h:pl N o=some d){ty:TypeId}{x:Operand}{f:Nat}{dd:TypeDesc}(ho:o.op=.load ty x)(hx:vl l x=some (.pointer (some ⟨g,f,none⟩)))(hu:P.underlying ty=some dd)
 (hd:(match dd with|.struct _|.array _ _=>false|_=>true)=true) (hc:nth cs.toList f=some v) (next:∀ a',Fs a' N ((d,v)::l)→wpList P ops Q rest a' w):wpList P ops Q (o::rest) a w:=
 kz F h (cM ho (F.u hx) hu hd ((H.c1 f).trans hc)) next
theorem xW(F:Fs a N l){g:Nat}{t:TypeId}{cs:Array Value}(H:Whole w g t cs)(h:pl N o=some d){ty:TypeId}{x:Operand}{dd:TypeDesc}(ho:o.op=.load ty x)(hx:vl l x=some (.pointer (some ⟨g,0,none⟩)))(hu:P.underlying ty=some dd)
 (hd:(match dd with|.struct _|.array _ _=>true|_=>false)=true) {n:Nat} (hi:(P.info? ty).map (·.size)=some n) (hn:Nat.beq n cs.size=true) (next:∀ a',Fs a' N ((d,.agg cs)::l)→wpList P ops Q rest a' w):wpList P ops Q (o::rest) a w:=
 kz F h (zA ho (F.u hx) hu hd H hi hn) next
def za(P:Program)(f:FuncId):Bool:=match P.funcs[f]? with
 | some fn=>!(fn.name == "runtime.NumGoroutine")&&fn.body.isSome
 | none=>false
theorem qP{f:FuncId}(hf:za P f=true){xs:Array Operand}{ts:Array TypeId}{args:Array Value}(ho:o.op=.call { callee:=.value (.func f),args:=xs,argTypes:=ts })(ha:xs.map a.eval=args):(execOp a.eval o).run P w=.ok (.enter f args) w:=by
 unfold za at hf;split at hf
 ·rename_i fn hfn;rw[aqX,Bool.not_eq_true'] at hf;obtain⟨c,hc⟩:=Option.isSome_iff_exists.1 hf.2;exact eZ ho hfn hf.1 hc ha
 ·cases hf
theorem xC(F:Fs a N l)(M:aV B w0 w bs rs)(h:pl N o=some d){f:FuncId}{xs:Array Operand}{ts:Array TypeId}{args:Array Value}(ho:o.op=.call { callee:=.value (.func f),args:=xs,argTypes:=ts })(hf:za P f=true)(ha:xs.map a.eval=args)
 (hc:Calls P f args w fun e w'=>e=.returned v∧ara w.heap.size w w') (next:∀ a' w',Fs a' N ((d,v)::l)→aV B w0 w' bs rs→wpList P ops Q rest a' w'):wpList P ops Q (o::rest) a w:=
 have⟨h1,h2,h3⟩:=Sv h
 kc (on h1) (qP hf ho ha) hc h2 F h3 M next
theorem xS(F:Fs a N l)(M:aV B w0 w bs rs)(h:pl N o=some d){t e:TypeId}{x:Operand}{z:Value}(ho:o.op=.buildSlice t 1 #[(0,x)])(hx:vl l x=some v)(hu:P.underlying t=some (.slice e))(hs:(P.info? e).map (·.size)=some 1)(hz:(P.info? e).bind (·.zero)=some z)
 (h1:v.cells=#[v]) (hz1:z.cells.size=1) (next:∀ g a' w',Fs a' N ((d,.slice (some ⟨g,0,none⟩) 1 1)::l)→aV B w0 w' ((g,e,#[v])::bs) rs→wpList P ops Q rest a' w') (ht:Nat.blt e 9000=true:=by rfl):wpList P ops Q (o::rest) a w:=by
 obtain⟨g1,g2,g3⟩:=Sv h;refine kl (len:=1) (k:=1) (parts:=#[(0,x)]) (pv:=#[(0,v)]) (cells:=#[v]) (on g1) ho hu hs hz rfl (by simp[F.u hx]) ?_ g2 F g3 M next ht
 have hr:(Array.range (1*1)).map (z.cells[·%z.cells.size]!)=#[z.cells[0]!]:=by
  refine Array.ext (by simp) fun i h1 h2=>?_
  have hi:i=0:=by simp at h2;omega
  subst hi;simp[hz1]
 rw[hr];simp[Instr.fill,h1]
end
section
variable {P:Program} {ops:Array Oper} {Q':Exit→Act→World→Prop} {a:Act} {w w':World} {o:Oper} {v:Value} {d N:Nat} {g:Good}
theorem dv(hw:Region.wanted o (yielded ops a.tmps)=true)(hr:(execOp a.eval o).run P w=.ok (.value v) w)(hd:o.dst=some d)(hf:Fr a N)(hN:Nat.blt d N=true)
 (hK:∀ v a' w',ara w.heap.size w w'→g v w'→Put a (o.dst.getD 0) v a'→Q' .normal a' w') (hg:g v w):wpList P ops Q' [o] a w:=
 nE hw hr hd hf (by simpa using hN) fun a' p=>wpList_nil (hK v a' w (Below.refl _ _) hg (by rw[hd];exact p))
theorem dc(hw:Region.wanted o (yielded ops a.tmps)=true){f:FuncId}{args:Array Value}(hr:(execOp a.eval o).run P w=.ok (.enter f args) w)
 (hc:Calls P f args w fun e w'=>e=.returned v∧ara w.heap.size w w') (hd:o.dst=some d) (hf:Fr a N) (hN:Nat.blt d N=true)
 (hK:∀ v a' w',ara w.heap.size w w'→g v w'→Put a (o.dst.getD 0) v a'→Q' .normal a' w') (hg:∀ w',g v w'):wpList P ops Q' [o] a w:=
 j_ hw hr (wH hc) hd hf (by simpa using hN) fun u a' w' h p=>by
  obtain⟨rfl,hb⟩:=h;exact wpList_nil (hK u a' w' hb (hg w') (by rw[hd];exact p))
theorem dx(hw:Region.wanted o (yielded ops a.tmps)=true){f:FuncId}{args:Array Value}(hr:(execOp a.eval o).run P w=.ok (.enter f args) w)
 (hc:Calls P f args w fun e w'=>∃ v,e=.returned v∧(g v w'∧ara w.heap.size w w')) (hd:o.dst=some d) (hf:Fr a N) (hN:Nat.blt d N=true)
 (hK:∀ v a' w',ara w.heap.size w w'→g v w'→Put a (o.dst.getD 0) v a'→Q' .normal a' w'):wpList P ops Q' [o] a w:=
 j_ hw hr hc hd hf (by simpa using hN) fun u a' w' h p=>wpList_nil (hK u a' w' h.2 h.1 (by rw[hd];exact p))
theorem dn(hw:Region.wanted o (yielded ops a.tmps)=true){ty:TypeId}{cs:Array Value}{f:Nat→Value}(hr:(execOp a.eval o).run P w=.ok (.value (f w.heap.size)) (w.alloc (.cells cs ty)))(hd:o.dst=some d)(hf:Fr a N)(hN:Nat.blt d N=true)
 (hK:∀ v a' w',ara w.heap.size w w'→g v w'→Put a (o.dst.getD 0) v a'→Q' .normal a' w') (hg:∀ b w',New w w' b ty cs→g (f b) w'):wpList P ops Q' [o] a w:=
 zM hw hr hd hf (by simpa using hN) fun b a' w' n p=>wpList_nil (hK _ a' w' n.below (hg b w' n) (by rw[hd];exact p))
def Made(w:World)(f:Nat→Value)(ty:TypeId)(cs:Array Value):Good:=fun v u=>∃ g,v=f g∧Whole u g ty cs∧w.heap.size≤g
theorem Lj(w:World)(f:Nat→Value)(ty:TypeId)(cs:Array Value):gN (Made w f ty cs):=fun _ _ _ ⟨g,e,h,k⟩ hb=>⟨g,e,Whole.under hb h h.lt,k⟩
theorem Te{wb:World}{f:Nat→Value}{ty:TypeId}{cs:Array Value}(hb:ara wb.heap.size wb w)(b:Nat)(u:World)(n:New w u b ty cs):Made wb f ty cs (f b) u:=⟨b,rfl,n.whole,n.at_▸hb.size⟩
theorem aV.newAt{B:Nat}{w0:World}{bs:List Bx}{rs:List Rw}(M:aV B w0 w bs rs)(hb:ara w.heap.size w w'){g:Nat}{t:TypeId}{cs:Array Value}(h:Whole w' g t cs)(hg:w.heap.size≤g)(ht:Nat.blt t 9000=true:=by rfl):aV B w0 w' ((g,t,cs)::bs) rs:=by
 have M':=M.keep hb;refine⟨M'.below,M'.le,M'.old,?_,?_,?_,M'.row,?_,M.vH⟩
 ·intro b hb;rcases aq5.1 hb with rfl|hb
  ·exact .inl ⟨ht,h⟩
  ·exact M'.box b hb
 ·intro b hb;rcases aq5.1 hb with rfl|hb
  ·exact aq1 M.big hg
  ·exact M.lo b hb
 ·rw[List.map_cons,List.nodup_cons];refine⟨fun h=>?_,M.nd⟩;obtain⟨b,hb,e⟩:=ard.1 h;have:=(M.box b hb).lt;simp only at e;omega
 ·intro r hr b hb;rcases aq5.1 hb with rfl|hb
  ·intro e;have:=((M.row r hr).lt g e).2;omega
  ·exact M.far r hr b hb
theorem rd{id:Nat}{L:List Oper}{Q:Exit→Act→World→Prop}{l:Slots}(k:Nat)(slots:List Nat)(aU:List Good)
 (hm:P.follows .mixedOrders=true) (fP:ordered 0 L=true) (htail:vu k L=true) (jc:(L.take k).map (·.dst)=slots.map some) (hnd:slots.Nodup) (hbd:slots.all (fun s=>decide (s<N))=true) (hlen:aU.length=slots.length)
 (F:Fs a N l) (hst:lE aU) (hstep:kN P L.toArray slots aU (ara w.heap.size w) a N (L.take k) aU)
 (hend:∀ a' w',ara w.heap.size w w'→Fs a' N (l.filter fun p=>!slots.contains p.1)→(∀ (i s:Nat) (g:Good),slots[i]?=some s→aU[i]?=some g→∃ v,At a' s v∧g v w')→cF P L.toArray (Q .normal) (L.drop k) a' w'):(Code.region id L.toArray true).wp P Q a w:=by
 refine oP k slots aU (ara w.heap.size w) hm fP htail jc hnd hbd hlen F.fr (Below.refl _ _).drew (fun _ _ h hb=>h.trans (hb.mono h.size)) hst hstep ?_;intro a' w' D;refine hend a' w' D.inv ⟨D.fr,?_⟩ fun i s g hs hg=>D.done i rfl s g hs hg
 intro q v hq
 have key:∀ l:Slots,look q (l.filter fun p=>!slots.contains p.1)=some v→slots.contains q=false∧look q l=some v:=by
  intro l
  induction l with
  | nil=>intro h;exact absurd h (by simp[look])
  | cons p r ih=>
   intro h;obtain⟨s,u⟩:=p;rw[List.filter_cons] at h;rw[bB];split at h
   ·rename_i hc;rw[bB] at h
    cases e:q == s with
    | true=>
     rw[e] at h;have e':q=s:=by simpa using e
     subst e';exact⟨by simpa using hc,h⟩
    | false=>
     rw[e] at h;exact ih h
   ·rename_i hc;obtain⟨h1,h2⟩:=ih h
    cases e:q == s with
    | true=>
     have e':q=s:=by simpa using e
     subst e';rw[h1] at hc;simp at hc
    | false=>exact⟨h1,h2⟩
 obtain⟨h1,h2⟩:=key l hq;exact D.rest q v h1 (F.at_ q v h2)
end
def gd(t:Bool)(v:Value):Value:=bif t then v else undef
theorem At.on{a:Act}{s:Nat}{t:Bool}{v:Value}(h:At a s (gd t v))(ht:t=true):At a s v:=by subst ht;exact h
theorem a1{s t:Bool}(h:(s&&t)=true):s=true:=(Bool.and_eq_true_iff.1 h).1
theorem a2{s t:Bool}(h:(s&&t)=true):t=true:=(Bool.and_eq_true_iff.1 h).2
theorem rq{P:Program}{s:Sem Next}{w:World}{v u:Value}(h:s.run P w=.ok (.value v) w)(e:v=u):s.run P w=.ok (.value u) w:=e▸h
theorem pkF(c b:Bool):(if c then gd c (.bool b) else .bool false)=Value.bool (c&&b):=by cases c<;>rfl
theorem bt(c:Bool):(c == true)=c:=by cases c<;>rfl
theorem sm{P:Program}{f:FuncId}{args:Array Value}{w:World}{v:Value}(h:Calls P f args w fun e w'=>e=.returned v∧w=w'):Calls P f args w fun e w'=>e=.returned v∧ara w.heap.size w w':=
 h.mono (by rintro _ _ ⟨rfl,rfl⟩;exact⟨rfl,Below.refl _ _⟩)
theorem u0:type_of% Tryz.underlying0:=Tryz.underlying0
theorem u1:type_of% Tryz.underlying1:=Tryz.underlying1
theorem u2:type_of% Tryz.underlying2:=Tryz.underlying2
theorem u3:type_of% Tryz.underlying3:=Tryz.underlying3
theorem u4:type_of% Tryz.underlying4:=Tryz.underlying4
theorem u5:type_of% Tryz.underlying5:=Tryz.underlying5
theorem u8:type_of% Tryz.underlying8:=Tryz.underlying8
theorem u9:type_of% Tryz.underlying9:=Tryz.underlying9
theorem u16:type_of% Tryz.underlying16:=Tryz.underlying16
theorem u21:type_of% Tryz.underlying21:=Tryz.underlying21
theorem u22:type_of% Tryz.underlying22:=Tryz.underlying22
theorem u27:type_of% Tryz.underlying27:=Tryz.underlying27
theorem u28:type_of% Tryz.underlying28:=Tryz.underlying28
theorem R4:type_of% Tryz.underlying29:=Tryz.underlying29
theorem u30:type_of% Tryz.underlying30:=Tryz.underlying30
theorem u31:type_of% Tryz.underlying31:=Tryz.underlying31
theorem u32:type_of% Tryz.underlying32:=Tryz.underlying32
theorem M_:type_of% Tryz.underlying39:=Tryz.underlying39
theorem u52:type_of% Tryz.underlying52:=Tryz.underlying52
theorem VT:type_of% Tryz.underlying56:=Tryz.underlying56
theorem u64:type_of% Tryz.underlying64:=Tryz.underlying64
theorem u74:type_of% Tryz.underlying74:=Tryz.underlying74
theorem u84:type_of% Tryz.underlying84:=Tryz.underlying84
theorem MZ:type_of% Tryz.underlying89:=Tryz.underlying89
theorem ab4:type_of% Tryz.underlying133:=Tryz.underlying133
theorem afi:type_of% Tryz.underlying138:=Tryz.underlying138
theorem zX:type_of% Tryz.underlying139:=Tryz.underlying139
theorem yw:type_of% Tryz.underlying141:=Tryz.underlying141
theorem R5:type_of% Tryz.underlying144:=Tryz.underlying144
theorem GD:type_of% Tryz.underlying146:=Tryz.underlying146
theorem vo:type_of% Tryz.underlying150:=Tryz.underlying150
theorem O2:type_of% Tryz.underlying156:=Tryz.underlying156
theorem zW:type_of% Tryz.underlying157:=Tryz.underlying157
theorem Zd:type_of% Tryz.underlying159:=Tryz.underlying159
theorem DY:type_of% Tryz.underlying302:=Tryz.underlying302
theorem yu:type_of% Tryz.underlying304:=Tryz.underlying304
theorem XU:(Tryz.prog.info? 3).map (·.size)=some 1:=by kernel_rfl
theorem sz9:(Tryz.prog.info? 9).map (·.size)=some 1:=by kernel_rfl
theorem afn:(Tryz.prog.info? 27).map (·.size)=some 1:=by kernel_rfl
theorem afm:(Tryz.prog.info? 28).map (·.size)=some 1:=by kernel_rfl
theorem Sc:(Tryz.prog.info? 29).map (·.size)=some 1:=by kernel_rfl
theorem afl:(Tryz.prog.info? 30).map (·.size)=some 1:=by kernel_rfl
theorem afk:(Tryz.prog.info? 31).map (·.size)=some 1:=by kernel_rfl
theorem z8:(Tryz.prog.info? 39).map (·.size)=some 17:=by kernel_rfl
theorem z7:(Tryz.prog.info? 52).map (·.size)=some 1:=by kernel_rfl
theorem rS:(Tryz.prog.info? 56).map (·.size)=some 13:=by kernel_rfl
theorem VZ:(Tryz.prog.info? 74).map (·.size)=some 7:=by kernel_rfl
theorem Sb:(Tryz.prog.info? 84).map (·.size)=some 13:=by kernel_rfl
theorem q8:(Tryz.prog.info? 89).map (·.size)=some 10:=by kernel_rfl
theorem ab9:(Tryz.prog.info? 139).map (·.size)=some 1:=by kernel_rfl
theorem jC:(Tryz.prog.info? 146).map (·.size)=some 14:=by kernel_rfl
theorem ab8:(Tryz.prog.info? 156).map (·.size)=some 1:=by kernel_rfl
theorem XV:(Tryz.prog.info? 157).map (·.size)=some 1:=by kernel_rfl
theorem Nf:(Tryz.prog.info? 302).map (·.size)=some 1:=by kernel_rfl
theorem zr3:(Tryz.prog.info? 3).bind (·.zero)=some (.int .i64 0):=by kernel_rfl
theorem q6:(Tryz.prog.info? 39).bind (·.zero)=some (.agg #[.slice none 0 0,.slice none 0 0,.slice none 0 0,.slice none 0 0,.slice none 0 0,.slice none 0 0,.slice none 0 0,.slice none 0 0,.slice none 0 0,.slice none 0 0,.slice none 0 0,.slice none 0 0,.slice none 0 0,.slice none 0 0,.slice none 0 0,.slice none 0 0,.slice none 0 0]):=by kernel_rfl
theorem Rz:(Tryz.prog.info? 52).bind (·.zero)=some (.int .u64 0):=by kernel_rfl
theorem sV:(Tryz.prog.info? 54).bind (·.zero)=some (.agg #[.int .u64 0,.int .u64 0,.int .u64 0,.int .u64 0]):=by kernel_rfl
theorem oH:(Tryz.prog.info? 56).bind (·.zero)=some (.agg #[.int .i64 0,.int .u64 0,.int .u64 0,.int .u64 0,.int .u64 0,.int .u64 0,.int .u64 0,.int .u64 0,.int .u64 0,.bool false,.int .i64 0,.int .u32 0,.int .i64 0]):=by kernel_rfl
theorem sU:(Tryz.prog.info? 74).bind (·.zero)=some (.agg #[.int .i64 0,.int .i64 0,.int .i64 0,.int .i64 0,.int .u64 0,.int .i64 0,.int .u64 0]):=by kernel_rfl
theorem ae8:(Tryz.prog.info? 78).bind (·.zero)=some (.agg #[.int .u32 0,.int .u32 0,.int .u32 0,.bool false,.int .i64 0]):=by kernel_rfl
theorem abL:(Tryz.prog.info? 82).bind (·.zero)=some (.agg #[.int .i64 0,.int .i64 0,.int .i64 0,.int .i64 0]):=by kernel_rfl
theorem Ry:(Tryz.prog.info? 84).bind (·.zero)=some (.agg #[.int .i64 0,.int .u64 0,.int .u64 0,.int .u64 0,.int .u64 0,.int .u64 0,.int .u64 0,.int .u64 0,.int .u64 0,.int .i64 0,.string ByteArray.empty,.int .i64 0,.int .i64 0]):=by kernel_rfl
theorem YU:(Tryz.prog.info? 86).bind (·.zero)=some (.agg #[.string ByteArray.empty,.slice none 0 0,.bool false]):=by kernel_rfl
theorem zI:(Tryz.prog.info? 89).bind (·.zero)=some (.agg #[.int .i64 0,.int .i64 0,.int .i64 0,.int .i64 0,.slice none 0 0,.int .u64 0,.int .u64 0,.int .u64 0,.int .u64 0,.slice none 0 0]):=by kernel_rfl
theorem JF:(Tryz.prog.info? 91).bind (·.zero)=some (.agg #[.int .i64 0,.int .u32 0,.bool false,.int .i64 0,.int .i64 0,.int .i64 0,.int .i64 0,.slice none 0 0,.int .u64 0,.int .u64 0,.int .u64 0,.int .u64 0,.slice none 0 0]):=by kernel_rfl
theorem abT:(Tryz.prog.info? 111).bind (·.zero)=some (.agg #[.int .i64 0,.int .i64 0]):=by kernel_rfl
theorem abS:(Tryz.prog.info? 127).bind (·.zero)=some (.agg #[.string ByteArray.empty,.int .i64 0,.int .i64 0,.int .i64 0,.int .i64 0,.int .i64 0,.int .u64 0,.int .i64 0,.int .u64 0]):=by kernel_rfl
theorem abR:(Tryz.prog.info? 129).bind (·.zero)=some (.agg #[.string ByteArray.empty,.int .i64 0,.int .u64 0,.int .u64 0,.int .u64 0,.int .u64 0,.int .u64 0,.int .u64 0,.int .u64 0,.int .u64 0]):=by kernel_rfl
theorem abQ:(Tryz.prog.info? 139).bind (·.zero)=some (.slice none 0 0):=by kernel_rfl
theorem wR:(Tryz.prog.info? 146).bind (·.zero)=some (.agg #[.int .i64 0,.int .u64 0,.int .u64 0,.int .u64 0,.int .u64 0,.int .u64 0,.int .u64 0,.int .u64 0,.int .u64 0,.bool false,.int .i64 0,.int .u32 0,.int .i64 0,.slice none 0 0]):=by kernel_rfl
theorem RB:(Tryz.prog.info? 159).bind (·.zero)=some (.agg #[(.map none),(.map none),(.map none),.slice none 0 0]):=by kernel_rfl
theorem MO:(Tryz.prog.info? 180).bind (·.zero)=some (.agg #[.string ByteArray.empty,.slice none 0 0]):=by kernel_rfl
theorem abP:(Tryz.prog.info? 188).bind (·.zero)=some (.agg #[.string ByteArray.empty,.int .u64 0,.int .u64 0,.int .u64 0,.int .u64 0,.int .u64 0,.int .u64 0,.int .u64 0,.int .u64 0]):=by kernel_rfl
theorem RA:(Tryz.prog.info? 192).bind (·.zero)=some (.agg #[.string ByteArray.empty,.int .u64 0,.int .u64 0,.int .u64 0,.int .u64 0,.int .i64 0,.int .u64 0,.int .i64 0,.int .u64 0,.int .i64 0,.int .u64 0]):=by kernel_rfl
theorem abO:(Tryz.prog.info? 203).bind (·.zero)=some (.agg #[.int .u64 0,.int .u64 0,.int .u64 0,.int .u64 0,.int .u64 0,.int .u64 0,.int .u64 0,.int .u64 0,.int .i64 0,.int .i64 0]):=by kernel_rfl
theorem abN:(Tryz.prog.info? 205).bind (·.zero)=some (.agg #[.int .u64 0,.int .u64 0,.int .u64 0,.int .u64 0,.int .u64 0,.int .u64 0,.int .u64 0,.int .u64 0,.int .i64 0,.int .i64 0,.int .u64 0,.int .i64 0,.int .u64 0]):=by kernel_rfl
theorem abM:(Tryz.prog.info? 344).bind (·.zero)=some (.agg #[.int .i64 0,.int .u64 0,.int .i64 0,.int .u64 0]):=by kernel_rfl
theorem afY:iQ (Tryz.prog.info? 3) 1 8=true:=by kernel_rfl
theorem afX:iQ (Tryz.prog.info? 9) 1 16=true:=by kernel_rfl
theorem H6:iQ (Tryz.prog.info? 52) 1 8=true:=by kernel_rfl
theorem acX:iQ (Tryz.prog.info? 84) 13 112=true:=by kernel_rfl
theorem ZR:iQ (Tryz.prog.info? 139) 1 24=true:=by kernel_rfl
theorem TH:iQ (Tryz.prog.info? 146) 14 128=true:=by kernel_rfl
theorem yF:Tryz.prog.eqGuardType Tryz.prog.depth 54=false:=by kernel_rfl
theorem aaS:Tryz.prog.eqGuardType Tryz.prog.depth 56=false:=by kernel_rfl
theorem ahs:Tryz.prog.eqGuardType Tryz.prog.depth 78=false:=by kernel_rfl
theorem adV:Tryz.prog.eqGuardType Tryz.prog.depth 84=false:=by kernel_rfl
theorem YJ:Tryz.prog.eqGuardType Tryz.prog.depth 125=false:=by kernel_rfl
theorem YI:Tryz.prog.eqGuardType Tryz.prog.depth 127=false:=by kernel_rfl
theorem YH:Tryz.prog.eqGuardType Tryz.prog.depth 129=false:=by kernel_rfl
theorem YG:Tryz.prog.eqGuardType Tryz.prog.depth 184=false:=by kernel_rfl
theorem UY:Tryz.prog.eqGuardType Tryz.prog.depth 188=false:=by kernel_rfl
theorem YF:Tryz.prog.eqGuardType Tryz.prog.depth 192=false:=by kernel_rfl
theorem YE:Tryz.prog.eqGuardType Tryz.prog.depth 197=false:=by kernel_rfl
theorem YD:Tryz.prog.eqGuardType Tryz.prog.depth 203=false:=by kernel_rfl
theorem YC:Tryz.prog.eqGuardType Tryz.prog.depth 205=false:=by kernel_rfl
theorem q22:za Tryz.prog 22=true:=by kernel_rfl
theorem q39:za Tryz.prog 39=true:=by kernel_rfl
theorem q80:za Tryz.prog 80=true:=by kernel_rfl
theorem afB:za Tryz.prog 150=true:=by kernel_rfl
theorem afA:za Tryz.prog 152=true:=by kernel_rfl
theorem acn:za Tryz.prog 169=true:=by kernel_rfl
theorem afz:za Tryz.prog 196=true:=by kernel_rfl
theorem acj:za Tryz.prog 197=true:=by kernel_rfl
theorem afy:za Tryz.prog 222=true:=by kernel_rfl
theorem afx:za Tryz.prog 224=true:=by kernel_rfl
theorem afw:za Tryz.prog 266=true:=by kernel_rfl
theorem afv:za Tryz.prog 267=true:=by kernel_rfl
theorem afu:za Tryz.prog 295=true:=by kernel_rfl
theorem aft:za Tryz.prog 323=true:=by kernel_rfl
theorem afs:za Tryz.prog 327=true:=by kernel_rfl
theorem afH:(Tryz.f78.name == "runtime.NumGoroutine")=false:=by kernel_rfl
theorem X9:(Tryz.f148.name == "runtime.NumGoroutine")=false:=by kernel_rfl
theorem SV:(Tryz.f149.name == "runtime.NumGoroutine")=false:=by kernel_rfl
theorem acC:(Tryz.f151.name == "runtime.NumGoroutine")=false:=by kernel_rfl
theorem X8:(Tryz.f173.name == "runtime.NumGoroutine")=false:=by kernel_rfl
theorem X7:(Tryz.f175.name == "runtime.NumGoroutine")=false:=by kernel_rfl
theorem X6:(Tryz.f268.name == "runtime.NumGoroutine")=false:=by kernel_rfl
theorem acB:(Tryz.f269.name == "runtime.NumGoroutine")=false:=by kernel_rfl
theorem acA:(Tryz.f270.name == "runtime.NumGoroutine")=false:=by kernel_rfl
theorem acz:(Tryz.f324.name == "runtime.NumGoroutine")=false:=by kernel_rfl
theorem X5:(Tryz.f326.name == "runtime.NumGoroutine")=false:=by kernel_rfl
inductive TD where
 | st (n:Nat) (El:List Nat)
 | sl (e k b:Nat)
 | arr (len e k:Nat)
 | str
 | one
def pz(P:Program)(t n:Nat):Bool:=match P.info? t with
 | some i=>Nat.beq i.size n
 | none=>false
def iV(P:Program)(t:Nat):TD→Bool
 | .st n El=>(match P.underlying t with|some (.struct fs)=>(fs.toList.map (·.offset) == El)&&fs.toList.all (fun f=>match P.info? f.type with|some i=>Nat.blt 0 i.size|none=>false)|_=>false)&&pz P t n
 | .sl e k b=>((match P.underlying t with|some (.slice e')=>Nat.beq e e'|_=>false)&&iQ (P.info? e) k b)&&pz P t 1
 | .arr len e k=>((match P.underlying t with|some (.array n e')=>Nat.beq len n&&Nat.beq e e'|_=>false)&&pz P e k)&&pz P t (len*k)
 | .str=>match P.underlying t with|some .string=>pz P t 1|_=>false
 | .one=>(match P.underlying t with|some (.struct _)=>false|some (.array _ _)=>false|some _=>true|none=>false)&&pz P t 1
def TT:List (Nat×TD):=[
 (39,.st 17 [0,1,2,3,4,5,6,7,8,9,10,11,12,13,14,15,16]),
 (3,.one),
 (89,.st 10 [0,1,2,3,4,5,9]),
 (28,.sl 9 1 16),
 (56,.st 13 [0,1,5,9,10,11,12]),
 (29,.sl 89 10 112),
 (64,.sl 3 1 8),
 (9,.str),
 (54,.arr 4 52 1),
 (30,.sl 56 13 104),
 (94,.st 7 [0,1,2,3,4,5,6]),
 (47,.sl 94 7 48),
 (31,.sl 84 13 112),
 (23,.sl 86 3 48),
 (74,.st 7 [0,1,2,3]),
 (52,.one),
 (22,.sl 180 2 40),
 (27,.sl 197 2 24),
 (50,.one),
 (70,.st 2 [0,1]),
 (91,.st 13 [0,1,2,3]),
 (25,.sl 188 9 80),
 (139,.sl 52 1 8),
 (84,.st 13 [0,1,5,9,10,11,12]),
 (40,.sl 4 1 1),
 (102,.arr 4 3 1),
 (34,.sl 91 13 128),
 (26,.sl 192 11 96),
 (146,.st 14 [0,13]),
 (119,.sl 102 4 32),
 (4,.one),
 (180,.st 2 [0,1]),
 (35,.sl 125 8 72),
 (24,.sl 184 5 48),
 (86,.st 3 [0,1,2]),
 (36,.sl 127 9 80),
 (32,.sl 203 10 80),
 (33,.sl 205 13 104),
 (37,.sl 129 10 88),
 (192,.st 11 [0,1,5,7]),
 (107,.st 3 [0,1,2]),
 (72,.st 4 [0,2]),
 (159,.st 4 [0,1,2,3]),
 (141,.sl 146 14 128),
 (278,.st 21 [0,7,14]),
 (352,.one),
 (45,.one),
 (104,.arr 3 50 1),
 (100,.st 3 [0,1,2]),
 (304,.st 20 [0,17,18,19]),
 (165,.st 3 [0,1,2]),
 (188,.st 9 [0,1,5]),
 (240,.one),
 (133,.sl 139 1 24),
 (341,.st 2 [0,1]),
 (97,.one),
 (121,.st 2 [0,1]),
 (203,.st 10 [0,4,8,9]),
 (129,.st 10 [0,1,2,6]),
 (138,.sl 52 1 8),
 (224,.sl 50 1 4),
 (131,.sl 224 1 24),
 (111,.arr 2 3 1),
 (127,.st 9 [0,1,2]),
 (109,.sl 111 2 16),
 (205,.st 13 [0,4,8,9]),
 (113,.st 4 [0,1,2,3]),
 (76,.st 16 [0,1,8,15]),
 (82,.arr 4 3 1),
 (197,.st 2 [0,1]),
 (212,.st 4 [0,1,2]),
 (178,.sl 42 1 8),
 (125,.st 8 [0,1]),
 (184,.st 5 [0,1]),
 (344,.arr 2 70 2),
 (118,.one),
 (157,.one),
 (51,.arr 5 50 1),
 (163,.sl 165 3 16),
 (150,.one),
 (227,.sl 40 1 24),
 (246,.one),
 (5,.one),
 (21,.one),
 (78,.st 5 [0,1,2,3,4]),
 (156,.one),
 (302,.one),
 (42,.one),
 (105,.one),
 (144,.one)]
theorem aef:TT.all (fun x=>iV Tryz.prog x.1 x.2)=true:=by kernel_rfl
def NF:Nat:=344
def Rv:List Nat:=[0,1,2,252,328,329,330,331,332,333,334,335,336,337,338,339,340,341,342,343]
def iO(x:Nat):List Nat→Bool
 | []=>false
 | y::r=>bif Nat.beq x y then true else iO x r
theorem aei:(List.range NF).all (fun f=>za Tryz.prog f||iO f Rv)=true:=by kernel_rfl
section
variable {α:Type}
def sq:List α→Nat→(α→Prop)→Prop
 | [],_,_=>False
 | x::_,0,f=>f x
 | _::r,i+1,f=>sq r i f
theorem fV{l:List α}{i:Nat}{f:α→Prop}(h:sq l i f):∃ x,l[i]?=some x∧f x:=by
 induction l generalizing i with
 | nil=>exact h.elim
 | cons x r ih=>cases i with
  | zero=>exact⟨x,rfl,h⟩
  | succ i=>obtain⟨y,h1,h2⟩:=ih h;exact⟨y,by simpa using h1,h2⟩
def Ae:List α→Nat→α→(List α→Prop)→Prop
 | [],_,_,_=>False
 | _::r,0,b,f=>f (b::r)
 | x::r,i+1,b,f=>Ae r i b fun r'=>f (x::r')
theorem yV{l:List α}{i:Nat}{b:α}{f:List α→Prop}(h:Ae l i b f):f (l.set i b):=by
 induction l generalizing i f with
 | nil=>exact h.elim
 | cons x r ih=>cases i with
  | zero=>exact h
  | succ i=>exact ih (f:=fun r'=>f (x::r')) h
def pW:List α→Nat→Prop→Prop
 | [],0,p=>p
 | _::r,n+1,p=>pW r n p
 | _,_,_=>False
theorem gV{l:List α}{n:Nat}{p:Prop}(h:pW l n p):l.length=n∧p:=by
 induction l generalizing n with
 | nil=>cases n with
  | zero=>exact⟨rfl,h⟩
  | succ n=>exact h.elim
 | cons x r ih=>cases n with
  | zero=>exact h.elim
  | succ n=>obtain⟨h1,h2⟩:=ih h;exact⟨by simp[h1],h2⟩
def IJ:Nat→List α→(List α→Prop)→Prop
 | 0,l,f=>f l
 | n+1,_::r,f=>IJ n r f
 | _+1,[],_=>False
def GP:Nat→List α→(List α→Prop)→Prop
 | 0,_,f=>f []
 | n+1,x::r,f=>GP n r fun l=>f (x::l)
 | _+1,[],_=>False
theorem GL{n:Nat}{l:List α}{f:List α→Prop}(h:GP n l f):n≤l.length∧f (l.take n):=by
 induction n generalizing l f with
 | zero=>exact⟨Nat.zero_le _,by simpa[GP] using h⟩
 | succ n ih=>cases l with
  | nil=>exact h.elim
  | cons x r=>obtain⟨h1,h2⟩:=ih (f:=fun l=>f (x::l)) h;exact⟨by simpa using h1,by simpa using h2⟩
theorem II{n:Nat}{l:List α}{f:List α→Prop}(h:IJ n l f):n≤l.length∧f (l.drop n):=by
 induction n generalizing l with
 | zero=>exact⟨Nat.zero_le _,by simpa[IJ] using h⟩
 | succ n ih=>cases l with
  | nil=>exact h.elim
  | cons x r=>obtain⟨h1,h2⟩:=ih h;exact⟨by simpa using h1,by simpa using h2⟩
def rA:List α→List α→(List α→Prop)→Prop
 | [],r,f=>f r
 | x::l,r,f=>rA l r fun s=>f (x::s)
theorem gX{l r:List α}{f:List α→Prop}(h:rA l r f):f (l++r):=by
 induction l generalizing f with
 | nil=>exact h
 | cons x l ih=>exact ih (f:=fun s=>f (x::s)) h
end
def GW:List Value→Nat→List Value→(List Value→Prop)→Prop
 | cs,0,[],f=>f cs
 | _::cs,0,v::vs,f=>GW cs 0 vs fun r=>f (v::r)
 | [],0,_::_,_=>False
 | c::cs,o+1,vs,f=>GW cs o vs fun r=>f (c::r)
 | [],_+1,_,_=>False
theorem V2{cs:List Value}{o:Nat}{vs:List Value}{f:List Value→Prop}(h:GW cs o vs f):o+vs.length≤cs.length∧f (cs.take o++vs++cs.drop (o+vs.length)):=by
 induction cs generalizing o vs f with
 | nil=>cases o with
  | zero=>cases vs with
   | nil=>exact⟨by simp,by simpa[GW] using h⟩
   | cons v vs=>exact h.elim
  | succ o=>exact h.elim
 | cons c cs ih=>cases o with
  | zero=>cases vs with
   | nil=>exact⟨by simp,by simpa[GW] using h⟩
   | cons v vs=>
    obtain⟨h1,h2⟩:=ih (f:=fun r=>f (v::r)) h;exact⟨by simp at h1 ⊢;omega,by simpa using h2⟩
  | succ o=>
   obtain⟨h1,h2⟩:=ih (f:=fun r=>f (c::r)) h;exact⟨by simp at h1 ⊢;omega,by simpa[show o+1+vs.length=o+vs.length+1 by omega] using h2⟩
def Cl(t:Nat)(f:TD→Prop):List (Nat×TD)→Prop
 | []=>False
 | (s,d)::r=>bif Nat.beq t s then f d else Cl t f r
theorem Zf{t:Nat}{f:TD→Prop}{T:List (Nat×TD)}(h:Cl t f T):∃ d,(t,d)∈T∧f d:=by
 induction T with
 | nil=>exact h.elim
 | cons x r ih=>
  obtain⟨s,d⟩:=x;unfold Cl at h
  cases e:Nat.beq t s with
  | true=>
   rw[e] at h;have e':=arf e;subst e';exact⟨d,arh ..,h⟩
  | false=>
   rw[e] at h;obtain⟨d',h1,h2⟩:=ih h;exact⟨d',ari _ h1,h2⟩
theorem jB{t:Nat}{f:TD→Prop}(h:Cl t f TT):∃ d,iV Tryz.prog t d=true∧f d:=by
 obtain⟨d,h1,h2⟩:=Zf h;exact⟨d,aq3.1 aef _ h1,h2⟩
def iC:TD→Nat
 | .st n _=>n
 | .arr len _ k=>len*k
 | _=>1
theorem kJ{P:Program}{t n:Nat}(h:pz P t n=true):(P.info? t).map (·.size)=some n:=by
 unfold pz at h
 cases hi:P.info? t with
 | none=>rw[hi] at h;cases h
 | some i=>rw[hi] at h;simp[arf h]
theorem R8{P:Program}{t n:Nat}{El:List Nat}(h:iV P t (.st n El)=true):∃ fs:Array Field,P.underlying t=some (.struct fs)∧(P.info? t).map (·.size)=some n ∧
 ∀ (i off:Nat),El[i]?=some off→∃ fd k,fs[i]?=some fd∧fd.offset=off∧(P.info? fd.type).map (·.size)=some (k+1):=by
 simp only[iV,aqX] at h;obtain⟨h1,h2⟩:=h;split at h1
 ·rename_i fs hfs;refine⟨fs,hfs,kJ h2,fun i off hi=>?_⟩;simp only[aqX,beq_iff_eq,aq3] at h1;obtain⟨h3,h4⟩:=h1;rw[← h3,aq9] at hi
  cases hf:fs.toList[i]? with
  | none=>rw[hf] at hi;cases hi
  | some fd=>
   rw[hf] at hi;have h5:=h4 fd (aq7 hf)
   cases hq:P.info? fd.type with
   | none=>rw[hq] at h5;cases h5
   | some ti=>
    rw[hq] at h5;have h6:0<ti.size:=by simpa using h5
    refine⟨fd,ti.size-1,by simpa using hf,by simpa using hi,?_⟩;rw[hq,Option.map_some,Nat.sub_add_cancel h6]
 ·cases h1
theorem CV{P:Program}{t e k b:Nat}(h:iV P t (.sl e k b)=true):P.underlying t=some (.slice e)∧iQ (P.info? e) k b=true:=by
 simp only[iV,aqX] at h;obtain⟨⟨h1,h2⟩,-⟩:=h;split at h1
 ·rename_i e' he;rw[arf h1];exact⟨he,(arf h1)▸h2⟩
 ·cases h1
theorem Ki{P:Program}{t n e k:Nat}(h:iV P t (.arr n e k)=true):P.underlying t=some (.array n e)∧(P.info? e).map (·.size)=some k∧(P.info? t).map (·.size)=some (n*k):=by
 simp only[iV,aqX] at h;obtain⟨⟨h1,h2⟩,h3⟩:=h;split at h1
 ·rename_i n' e' he;simp only[aqX] at h1;rw[arf h1.1,arf h1.2];exact⟨he,(arf h1.2)▸kJ h2,(arf h1.1)▸kJ h3⟩
 ·cases h1
theorem Kh{P:Program}{t:Nat}(h:iV P t .str=true):P.underlying t=some .string:=by
 simp only[iV] at h;split at h
 ·assumption
 ·cases h
theorem AX{o:Option TypeInfo}{k b:Nat}(h:iQ o k b=true):o.map (·.size)=some k:=by
 obtain⟨i,z,h1,-,h2,-⟩:=nX h;rw[h1];simp[h2]
def TD.one':TD→Bool
 | .st _ _|.arr _ _ _=>false
 | _=>true
theorem R9{P:Program}{t:Nat}{d:TD}(h:iV P t d=true)(h1:d.one'=true):∃ dd,P.underlying t=some dd∧(match dd with|.struct _|.array _ _=>false|_=>true)=true:=by
 cases d with
 | st=>cases h1
 | arr=>cases h1
 | sl e k b=>exact⟨_,(CV h).1,rfl⟩
 | str=>exact⟨_,Kh h,rfl⟩
 | one=>
  simp only[iV,aqX] at h;obtain⟨h1,-⟩:=h
  cases hu:P.underlying t with
  | none=>rw[hu] at h1;cases h1
  | some dd=>
   rw[hu] at h1;refine⟨dd,rfl,?_⟩;cases dd<;>first|rfl|cases h1
theorem yS{P:Program}{t:Nat}{d:TD}(h:iV P t d=true)(h1:d.one'=false):∃ dd,P.underlying t=some dd∧(match dd with|.struct _|.array _ _=>true|_=>false)=true∧(P.info? t).map (·.size)=some (iC d):=by
 cases d with
 | st n El=>
  obtain⟨fs,h2,h3,-⟩:=R8 h;exact⟨_,h2,rfl,h3⟩
 | arr n e k=>
  obtain⟨h2,-,h3⟩:=Ki h;exact⟨_,h2,rfl,h3⟩
 | sl=>cases h1
 | str=>cases h1
 | one=>cases h1
theorem yR{P:Program}{t:Nat}{d:TD}(h:iV P t d=true):(P.info? t).map (·.size)=some (iC d):=by
 cases d with
 | st n El=>exact(yS h rfl).choose_spec.2.2
 | arr n e k=>exact(yS h rfl).choose_spec.2.2
 | sl e k b=>
  simp only[iV,aqX] at h;exact kJ h.2
 | str=>
  simp only[iV] at h;split at h
  ·exact kJ h
  ·cases h
 | one=>
  simp only[iV,aqX] at h;exact kJ h.2
abbrev Pa:=List (Nat×Bool)
structure fG where
 s:Nat
 j:Nat
 p:Pa
 t:Bool
 v:Value
def bEq:Bool→Bool→Bool
 | true,b=>b
 | false,true=>false
 | false,false=>true
theorem Vc{a b:Bool}(h:bEq a b=true):a=b:=by cases a<;>cases b<;>simp_all [bEq]
def inP(x:Nat×Bool):Pa→Bool
 | []=>false
 | y::r=>bif (bif Nat.beq x.1 y.1 then bEq x.2 y.2 else false) then true else inP x r
theorem ZS{x:Nat×Bool}{p:Pa}(h:inP x p=true):x∈p:=by
 induction p with
 | nil=>cases h
 | cons y r ih=>
  unfold inP at h
  cases e:Nat.beq x.1 y.1 with
  | false=>rw[e] at h;exact ari _ (ih h)
  | true=>
   rw[e] at h
   cases e2:bEq x.2 y.2 with
   | false=>rw[e2] at h;exact ari _ (ih h)
   | true=>
    obtain⟨a,b⟩:=x;obtain⟨c,d⟩:=y;have h1:=arf e;have h2:=Vc e2;simp only at h1 h2;rw[h1,h2];exact arh ..
def D6:Pa→Pa→Bool
 | [],_=>true
 | x::r,π=>bif inP x π then D6 r π else false
theorem yT{p π:Pa}(h:D6 p π=true):∀ x∈p,x∈π:=by
 induction p with
 | nil=>intro x hx;cases hx
 | cons y r ih=>
  unfold D6 at h
  cases e:inP y π with
  | false=>rw[e] at h;cases h
  | true=>
   rw[e] at h;intro x hx;rcases aq5.1 hx with rfl|hx
   ·exact ZS e
   ·exact ih h x hx
def eqG(c:Bool):Bool→Bool
 | true=>c
 | false=>!c
theorem Oh{c b:Bool}:eqG c b=true↔c=b:=by cases c<;>cases b<;>simp[eqG]
def tJ(p:Pa)(t c b:Bool):Bool:=match p with
 | []=>eqG c b
 | _::_=>t&&eqG c b
def lkM(q:Nat)(f:Nat→Pa→Value→Prop)(n:Prop):List fG→Prop
 | []=>n
 | ⟨s,j,p,_,v⟩::r=>bif Nat.beq q s then f j p v else lkM q f n r
def lkJ(q:Nat)(f:Pa→Bool→Value→Prop):List fG→Prop
 | []=>False
 | ⟨_,j,p,t,v⟩::r=>bif Nat.beq q j then f p t v else lkJ q f r
theorem Tg{q:Nat}{f:Nat→Pa→Value→Prop}{n:Prop}{m:List fG}(h:lkM q f n m):(∃ e∈m,e.s=q∧f e.j e.p e.v)∨((∀ e∈m,e.s≠q)∧n):=by
 induction m with
 | nil=>exact .inr ⟨by simp,h⟩
 | cons e r ih=>
  obtain⟨s,j,p,t,v⟩:=e;unfold lkM at h
  cases hb:Nat.beq q s with
  | true=>
   rw[hb] at h;exact .inl ⟨_,arh ..,(arf hb).symm,h⟩
  | false=>
   rw[hb] at h;rcases ih h with⟨e,h1,h2⟩|⟨h1,h2⟩
   ·exact .inl ⟨e,ari _ h1,h2⟩
   ·refine .inr ⟨fun e he=>?_,h2⟩;rcases aq5.1 he with rfl|he
    ·intro e2;have e3:s=q:=e2;subst e3;rw[Nat.beq_refl] at hb;cases hb
    ·exact h1 e he
theorem ZM{q:Nat}{f:Pa→Bool→Value→Prop}{m:List fG}(h:lkJ q f m):∃ e∈m,e.j=q∧f e.p e.t e.v:=by
 induction m with
 | nil=>exact h.elim
 | cons e r ih=>
  obtain⟨s,j,p,t,v⟩:=e;unfold lkJ at h
  cases hb:Nat.beq q j with
  | true=>
   rw[hb] at h;exact⟨_,arh ..,(arf hb).symm,h⟩
  | false=>
   rw[hb] at h;obtain⟨e,h1,h2⟩:=ih h;exact⟨e,ari _ h1,h2⟩
def jg(d:Nat):List fG→Bool
 | []=>true
 | e::r=>bif Nat.beq d e.s then false else jg d r
theorem Qo{d:Nat}{m:List fG}(h:jg d m=true):∀ e∈m,e.s≠d:=by
 induction m with
 | nil=>intro e he;cases he
 | cons e r ih=>
  unfold jg at h
  cases hb:Nat.beq d e.s with
  | true=>rw[hb] at h;cases h
  | false=>
   rw[hb] at h;intro e' he;rcases aq5.1 he with rfl|he
   ·intro e2;rw[e2,Nat.beq_refl] at hb;cases hb
   ·exact ih h e' he
def Cond(m:List fG)(x:Nat×Bool):Prop:=∃ e∈m,e.j=x.1∧e.t=true∧e.v=.bool x.2
structure iL (m:List fG) (n:Nat):Prop where
 lt:∀ e∈m,e.j<n
 uniq:∀ e∈m,∀ e'∈m,e.j=e'.j→e=e'
 pm:∀ e∈m,∀ x∈e.p,∃ e'∈m,e'.j=x.1
 tv:∀ e∈m,e.t=true↔∀ x∈e.p,Cond m x
theorem iL.nil(n:Nat):iL [] n:=⟨by simp,by simp,by simp,by simp⟩
theorem iL.mono{m:List fG}{n n':Nat}(h:iL m n)(hn:n≤n'):iL m n':=⟨fun e he=>aq_ (h.lt e he) hn,h.uniq,h.pm,h.tv⟩
theorem Dx{m:List fG}{e:fG}{x:Nat×Bool}(hx:e.j≠x.1):Cond (e::m) x↔Cond m x:=by
 constructor
 ·rintro⟨e',he,h1,h2⟩;rcases aq5.1 he with rfl|he
  ·exact absurd h1 hx
  ·exact⟨e',he,h1,h2⟩
 ·rintro⟨e',he,h⟩;exact⟨e',ari _ he,h⟩
theorem iL.put{m:List fG}{n:Nat}(h:iL m n){s:Nat}{p:Pa}{t:Bool}{v:Value}(hp:∀ x∈p,∃ e∈m,e.j=x.1)(ht:t=true↔∀ x∈p,Cond m x):iL (⟨s,n,p,t,v⟩::m) (n+1):=by
 refine⟨?_,?_,?_,?_⟩
 ·intro e he;rcases aq5.1 he with rfl|he
  ·exact Nat.lt_succ_self n
  ·exact Nat.lt_succ_of_lt (h.lt e he)
 ·intro e he e' he' hj;rcases aq5.1 he with rfl|he<;>rcases aq5.1 he' with rfl|he'
  ·rfl
  ·have:=h.lt e' he';simp only at hj;omega
  ·have:=h.lt e he;simp only at hj;omega
  ·exact h.uniq e he e' he' hj
 ·intro e he x hx;rcases aq5.1 he with rfl|he
  ·obtain⟨e',h1,h2⟩:=hp x hx;exact⟨e',ari _ h1,h2⟩
  ·obtain⟨e',h1,h2⟩:=h.pm e he x hx;exact⟨e',ari _ h1,h2⟩
 ·intro e he;have key:∀ p':Pa,(∀ x∈p',∃ e∈m,e.j=x.1)→((∀ x∈p',Cond (⟨s,n,p,t,v⟩::m) x)↔∀ x∈p',Cond m x):=fun p' hp'=>⟨fun h' x hx=>(Dx (by obtain⟨e',h1,h2⟩:=hp' x hx;have:=h.lt e' h1;simp only;omega)).1 (h' x hx),fun h' x hx=>(Dx (by obtain⟨e',h1,h2⟩:=hp' x hx;have:=h.lt e' h1;simp only;omega)).2 (h' x hx)⟩
  rcases aq5.1 he with rfl|he
  ·rw[key p hp];exact ht
  ·rw[key e.p (h.pm e he)];exact h.tv e he
theorem iL.guard{m:List fG}{n:Nat}(h:iL m n){e:fG}(he:e∈m){c b:Bool}(hv:e.v=.bool c):(∀ x∈(e.j,b)::e.p,∃ e'∈m,e'.j=x.1)∧(tJ e.p e.t c b=true↔∀ x∈(e.j,b)::e.p,Cond m x)∧(tJ e.p e.t c b=true↔e.t=true∧c=b):=by
 have h1:tJ e.p e.t c b=true↔e.t=true∧c=b:=by
  unfold tJ
  cases hp:e.p with
  | nil=>
   have:e.t=true:=(h.tv e he).2 (by rw[hp];simp);simp[Oh,this]
  | cons x r=>simp[Oh]
 refine⟨?_,?_,h1⟩
 ·intro x hx;rcases aq5.1 hx with rfl|hx
  ·exact⟨e,he,rfl⟩
  ·exact h.pm e he x hx
 ·rw[h1];constructor
  ·rintro⟨ht,rfl⟩ x hx;rcases aq5.1 hx with rfl|hx
   ·exact⟨e,he,rfl,ht,hv⟩
   ·exact(h.tv e he).1 ht x hx
  ·intro hc;refine⟨(h.tv e he).2 fun x hx=>hc x (ari _ hx),?_⟩;obtain⟨e',he',h2,h3,h4⟩:=hc _ (arh ..);have:=h.uniq e' he' e he h2;subst this;rw[hv] at h4;injection h4
theorem iL.sub{m:List fG}{n:Nat}(h:iL m n){e:fG}(he:e∈m){π:Pa}{t:Bool}(ht:t=true↔∀ x∈π,Cond m x)(hs:D6 e.p π=true)(bp:t=true):e.t=true:=
 (h.tv e he).2 fun x hx=>ht.1 bp x (yT hs x hx)
def DH(l:Slots)(m:List fG)(π:Pa):Operand→Value→Prop
 | .tmp q,v=>(∃ e∈m,e.s=q∧e.v=v∧D6 e.p π=true)∨((∀ e∈m,e.s≠q)∧look q l=some v)
 | .const u,v=>u=v
 | .func f,v=>Value.func (.func f) #[] #[]=v
 | _,_=>False
def pP(l:Slots)(m:List fG)(π:Pa)(x:Operand)(k:Value→Prop):Prop:=match x with
 | .tmp q=>lkM q (fun _ p v=>bif D6 p π then k v else False) (match look q l with|some v=>k v|none=>False) m
 | .const v=>k v
 | .func f=>k (.func (.func f) #[] #[])
 | _=>False
theorem bQ{l:Slots}{m:List fG}{π:Pa}{x:Operand}{k:Value→Prop}(h:pP l m π x k):∃ v,DH l m π x v∧k v:=by
 unfold pP at h;split at h
 ·rename_i q;rcases Tg h with⟨e,h1,h2,h3⟩|⟨h1,h2⟩
  ·cases hs:D6 e.p π with
   | false=>rw[hs] at h3;exact h3.elim
   | true=>rw[hs] at h3;exact⟨e.v,.inl ⟨e,h1,h2,rfl,hs⟩,h3⟩
  ·cases hl:look q l with
   | none=>rw[hl] at h2;exact h2.elim
   | some v=>rw[hl] at h2;exact⟨v,.inr ⟨h1,hl⟩,h2⟩
 ·exact⟨_,rfl,h⟩
 ·exact⟨_,rfl,h⟩
 ·exact h.elim
inductive Ca {α β:Type} (R:α→β→Prop):List α→List β→Prop where
 | nil:Ca R [] []
 | cons {x:α} {y:β} {xs:List α} {ys:List β}:R x y→Ca R xs ys→Ca R (x::xs) (y::ys)
def Nw(l:Slots)(m:List fG)(π:Pa):List Operand→(List Value→Prop)→Prop
 | [],k=>k []
 | x::r,k=>pP l m π x fun v=>Nw l m π r fun vs=>k (v::vs)
theorem jR{l:Slots}{m:List fG}{π:Pa}{xs:List Operand}{k:List Value→Prop}(h:Nw l m π xs k):∃ vs,Ca (DH l m π) xs vs∧k vs:=by
 induction xs generalizing k with
 | nil=>exact⟨[],.nil,h⟩
 | cons x r ih=>
  obtain⟨v,h1,h2⟩:=bQ h;obtain⟨vs,h3,h4⟩:=ih h2;exact⟨v::vs,.cons h1 h3,h4⟩
def ikN:IntKind→Nat
 | .i8=>0|.i16=>1|.i32=>2|.i64=>3|.u8=>4|.u16=>5|.u32=>6|.u64=>7
theorem ZT{a b:IntKind}(h:Nat.beq (ikN a) (ikN b)=true):a=b:=by
 have h:=arf h;cases a<;>cases b<;>first|rfl|exact absurd h (by decide)
def sA(x y:Value)(e:Prop)(f:IntKind→Int→Int→Prop):Prop:=match x,y with
 | .int κ m,.int κ' n=>bif Nat.beq (ikN κ) (ikN κ') then f κ m n else False
 | _,_=>e
theorem gi{x y:Value}{e:Prop}{f:IntKind→Int→Int→Prop}(h:sA x y e f):(∃ κ m n,x=.int κ m∧y=.int κ n∧f κ m n)∨e:=by
 unfold sA at h;split at h
 ·rename_i κ m κ' n
  cases e:Nat.beq (ikN κ) (ikN κ') with
  | true=>rw[e] at h;rw[ZT e] at h ⊢;exact .inl ⟨_,_,_,rfl,rfl,h⟩
  | false=>rw[e] at h;exact h.elim
 ·exact .inr h
def ob(π:Pa)(t:Bool)(p q:Prop):Prop:=match π with
 | []=>p∧q
 | _::_=>(t=true→p)∧q
theorem gD{π:Pa}{t:Bool}{p q:Prop}(h:ob π t p q):(t=true→p)∧q:=by
 unfold ob at h;split at h
 ·exact⟨fun _=>h.1,h.2⟩
 ·exact h
def Qa(κ:IntKind)(z:Int)(f:Prop→Prop):Prop:=match κ with
 | .i64=>f (-9223372036854775808≤z∧z≤9223372036854775807)
 | .u8=>f (0≤z∧z≤255)
 | .u32=>f (0≤z∧z≤4294967295)
 | .u64=>f (0≤z∧z≤18446744073709551615)
 | _=>False
theorem zo{κ:IntKind}{z:Int}{f:Prop→Prop}(h:Qa κ z f):∃ p,f p∧(p→κ.wrap z=z):=by
 unfold Qa at h;split at h
 ·exact⟨_,h,fun h=>wrap_i64 h⟩
 ·exact⟨_,h,fun h=>by simp only[IntKind.wrap,IntKind.bits,IntKind.signed];simp;omega⟩
 ·exact⟨_,h,fun h=>by simp only[IntKind.wrap,IntKind.bits,IntKind.signed];simp;omega⟩
 ·exact⟨_,h,fun h=>by simp only[IntKind.wrap,IntKind.bits,IntKind.signed];simp;omega⟩
 ·exact h.elim
def Ef(u:Value)(e:Prop)(f:Nat→Nat→Prop):Prop:=match u with
 | .pointer (some ⟨g,off,none⟩)=>f g off
 | _=>e
theorem nL{u:Value}{e:Prop}{f:Nat→Nat→Prop}(h:Ef u e f):(∃ g off,u=.pointer (some ⟨g,off,none⟩)∧f g off)∨e:=by
 unfold Ef at h;split at h
 ·exact .inl ⟨_,_,rfl,h⟩
 ·exact .inr h
def zy(π:Pa)(t:Bool)(k:Value→Prop):Prop:=match π with
 | []=>False
 | _::_=>(t=true→False)∧k undef
theorem Ux{π:Pa}{t:Bool}{k:Value→Prop}(h:zy π t k):(t=true→False)∧k undef:=by
 unfold zy at h;split at h
 ·exact h.elim
 ·exact h
theorem aaW{P:Program}{a:Act}{w:World}{o:Oper}{ty yt:TypeId}{x y:Operand}{s t:Bool}(ho:o.op=.binOp .eql ty x y yt)(hx:a.eval x=.bool s)(hy:a.eval y=.bool t)(hu:P.underlying ty=some .bool):(execOp a.eval o).run P w=.ok (.value (.bool (s == t))) w:=by
 unfold execOp;simp[ho,hx,hy,eqGuard,binOp,run_equal_bool w ty s t hu]
theorem aaT{P:Program}{a:Act}{w:World}{o:Oper}{ty yt:TypeId}{x y:Operand}{s t:Bool}(ho:o.op=.binOp .neq ty x y yt)(hx:a.eval x=.bool s)(hy:a.eval y=.bool t)(hu:P.underlying ty=some .bool):(execOp a.eval o).run P w=.ok (.value (.bool (!(s == t)))) w:=by
 unfold execOp;simp[ho,hx,hy,eqGuard,binOp,run_equal_bool w ty s t hu]
def gT:Op→List Operand
 | .move x|.assign x|.nilCheck x|.load _ x|.box _ x|.unOp _ _ x|.fieldAddr _ x _|.extract x _|.convert _ _ x|.makeInterface _ x|.range _ x|.next x _|.entry x|.typeAssert x _ _ _|.panic x=>[x]
 | .pick c x y=>[c,x,y]
 | .binOp _ _ x y _|.indexAddr _ x y|.index _ x y|.store _ x y|.lookup _ x y _|.makeSlice _ x y=>[x,y]
 | .build _ ps|.buildSlice _ _ ps=>ps.toList.map (·.2)
 | .call c=>(match c.callee with|.value (.func _)=>[]|.value f=>[f]|.invoke r _=>[r]|.builtin _=>[])++c.args.toList
 | .makeFunc _ xs ys=>xs.toList++ys.toList
 | .slice _ x l h m=>x::(l.toList++h.toList++m.toList)
 | .mapUpdate _ a b c=>[a,b,c]
 | _=>[]
theorem ad0{P:Program}{a:Act}{w:World}{o:Oper}{ty yt:TypeId}{x y:Operand}{s t:ByteArray}(ho:o.op=.binOp .lss ty x y yt)(hx:a.eval x=.string s)(hy:a.eval y=.string t):(execOp a.eval o).run P w=.ok (.value (.bool (Op.bytesLess s.toList t.toList))) w:=by
 unfold execOp;simp[ho,hx,hy,eqGuard,binOp,Op.stringOp]
theorem ad1{P:Program}{a:Act}{w:World}{o:Oper}{ty yt:TypeId}{x y:Operand}{s t:ByteArray}(ho:o.op=.binOp .leq ty x y yt)(hx:a.eval x=.string s)(hy:a.eval y=.string t):(execOp a.eval o).run P w=.ok (.value (.bool (Op.bytesLess s.toList t.toList||s.toList == t.toList))) w:=by
 unfold execOp;simp[ho,hx,hy,eqGuard,binOp,Op.stringOp]
abbrev wQ (a:Act) (xs:List Operand) (vs:List Value):Prop:=Ca (fun x u=>a.eval x=u) xs vs
section
variable (l:Slots) (m:List fG) (π:Pa) (t:Bool) (k:Value→Prop)
def FBp(op:Op):Prop:=Nw l m π (gT op) fun vs=>∃ v,ob π t (∀ (a:Act) (w:World) (o:Oper),o.op=op→wQ a (gT op) vs→(execOp a.eval o).run Tryz.prog w=.ok (.value v) w) (k v)
def aea(op:BinOp)(ty:TypeId)(x y:Value)(fb:Prop):Prop:=match op with
 | .lss=>match x with
  | .string s=>(match y with|.string u=>k (.bool (Op.bytesLess s.toList u.toList))|_=>False)
  | _=>sA x y (zy π t k) fun _ m n=>k (.bool (decide (m<n)))
 | .leq=>match x with
  | .string s=>(match y with|.string u=>k (.bool (Op.bytesLess s.toList u.toList||s.toList == u.toList))|_=>False)
  | _=>sA x y (zy π t k) fun _ m n=>k (.bool (decide (m≤n)))
 | .gtr=>sA x y (zy π t k) fun _ m n=>k (.bool (decide (n<m)))
 | .geq=>sA x y (zy π t k) fun _ m n=>k (.bool (decide (n≤m)))
 | .add=>sA x y (zy π t k) fun κ m n=>Qa κ (m+n) fun p=>ob π t p (k (.int κ (m+n)))
 | .sub=>sA x y (zy π t k) fun κ m n=>Qa κ (m-n) fun p=>ob π t p (k (.int κ (m-n)))
 | .mul=>sA x y (zy π t k) fun κ m n=>Qa κ (m*n) fun p=>ob π t p (k (.int κ (m*n)))
 | .and=>sA x y (zy π t k) fun κ m n=>∃ z,ob π t (κ.wrap (BitVec.ofInt κ.bits m&&&BitVec.ofInt κ.bits n).toNat=z) (k (.int κ z))
 | .or=>sA x y (zy π t k) fun κ m n=>∃ z,ob π t (κ.wrap (BitVec.ofInt κ.bits m|||BitVec.ofInt κ.bits n).toNat=z) (k (.int κ z))
 | .xor=>sA x y (zy π t k) fun κ m n=>∃ z,ob π t (κ.wrap (BitVec.ofInt κ.bits m ^^^ BitVec.ofInt κ.bits n).toNat=z) (k (.int κ z))
 | .andNot=>sA x y (zy π t k) fun κ m n=>∃ z,ob π t (κ.wrap (BitVec.ofInt κ.bits m&&&~~~ BitVec.ofInt κ.bits n).toNat=z) (k (.int κ z))
 | .eql=>match x with
  | .int _ _=>sA x y (zy π t k) fun _ m n=>k (.bool (decide (m=n)))
  | .string s=>(match y with|.string u=>k (.bool (s.toList == u.toList))|_=>False)
  | .agg xs=>(match y with|.agg ys=>∃ b,ob π t (Tryz.prog.eqGuardType Tryz.prog.depth ty=false∧∀ w,(Op.equalIn 10000 ty (.agg xs) (.agg ys)).run Tryz.prog w=.ok b w) (k (.bool b))|_=>False)
  | .bool s=>(match y with|.bool u=>bif Nat.beq ty 4 then k (.bool (s == u)) else False|_=>False)
  | _=>fb
 | .neq=>match x with
  | .int _ _=>sA x y (zy π t k) fun _ m n=>k (.bool (!decide (m=n)))
  | .string s=>(match y with|.string u=>k (.bool (!(s.toList == u.toList)))|_=>False)
  | .agg xs=>(match y with|.agg ys=>∃ b,ob π t (Tryz.prog.eqGuardType Tryz.prog.depth ty=false∧∀ w,(Op.equalIn 10000 ty (.agg xs) (.agg ys)).run Tryz.prog w=.ok b w) (k (.bool (!b)))|_=>False)
  | .bool s=>(match y with|.bool u=>bif Nat.beq ty 4 then k (.bool (!(s == u))) else False|_=>False)
  | _=>fb
 | _=>fb
def Yd(c:Bool)(x:Operand):Bool:=match x with
 | .const (.bool b)=>bEq b c
 | _=>false
def pkV(x y:Operand)(b:Bool)(u v:Value):Prop:=
 match u with
 | .bool ub=>(match v with
  | .bool vb=>bif Yd false y then k (.bool (b&&ub)) else bif Yd true x then k (.bool (b||vb)) else k (.bool (bif b then ub else vb))
  | _=>False)
 | _=>∃ z,ob π t ((b=true→u=z)∧(b=false→v=z)) (k z)
def pk2(_ x y:Operand)(πt πf:Pa)(b:Bool):Prop:=pP l m πt x fun u=>pP l m πf y fun v=>pkV π t k x y b u v
def X1(c x y:Operand):Prop:=match c with
 | .tmp q=>lkM q (fun j p v=>bif D6 p π then (match v with|.bool b=>pk2 l m π t k c x y ((j,true)::π) ((j,false)::π) b|_=>False) else False)
  (match look q l with|some (.bool b)=>pk2 l m π t k c x y π π b|_=>False) m
 | _=>False
def pop(op:Op):Prop:=match op with
 | .move x=>pP l m π x k
 | .assign x=>pP l m π x k
 | .nilCheck x=>pP l m π x fun v=>match v with|.pointer (some p)=>k (.pointer (some p))|_=>False
 | .fieldAddr ty x f=>pP l m π x fun u=>Ef u (zy π t k) fun g off=>Cl ty (fun D=>match D with|.st _ El=>sq El f fun n=>k (.pointer (some ⟨g,off+n,none⟩))|_=>False) TT
 | .indexAddr ty x y=>pP l m π x fun u=>pP l m π y fun v=>match v with
  | .int _ z=>(match u with
   | .slice la n _=>Cl ty (fun D=>match D with|.sl _ kk _=>∃ b off i:Nat,ob π t (la=some ⟨b,off,none⟩∧z=(i:Int)∧i<n) (k (.pointer (some ⟨b,off+i*kk,none⟩)))|_=>False) TT
   | .pointer (some ⟨g,off,none⟩)=>Cl ty (fun D=>match D with|.arr n _ kk=>∃ i:Nat,ob π t (z=(i:Int)∧i<n) (k (.pointer (some ⟨g,off+i*kk,none⟩)))|_=>False) TT
   | _=>zy π t k)
  | _=>zy π t k
 | .index ty x y=>pP l m π x fun u=>pP l m π y fun v=>match v with
  | .int _ z=>(match u with
   | .string s=>Cl ty (fun D=>match D with|.str=>∃ i u:Nat,ob π t (z=(i:Int)∧∃ h:i<s.size,(s[i]'h).toNat=u) (k (.int .u8 (u:Int)))|_=>False) TT
   | _=>zy π t k)
  | _=>zy π t k
 | .binOp op ty x y yt=>pP l m π x fun u=>pP l m π y fun v=>aea π t k op ty u v (FBp l m π t k (.binOp op ty x y yt))
 | .unOp u ty x=>(match u with
  | .not=>pP l m π x fun v=>match v with|.bool b=>k (.bool (!b))|_=>zy π t k
  | .neg=>pP l m π x fun v=>match v with|.int κ n=>Qa κ (0-n) fun p=>ob π t p (k (.int κ (0-n)))|_=>False
  | _=>FBp l m π t k (.unOp u ty x))
 | .extract x i=>pP l m π x fun v=>match v with|.tuple vs=>sq vs.toList i k|_=>False
 | .pick c x y=>X1 l m π t k c x y
 | .call c=>(match c.callee with
  | .builtin .len=>(match c.args.toList with
   | [x]=>(match c.argTypes.toList with
    | [ty]=>pP l m π x fun v=>match v with
     | .slice _ n _=>Cl ty (fun D=>match D with|.sl _ _ _=>k (.int .i64 (n:Int))|_=>False) TT
     | .string s=>Cl ty (fun D=>match D with|.str=>k (.int .i64 (s.size:Int))|_=>False) TT
     | _=>False
    | _=>False)
   | _=>False)
  | _=>FBp l m π t k (.call c))
 | op=>FBp l m π t k op
end
def Gives(l:Slots)(m:List fG)(t:Bool)(op:Op)(v:Value):Prop:=
 ∀ (a:Act) (w:World) (o:Oper),o.op=op→(∀ x∈gT op,∀ π' v,DH l m π' x v→(∀ y∈π',Cond m y)→a.eval x=v)→t=true→(execOp a.eval o).run Tryz.prog w=.ok (.value v) w
section
variable {l:Slots} {m:List fG} {n:Nat} {π:Pa} {t:Bool} {k:Value→Prop}
theorem wz{a:Act}{xs:List Operand}{vs:List Value}(h:Ca (DH l m π) xs vs)(hc:∀ y∈π,Cond m y)(E:∀ x∈xs,∀ π' v,DH l m π' x v→(∀ y∈π',Cond m y)→a.eval x=v):wQ a xs vs:=by
 induction h with
 | nil=>exact .nil
 | cons h1 _ ih=>exact .cons (E _ (arh ..) _ _ h1 hc) (ih fun x hx=>E x (ari _ hx))
theorem wP(ht:t=true↔∀ x∈π,Cond m x){op:Op}(h:FBp l m π t k op):∃ v,k v∧Gives l m t op v:=by
 obtain⟨vs,h1,v,h2⟩:=jR h;obtain⟨h3,h4⟩:=gD h2;exact⟨v,h4,fun a w o ho E bp=>h3 bp a w o ho (wz h1 (ht.1 bp) E)⟩
theorem cB{op:Op}(h:zy π t k):∃ v,k v∧Gives l m t op v:=by
 obtain⟨h1,h2⟩:=Ux h;exact⟨_,h2,fun a w o ho E bp=>(h1 bp).elim⟩
theorem TA{c:Bool}{x:Operand}(h:Yd c x=true):x=.const (.bool c):=by
 unfold Yd at h;split at h
 ·rw[Vc h]
 ·cases h
theorem Sk{a:Act}{w:World}{o:Oper}{c x y:Operand}{b:Bool}{z:Value}(ho:o.op=.pick c x y)(hc:a.eval c=.bool b)(h1:b=true→a.eval x=z)(h2:b=false→a.eval y=z):(execOp a.eval o).run Tryz.prog w=.ok (.value z) w:=by
 have:=sI (P:=Tryz.prog) (w:=w) ho hc rfl rfl
 cases b with
 | true=>rw[← h1 rfl];exact this
 | false=>rw[← h2 rfl];exact this
theorem Sx(_:t=true↔∀ x∈π,Cond m x){c x y:Operand}{b:Bool}{πc πt πf:Pa}(hc:DH l m πc c (.bool b))(hcc:t=true→∀ z∈πc,Cond m z)(hxt:t=true→b=true→∀ z∈πt,Cond m z)(hyf:t=true→b=false→∀ z∈πf,Cond m z)
 (h:pk2 l m π t k c x y πt πf b):∃ v,k v∧Gives l m t (.pick c x y) v:=by
 obtain⟨u,h1,h⟩:=bQ h;obtain⟨v,h2,h⟩:=bQ h;have key:∀ {z:Value},k z→(t=true→(b=true→u=z)∧(b=false→v=z))→∃ v,k v∧Gives l m t (.pick c x y) v:=fun {z} hk hz=>⟨z,hk,fun a w o ho E bp=>Sk ho (E c (by simp[gT]) _ _ hc (hcc bp)) (fun hb=>(hz bp).1 hb▸E x (by simp[gT]) _ _ h1 (hxt bp hb)) (fun hb=>(hz bp).2 hb▸E y (by simp[gT]) _ _ h2 (hyf bp hb))⟩
 cases u with
 | bool ub=>
  cases v with
  | bool vb=>
   have hk:bif Yd false y then k (.bool (b&&ub)) else bif Yd true x then k (.bool (b||vb)) else k (.bool (bif b then ub else vb)):=h
   cases e1:Yd false y with
   | true=>
    rw[e1] at hk;have e2:=TA e1;subst e2;have hv:Value.bool false=.bool vb:=h2;exact key hk fun _=>⟨fun hb=>by rw[hb];rfl,fun hb=>by rw[hb,← hv];rfl⟩
   | false=>
    rw[e1] at hk
    cases e2:Yd true x with
    | true=>
     rw[e2] at hk;have e3:=TA e2;subst e3;have hv:Value.bool true=.bool ub:=h1;exact key hk fun _=>⟨fun hb=>by rw[hb,← hv];rfl,fun hb=>by rw[hb];rfl⟩
    | false=>
     rw[e2] at hk;exact key hk fun _=>⟨fun hb=>by rw[hb];rfl,fun hb=>by rw[hb];rfl⟩
  | _=>exact h.elim
 | _=>
  obtain⟨z,h⟩:=h;obtain⟨h3,h4⟩:=gD h;exact key h4 h3
theorem KI(hL:iL m n)(ht:t=true↔∀ x∈π,Cond m x){op:Op}(h:pop l m π t k op):∃ v,k v∧Gives l m t op v:=by
 unfold pop at h;split at h
 ·rename_i x;obtain⟨v,h1,h2⟩:=bQ h;exact⟨v,h2,fun a w o ho E bp=>ef ho (E x (by simp[gT]) _ _ h1 (ht.1 bp))⟩
 ·rename_i x;obtain⟨v,h1,h2⟩:=bQ h;exact⟨v,h2,fun a w o ho E bp=>ni ho (E x (by simp[gT]) _ _ h1 (ht.1 bp))⟩
 ·rename_i x;obtain⟨v,h1,h2⟩:=bQ h;split at h2
  ·exact⟨_,h2,fun a w o ho E bp=>cZ ho (E x (by simp[gT]) _ _ h1 (ht.1 bp))⟩
  ·exact h2.elim
 ·rename_i ty x f;obtain⟨v,h1,h2⟩:=bQ h;rcases nL h2 with⟨g,off,rfl,h3⟩|h3
  case inr=>exact cB h3
  obtain⟨D,hD,h4⟩:=jB h3;split at h4
  ·obtain⟨off',h5,h6⟩:=fV h4;obtain⟨fs,hu,-,hf⟩:=R8 hD;obtain⟨fd,kk,hf1,rfl,hf2⟩:=hf _ _ h5;exact⟨_,h6,fun a w o ho E bp=>ku ho (E x (by simp[gT]) _ _ h1 (ht.1 bp)) hu hf1 hf2⟩
  ·exact h4.elim
 ·rename_i ty x y;obtain⟨u,h1,h2⟩:=bQ h;obtain⟨v,h3,h4⟩:=bQ h2;split at h4
  ·split at h4
   ·obtain⟨D,hD,h5⟩:=jB h4;split at h5
    ·obtain⟨b,off,i,h5⟩:=h5;obtain⟨h6,h7⟩:=gD h5;obtain⟨hu,hi⟩:=CV hD;refine⟨_,h7,fun a w o ho E bp=>?_⟩;obtain⟨rfl,rfl,h8⟩:=h6 bp;exact bT ho (E x (by simp[gT]) _ _ h1 (ht.1 bp)) (E y (by simp[gT]) _ _ h3 (ht.1 bp)) h8 hu (AX hi)
    ·exact h5.elim
   ·obtain⟨D,hD,h5⟩:=jB h4;split at h5
    ·obtain⟨i,h5⟩:=h5;obtain⟨h6,h7⟩:=gD h5;obtain⟨hu,hi,-⟩:=Ki hD;refine⟨_,h7,fun a w o ho E bp=>?_⟩;obtain⟨rfl,h8⟩:=h6 bp;exact L5 ho (E x (by simp[gT]) _ _ h1 (ht.1 bp)) (E y (by simp[gT]) _ _ h3 (ht.1 bp)) h8 hu hi
    ·exact h5.elim
   ·exact cB h4
  ·exact cB h4
 ·rename_i ty x y;obtain⟨u,h1,h2⟩:=bQ h;obtain⟨v,h3,h4⟩:=bQ h2;split at h4
  ·split at h4
   ·obtain⟨D,hD,h5⟩:=jB h4;split at h5
    ·obtain⟨i,u,h5⟩:=h5;obtain⟨h6,h7⟩:=gD h5;refine⟨_,h7,fun a w o ho E bp=>?_⟩;obtain⟨rfl,hlt,rfl⟩:=h6 bp;exact sJ ho (E x (by simp[gT]) _ _ h1 (ht.1 bp)) (E y (by simp[gT]) _ _ h3 (ht.1 bp)) hlt (Kh hD)
    ·exact h5.elim
   ·exact cB h4
  ·exact cB h4
 ·rename_i op ty x y yt;obtain⟨u,h1,h2⟩:=bQ h;obtain⟨v,h3,h4⟩:=bQ h2;have hx:∀ {a:Act},(∀ x'∈gT (.binOp op ty x y yt),∀ π' v,DH l m π' x' v→(∀ y∈π',Cond m y)→a.eval x'=v)→t=true→a.eval x=u∧a.eval y=v:=fun E bp=>⟨E x (by simp[gT]) _ _ h1 (ht.1 bp),E y (by simp[gT]) _ _ h3 (ht.1 bp)⟩
  clear h h2;unfold aea at h4;split at h4
  ·split at h4
   ·split at h4
    ·exact⟨_,h4,fun a w o ho E bp=>ad0 ho (hx E bp).1 (hx E bp).2⟩
    ·exact h4.elim
   rcases gi h4 with⟨κ,i,j,e1,rfl,h5⟩|h5
   case inr=>exact cB h5
   exact⟨_,h5,fun a w o ho E bp=>j5 ho ((hx E bp).1.trans e1) (hx E bp).2⟩
  ·split at h4
   ·split at h4
    ·exact⟨_,h4,fun a w o ho E bp=>ad1 ho (hx E bp).1 (hx E bp).2⟩
    ·exact h4.elim
   rcases gi h4 with⟨κ,i,j,e1,rfl,h5⟩|h5
   case inr=>exact cB h5
   exact⟨_,h5,fun a w o ho E bp=>YM ho ((hx E bp).1.trans e1) (hx E bp).2⟩
  ·rcases gi h4 with⟨κ,i,j,rfl,rfl,h5⟩|h5
   case inr=>exact cB h5
   exact⟨_,h5,fun a w o ho E bp=>IG ho (hx E bp).1 (hx E bp).2⟩
  ·rcases gi h4 with⟨κ,i,j,rfl,rfl,h5⟩|h5
   case inr=>exact cB h5
   exact⟨_,h5,fun a w o ho E bp=>Ol ho (hx E bp).1 (hx E bp).2⟩
  ·rcases gi h4 with⟨κ,i,j,rfl,rfl,h5⟩|h5
   case inr=>exact cB h5
   obtain⟨p,h6,h7⟩:=zo h5;obtain⟨h8,h9⟩:=gD h6;exact⟨_,h9,fun a w o ho E bp=>h7 (h8 bp)▸fS ho (hx E bp).1 (hx E bp).2⟩
  ·rcases gi h4 with⟨κ,i,j,rfl,rfl,h5⟩|h5
   case inr=>exact cB h5
   obtain⟨p,h6,h7⟩:=zo h5;obtain⟨h8,h9⟩:=gD h6;exact⟨_,h9,fun a w o ho E bp=>h7 (h8 bp)▸Oj ho (hx E bp).1 (hx E bp).2⟩
  ·rcases gi h4 with⟨κ,i,j,rfl,rfl,h5⟩|h5
   case inr=>exact cB h5
   obtain⟨p,h6,h7⟩:=zo h5;obtain⟨h8,h9⟩:=gD h6;exact⟨_,h9,fun a w o ho E bp=>h7 (h8 bp)▸YL ho (hx E bp).1 (hx E bp).2⟩
  ·rcases gi h4 with⟨κ,i,j,rfl,rfl,z,h5⟩|h5
   case inr=>exact cB h5
   obtain⟨h8,h9⟩:=gD h5;exact⟨_,h9,fun a w o ho E bp=>h8 bp▸U3 ho (hx E bp).1 (hx E bp).2⟩
  ·rcases gi h4 with⟨κ,i,j,rfl,rfl,z,h5⟩|h5
   case inr=>exact cB h5
   obtain⟨h8,h9⟩:=gD h5;exact⟨_,h9,fun a w o ho E bp=>h8 bp▸adY ho (hx E bp).1 (hx E bp).2⟩
  ·rcases gi h4 with⟨κ,i,j,rfl,rfl,z,h5⟩|h5
   case inr=>exact cB h5
   obtain⟨h8,h9⟩:=gD h5;exact⟨_,h9,fun a w o ho E bp=>h8 bp▸adW ho (hx E bp).1 (hx E bp).2⟩
  ·rcases gi h4 with⟨κ,i,j,rfl,rfl,z,h5⟩|h5
   case inr=>exact cB h5
   obtain⟨h8,h9⟩:=gD h5;exact⟨_,h9,fun a w o ho E bp=>h8 bp▸U2 ho (hx E bp).1 (hx E bp).2⟩
  ·split at h4
   ·rcases gi h4 with⟨κ,i,j,h5,rfl,h6⟩|h5
    case inr=>exact cB h5
    exact⟨_,h6,fun a w o ho E bp=>U1 ho ((hx E bp).1.trans h5) (hx E bp).2⟩
   ·split at h4
    ·exact⟨_,h4,fun a w o ho E bp=>b_ ho (hx E bp).1 (hx E bp).2⟩
    ·exact h4.elim
   ·split at h4
    ·obtain⟨b,h5⟩:=h4;obtain⟨h6,h7⟩:=gD h5;exact⟨_,h7,fun a w o ho E bp=>aaX ho (hx E bp).1 (hx E bp).2 (h6 bp).1 ((h6 bp).2 w)⟩
    ·exact h4.elim
   ·split at h4
    ·cases hb:Nat.beq ty 4 with
     | false=>rw[hb] at h4;exact h4.elim
     | true=>
      rw[hb] at h4;exact⟨_,h4,fun a w o ho E bp=>aaW ho (hx E bp).1 (hx E bp).2 (arf hb▸u4)⟩
    ·exact h4.elim
   ·exact wP ht h4
  ·split at h4
   ·rcases gi h4 with⟨κ,i,j,h5,rfl,h6⟩|h5
    case inr=>exact cB h5
    exact⟨_,h6,fun a w o ho E bp=>U0 ho ((hx E bp).1.trans h5) (hx E bp).2⟩
   ·split at h4
    ·exact⟨_,h4,fun a w o ho E bp=>adZ ho (hx E bp).1 (hx E bp).2⟩
    ·exact h4.elim
   ·split at h4
    ·obtain⟨b,h5⟩:=h4;obtain⟨h6,h7⟩:=gD h5;exact⟨_,h7,fun a w o ho E bp=>aaU ho (hx E bp).1 (hx E bp).2 (h6 bp).1 ((h6 bp).2 w)⟩
    ·exact h4.elim
   ·split at h4
    ·cases hb:Nat.beq ty 4 with
     | false=>rw[hb] at h4;exact h4.elim
     | true=>
      rw[hb] at h4;exact⟨_,h4,fun a w o ho E bp=>aaT ho (hx E bp).1 (hx E bp).2 (arf hb▸u4)⟩
    ·exact h4.elim
   ·exact wP ht h4
  ·exact wP ht h4
 ·rename_i u ty x;split at h
  ·obtain⟨v,h1,h2⟩:=bQ h;split at h2
   ·exact⟨_,h2,fun a w o ho E bp=>oD ho (E x (by simp[gT]) _ _ h1 (ht.1 bp))⟩
   ·exact cB h2
  ·obtain⟨v,h1,h2⟩:=bQ h;split at h2
   ·obtain⟨p,h6,h7⟩:=zo h2;obtain⟨h8,h9⟩:=gD h6;exact⟨_,h9,fun a w o ho E bp=>h7 (h8 bp)▸UZ ho (E x (by simp[gT]) _ _ h1 (ht.1 bp))⟩
   ·exact h2.elim
  ·exact wP ht h
 ·rename_i x i;obtain⟨v,h1,h2⟩:=bQ h;split at h2
  ·rename_i vs;obtain⟨z,h3,h4⟩:=fV h2;exact⟨_,h4,fun a w o ho E bp=>bO ho (E x (by simp[gT]) _ _ h1 (ht.1 bp)) (by simpa using h3)⟩
  ·exact h2.elim
 ·rename_i c x y;unfold X1 at h;split at h
  ·rename_i q;rcases Tg h with⟨e,h1,h2,h3⟩|⟨h1,h2⟩
   ·cases hs:D6 e.p π with
    | false=>rw[hs] at h3;exact h3.elim
    | true=>
     rw[hs] at h3;have h3:(match e.v with|.bool b=>pk2 l m π t k (.tmp q) x y ((e.j,true)::π) ((e.j,false)::π) b|_=>False):=h3;split at h3
     ·rename_i b hv
      have xJ:t=true→∀ b',b=b'→∀ z∈(e.j,b')::π,Cond m z:=fun bp b' hb z hz=>by
       rcases aq5.1 hz with rfl|hz
       ·exact⟨e,h1,rfl,hL.sub h1 ht hs bp,by rw[hv,hb]⟩
       ·exact ht.1 bp z hz
      exact Sx ht (πc:=π) (.inl ⟨e,h1,h2,hv,hs⟩) (fun bp=>ht.1 bp) (fun bp hb=>xJ bp _ hb) (fun bp hb=>xJ bp _ hb) h3
     ·exact h3.elim
   ·split at h2
    ·rename_i b hl;exact Sx ht (πc:=π) (.inr ⟨h1,hl⟩) (fun bp=>ht.1 bp) (fun bp _=>ht.1 bp) (fun bp _=>ht.1 bp) h2
    ·exact h2.elim
  ·exact h.elim
 ·rename_i c;split at h
  ·rename_i hc;split at h
   ·rename_i x hx;split at h
    ·rename_i ty hty;obtain⟨v,h1,h2⟩:=bQ h;have e1:c.args=#[x]:=Array.toList_inj.1 hx;have e2:c.argTypes=#[ty]:=Array.toList_inj.1 hty;have e3:c={ callee:=.builtin .len,args:=#[x],argTypes:=#[ty] }:=by cases c;simp only at hc e1 e2;rw[hc,e1,e2]
     split at h2
     ·obtain⟨D,hD,h5⟩:=jB h2;split at h5
      ·exact⟨_,h5,fun a w o ho E bp=>gA (ho.trans (by rw[e3])) (E x (by simp[gT,hx,hc]) _ _ h1 (ht.1 bp)) (CV hD).1⟩
      ·exact h5.elim
     ·obtain⟨D,hD,h5⟩:=jB h2;split at h5
      ·exact⟨_,h5,fun a w o ho E bp=>Bv (ho.trans (by rw[e3])) (E x (by simp[gT,hx,hc]) _ _ h1 (ht.1 bp)) (Kh hD)⟩
      ·exact h5.elim
     ·exact h2.elim
    ·exact h.elim
   ·exact h.elim
  ·exact wP ht h
 ·exact wP ht h
end
section
variable {P:Program} {ops:Array Oper} {Q:Exit→Act→World→Prop} {rest:List Oper} {a:Act} {B:Nat} {w w' w0:World} {o:Oper} {v:Value} {d N:Nat} {l:Slots} {j s:Nat} {c t u:Bool} {bs:List Bx} {rs:List Rw}
theorem Eu{b:Bool}(hg:o.guard=some (j,b))(hj:(ops[j]?).bind (·.dst)=some s)(h:At a s (.bool c))(ht:(c == b)=t)(hr:t=true→(execOp a.eval o).run P w=.ok (.value v) w)(hd:o.dst=some d)(F:Fs a N l)(hN:Nat.blt d N=true){x:Value}(ex:v=x)
 (next:∀ a',Fs a' N ((d,gd t x)::l)→wpList P ops Q rest a' w):wpList P ops Q (o::rest) a w:=by
 subst ex
 cases t with
 | true=>
  have e:c=b:=by simpa using ht
  subst e;exact kv (gn hg hj h) (hr rfl) hd F hN next
 | false=>exact ko hd hg hj h ht F hN next
theorem afS{b:Bool}(hg:o.guard=some (j,b))(hj:(ops[j]?).bind (·.dst)=some s)(h:At a s (.bool c))(ht:(c == b)=t){f:FuncId}{args:t=true→Array Value}(hr:∀ e,(execOp a.eval o).run P w=.ok (.enter f (args e)) w)
 (hc:∀ e,Calls P f (args e) w fun e w'=>e=.returned v∧ara w.heap.size w w') (hd:o.dst=some d) (F:Fs a N l) (hN:Nat.blt d N=true) (M:aV B w0 w bs rs)
 (next:∀ a' w',Fs a' N ((d,gd t v)::l)→aV B w0 w' bs rs→wpList P ops Q rest a' w'):wpList P ops Q (o::rest) a w:=by
 cases t with
 | true=>
  have e:c=b:=by simpa using ht
  subst e;exact kc (gn hg hj h) (hr rfl) (hc rfl) hd F hN M next
 | false=>exact ko hd hg hj h ht F hN fun a' F=>next a' w F M
theorem kt(hw:Region.wanted o (yielded ops a.tmps)=true){f:FuncId}{args:Array Value}(hr:(execOp a.eval o).run P w=.ok (.enter f args) w){R:Value→World→Prop}
 (hc:Calls P f args w fun e w'=>∃ v,e=.returned v∧R v w') (hd:o.dst=some d) (F:Fs a N l) (hN:Nat.blt d N=true)
 (next:∀ v a' w',R v w'→Fs a' N ((d,v)::l)→wpList P ops Q rest a' w'):wpList P ops Q (o::rest) a w:=
 j_ hw hr hc hd F.fr (by simpa using hN) fun u a' w' h p=>next u a' w' h (F.put p)
theorem iA{x:Value}(h:∃ v,At a s v∧kr x v w):At a s x:=by
 obtain⟨_,h,rfl⟩:=h;exact h
end
structure St (X:List Nat) (w w':World):Prop where
 os:w'.os=w.os
 tape:w'.tape=w.tape
 output:w'.output=w.output
 size:w.heap.size≤w'.heap.size
 block:∀ k,k<w.heap.size→k∉X→w'.heap[k]?=w.heap[k]?
theorem gJ(X:List Nat)(w w':World)(h:ara w.heap.size w w'):St X w w':=⟨h.os,h.tape,h.output,h.size,fun k hk _=>h.block k hk⟩
theorem fJ(X:List Nat)(a b c:World)(h:St X a b)(k:St X b c):St X a c:=
 ⟨k.os.trans h.os,k.tape.trans h.tape,k.output.trans h.output,aq1 h.size k.size,fun i hi hx=>(k.block i (aq_ hi h.size) hx).trans (h.block i hi hx)⟩
theorem St.grown{X:List Nat}{w w':World}{k:Nat}(h:w.grownBy w' (some k))(hk:k∈X):St X w w':=
 ⟨h.os,h.tape,h.output,h.size,fun i hi hx=>h.block i hi fun e=>hx (by rw[aq8 e];exact hk)⟩
theorem St.below{X:List Nat}{w w':World}(h:St X w w'){B:Nat}(hB:B≤w.heap.size)(hx:∀ k∈X,B≤k):ara B w w':=
 ⟨h.os,h.tape,h.output,h.size,fun k hk=>h.block k (aq_ hk hB) fun hm=>by have:=hx k hm;omega⟩
theorem St.whole{X:List Nat}{w w':World}(h:St X w w'){g:Nat}{t:TypeId}{cs:Array Value}(hw:Whole w g t cs)(hg:g∉X):Whole w' g t cs:=
 (h.block g hw.lt hg).trans hw
theorem St.own{X:List Nat}{w w':World}(h:St X w w'){base:Nat}{e:TypeId}{k n:Nat}{v:Value}{xs:List Value}(ho:w.ownsRow base e k v n xs)(hv:∀ q∈X,v.ownBlock≠some q):w'.ownsRow base e k v n xs:=by
 refine⟨ho.1,?_⟩;rcases ho.2 with h0|⟨g,cap,cur,rfl,hb,hg,h1,h2,h3,h4⟩
 ·exact .inl h0
 ·refine .inr ⟨g,cap,cur,rfl,hb,?_,h1,h2,h3,h4⟩;rw[h.block g (Array.getElem?_eq_some_iff.1 hg).1 fun hm=>hv g hm rfl];exact hg
def wN(S:World→World→Prop)(g:Good):Prop:=∀ v w w',g v w→S w w'→g v w'
def q5(S:World→World→Prop):List Good→Prop
 | []=>True
 | g::r=>wN S g∧q5 S r
theorem AQ{S:World→World→Prop}:∀ {l:List Good},q5 S l→∀ g∈l,wN S g
 | [],_,_,h=>by cases h
 | x::r,h,g,hg=>by
  rcases aq5.1 hg with rfl|hg
  ·exact h.1
  ·exact AQ h.2 g hg
theorem qW(S:World→World→Prop)(x:Value):wN S (kr x):=fun _ _ _ h _=>h
def oA(S:World→World→Prop)(P:Program)(ops:Array Oper)(slots:List Nat)(aU:List Good)(inv:World→Prop)(a0:Act)(N:Nat):List Oper→List Good→Prop
 | [],_=>True
 | _::_,[]=>False
 | o::r,g::gs=>(∀ (a:Act) (w:World) (Q':Exit→Act→World→Prop),Fr a N→inv w →
  (∀ k,(∃ gr,(⟨k,gr⟩:Edge)∈o.after.toList∧Region.binds .any ⟨k,gr⟩=true)→∀ s g,slots[k]?=some s→aU[k]?=some g→∃ v,At a s v∧g v w) →
  (∀ j u,slots.contains j=false→At a0 j u→At a j u) →
  (∀ v a' w',ara w.heap.size w w'→g v w'→Put a (o.dst.getD 0) v a'→Q' .normal a' w') →
  (∀ v a' w',S w w'→g v w'→Put a (o.dst.getD 0) v a'→Q' .normal a' w')→wpList P ops Q' [o] a w)∧oA S P ops slots aU inv a0 N r gs
theorem IL{S:World→World→Prop}(hS:∀ w w',ara w.heap.size w w'→S w w'){P:Program}{ops:Array Oper}{slots:List Nat}{aU:List Good}{inv:World→Prop}{a0:Act}{N:Nat}:∀ (l:List Oper) (gs:List Good),oA S P ops slots aU inv a0 N l gs→∀ (i:Nat) (o:Oper),l[i]?=some o →
 (∀ (a:Act) (w:World) (Q':Exit→Act→World→Prop),Fr a N→inv w →
  (∀ k,(∃ gr,(⟨k,gr⟩:Edge)∈o.after.toList∧Region.binds .any ⟨k,gr⟩=true)→∀ s g,slots[k]?=some s→aU[k]?=some g→∃ v,At a s v∧g v w) →
  (∀ j u,slots.contains j=false→At a0 j u→At a j u) →
  (∀ v a' w',S w w'→(∀ g:Good,gs[i]?=some g→g v w')→Put a (o.dst.getD 0) v a'→Q' .normal a' w')→wpList P ops Q' [o] a w)
 | [],_,_,i,o,h=>by simp at h
 | _::_,[],h,_,_,_=>h.elim
 | x::r,g::gs,h,0,o,ho=>by
  simp at ho;subst ho;exact fun a w Q' h1 h2 h3 h4 h5=>h.1 a w Q' h1 h2 h3 h4 (fun v a' w' hb hg hp=>h5 v a' w' (hS _ _ hb) (fun g' e=>by simp at e;rw[← e];exact hg) hp) fun v a' w' hb hg hp=>h5 v a' w' hb (fun g' e=>by simp at e;rw[← e];exact hg) hp
 | x::r,g::gs,h,i+1,o,ho=>by
  have:=IL hS r gs h.2 i o (by simpa using ho);simpa using this
section
variable {P:Program} {Q:Exit→Act→World→Prop}
theorem yp(S:World→World→Prop)(hS:∀ w w',ara w.heap.size w w'→S w w'){id:Nat}{l:List Oper}{a:Act}{w:World}{N:Nat}(k:Nat)(slots:List Nat)(aU:List Good)(inv:World→Prop)
 (hm:P.follows .mixedOrders=true) (fP:ordered 0 l=true) (htail:vu k l=true) (jc:(l.take k).map (·.dst)=slots.map some) (hnd:slots.Nodup) (_:slots.all (fun s=>decide (s<N))=true) (_:aU.length=slots.length)
 (hf:Fr a N) (h0:inv w.drew) (hinv:∀ w w',inv w→S w w'→inv w') (hst:q5 S aU)
 (hstep:oA S P l.toArray slots aU inv a N (l.take k) aU)
 (hend:∀ a' w',rO slots aU inv a N (fun _=>true) a' w'→cF P l.toArray (Q .normal) (l.drop k) a' w'):(Code.region id l.toArray true).wp P Q a w:=by
 have ZV:=AQ hst
 have hk:slots.length=(l.take k).length:=by
  have:=congrArg List.length jc;simpa using this.symm
 have hsl:∀ (i:Nat) (o:Oper),i<k→l[i]?=some o→∃ s,slots[i]?=some s∧o.dst=some s:=fun i o hi ho=>by
  have h:=congrArg (fun x:List (Option Tmp)=>x[i]?) jc;simp only[aq9,List.getElem?_take,if_pos hi,ho,Option.map_some] at h
  cases hs:slots[i]? with
  | none=>rw[hs] at h;cases h
  | some s=>rw[hs] at h;exact⟨s,rfl,aq8 h⟩
 refine jl hm fP (fun L b u=>(∀ j o,l[j]?=some o→L j=true→∀ e∈o.after.toList,Region.binds .any e=true→L e.on=true) ∧
  ((∀ j,k≤j→j<l.length→L j=false)→rO slots aU inv a N L b u) ∧
  (∀ j,k≤j→j<l.length→L j=true→(∀ j',j<j'→j'<l.length→L j'=false)→cF P l.toArray (Q .normal) (l.drop (j+1)) b u)) ?_ ?_ ?_
 ·exact⟨fun _ _ _ h=>(by cases h),fun _=>⟨hf,h0,(fun i h=>(by cases h)),fun _ _ _ h=>h⟩,fun _ _ _ h=>(by cases h)⟩
 ·have key:∀ (i:Nat) (o:Oper),l[i]?=some o→∀ (L:Nat→Bool) (b:Act) (u:World) (Q':Exit→Act→World→Prop),
   ((∀ j o,l[j]?=some o→L j=true→∀ e∈o.after.toList,Region.binds .any e=true→L e.on=true)∧((∀ j,k≤j→j<l.length→L j=false)→rO slots aU inv a N L b u) ∧
     (∀ j,k≤j→j<l.length→L j=true→(∀ j',j<j'→j'<l.length→L j'=false)→cF P l.toArray (Q .normal) (l.drop (j+1)) b u))→L i=false →
   (∀ e∈o.after.toList,Region.binds .any e=true→L e.on=true) →
   (∀ b u,((∀ j o,l[j]?=some o→upd L i j=true→∀ e∈o.after.toList,Region.binds .any e=true→upd L i e.on=true)∧((∀ j,k≤j→j<l.length→upd L i j=false)→rO slots aU inv a N (upd L i) b u) ∧
    (∀ j,k≤j→j<l.length→upd L i j=true→(∀ j',j<j'→j'<l.length→upd L i j'=false)→cF P l.toArray (Q .normal) (l.drop (j+1)) b u))→Q' .normal b u) →
   wpList P l.toArray Q' [o] b u:=by
   intro i o ho L b u Q' ⟨hcl,hpl,Ye⟩ hL hA hK;have hil:=(aq6.1 ho).1;have up:∀ j,L j=true→upd L i j=true:=fun j hj=>by simp[upd,hj]
   have hcl':∀ j o,l[j]?=some o→upd L i j=true→∀ e∈o.after.toList,Region.binds .any e=true→upd L i e.on=true:=by
    intro j o' hj Bb e he hb;by_cases hji:j=i
    ·subst hji;obtain rfl:o=o':=aq8 (ho.symm.trans hj);exact up _ (hA e he hb)
    ·have hne:(j == i)=false:=by simpa using hji
     exact up _ (hcl j o' hj (by simpa[upd,hne] using Bb) e he hb)
   have hno:∀ j,k≤j→j<l.length→i<j→L j=false:=fun j hkj hj hij=>by
    cases hx:L j with
    | false=>rfl
    | true=>
     obtain⟨oj,hoj⟩:∃ oj,l[j]?=some oj:=⟨_,aq0 hj⟩;have:=mg fP htail L hcl hoj hkj (hcl j oj hoj hx) i hij;rw[hL] at this;cases this
   by_cases hik:i<k
   ·have hD:=hpl fun j hkj hj=>hno j hkj hj (by omega)
    obtain⟨s,hs,hd⟩:=hsl i o hik ho;refine IL hS (l.take k) aU hstep i o (by rw[List.getElem?_take,if_pos hik];exact ho) b u Q' hD.fr hD.inv (fun j ⟨gr,hj,hb⟩ s g hs hg=>hD.done j (hA _ hj hb) s g hs hg) hD.rest ?_;intro v b' u' hb hg hp;rw[hd] at hp;refine hK b' u' ⟨hcl',fun _=>⟨hp.fr hD.fr,hinv _ _ hD.inv hb,?_,?_⟩,?_⟩
    ·intro j hj s' g' hs' hg';by_cases hji:j=i
     ·subst hji;obtain rfl:s=s':=aq8 (hs.symm.trans hs');exact⟨v,hp.now,hg g' hg'⟩
     ·have hne:s'≠s:=fun e=>hji (kT hnd (e▸hs') hs)
      have Bb:L j=true:=by
       have:(j == i)=false:=by simpa using hji
       simpa[upd,this] using hj
      obtain⟨x,hx,hgx⟩:=hD.done j Bb s' g' hs' hg';exact⟨x,hp.old (by simpa using hne) hx,ZV g' (aq7 hg') x u u' hgx hb⟩
    ·intro j x hj hx
     have hne:j≠s:=fun e=>by
      have hm:j∈slots:=e▸aq7 hs;have:slots.contains j=true:=by simpa using hm
      rw[this] at hj;cases hj
     exact hp.old (by simpa using hne) (hD.rest j x hj hx)
    ·intro j hkj hj Bb;have hne:(j == i)=false:=by simp;omega
     have:=hno j hkj hj (by omega);simp[upd,hne,this] at Bb
   ·have hall:=mg fP htail L hcl ho (by omega) hA
    have hT:cF P l.toArray (Q .normal) (l.drop i) b u:=by
     by_cases hik':i=k
     ·subst hik'
      have hD:=hpl fun j hkj hj=>by
       by_cases hji:j=i
       ·rw[hji];exact hL
       ·exact hno j hkj hj (by omega)
      refine hend b u ⟨hD.fr,hD.inv,fun j _ s g hs hg=>hD.done j (hall j ?_) s g hs hg,hD.rest⟩;have:=(aq6.1 hs).1;rw[hk,arb] at this;omega
     ·have:=Ye (i-1) (by omega) (by omega) (hall (i-1) (by omega)) fun j' h1 h2=>by
       by_cases hji:j'=i
       ·rw[hji];exact hL
       ·exact hno j' (by omega) h2 (by omega)
      rwa [show i-1+1=i by omega] at this
    rw[List.drop_eq_getElem_cons hil] at hT
    have ho':l[i]=o:=by
     have:=aq0 hil;rw[ho] at this;exact(aq8 this).symm
    rw[ho'] at hT;refine hT Q' fun b' u' hT'=>hK b' u' ⟨hcl',fun h=>?_,fun j hkj hj Bb hlast=>?_⟩
    ·have:=h i (by omega) hil;simp[upd] at this
    ·by_cases hji:j=i
     ·subst hji;exact hT'
     ·have hne:(j == i)=false:=by simpa using hji
      by_cases hlt:j<i
      ·have:=hlast i hlt hil;simp[upd] at this
      ·have:=hno j hkj hj (by omega);simp[upd,hne,this] at Bb
  have all:∀ (r:List Oper) (m:Nat),(∀ i o,r[i]?=some o→l[m+i]?=some o)→lF P l.toArray (fun L b u=>(∀ j o,l[j]?=some o→L j=true→∀ e∈o.after.toList,Region.binds .any e=true→L e.on=true) ∧
   ((∀ j,k≤j→j<l.length→L j=false)→rO slots aU inv a N L b u) ∧
   (∀ j,k≤j→j<l.length→L j=true→(∀ j',j<j'→j'<l.length→L j'=false)→cF P l.toArray (Q .normal) (l.drop (j+1)) b u)) m r:=by
   intro r
   induction r with
   | nil=>intro m _;trivial
   | cons o r ih=>
    intro m h;refine⟨fun L b u Q' hI hL hA hK=>key m o (h 0 o rfl) L b u Q' hI hL hA hK,ih (m+1) fun i o' ho'=>?_⟩;have:=h (i+1) o' (by simpa using ho')
    rwa [show m+1+i=m+(i+1) by omega]
  exact all l 0 fun i o ho=>by simpa using ho
 ·intro L b u ⟨hcl,hpl,Ye⟩ hall;by_cases hkl:k<l.length
  ·have:=Ye (l.length-1) (by omega) (by omega) (hall _ (by omega)) fun j' h1 h2=>by omega
   rw[show l.length-1+1=l.length by omega,List.drop_length] at this;exact this
  ·have hD:=hpl fun j h1 h2=>by omega
   have:=hend b u ⟨hD.fr,hD.inv,fun j _ s g hs hg=>hD.done j (hall j ?_) s g hs hg,hD.rest⟩
   ·rw[List.drop_of_length_le (by omega)] at this;exact this
   ·have:=(aq6.1 hs).1;rw[hk,arb] at this;omega
theorem rdS(S:World→World→Prop)(hS:∀ w w',ara w.heap.size w w'→S w w')(hT:∀ a b c,S a b→S b c→S a c){w:World}{a:Act}{N:Nat}{id:Nat}{L:List Oper}{Q:Exit→Act→World→Prop}{l:Slots}(k:Nat)(slots:List Nat)(aU:List Good)
 (hm:P.follows .mixedOrders=true) (fP:ordered 0 L=true) (htail:vu k L=true) (jc:(L.take k).map (·.dst)=slots.map some) (hnd:slots.Nodup) (hbd:slots.all (fun s=>decide (s<N))=true) (hlen:aU.length=slots.length)
 (F:Fs a N l) (hst:q5 S aU) (hstep:oA S P L.toArray slots aU (S w) a N (L.take k) aU)
 (hend:∀ a' w',S w w'→Fs a' N (l.filter fun p=>!slots.contains p.1)→(∀ (i s:Nat) (g:Good),slots[i]?=some s→aU[i]?=some g→∃ v,At a' s v∧g v w')→cF P L.toArray (Q .normal) (L.drop k) a' w'):(Code.region id L.toArray true).wp P Q a w:=by
 refine yp S hS k slots aU (S w) hm fP htail jc hnd hbd hlen F.fr (hS _ _ (Below.refl _ _).drew) (fun _ _ h hb=>hT _ _ _ h hb) hst hstep ?_;intro a' w' D;refine hend a' w' D.inv ⟨D.fr,?_⟩ fun i s g hs hg=>D.done i rfl s g hs hg
 intro q v hq
 have key:∀ l:Slots,look q (l.filter fun p=>!slots.contains p.1)=some v→slots.contains q=false∧look q l=some v:=by
  intro l
  induction l with
  | nil=>intro h;exact absurd h (by simp[look])
  | cons p r ih=>
   intro h;obtain⟨s,u⟩:=p;rw[List.filter_cons] at h;rw[bB];split at h
   ·rename_i hc;rw[bB] at h
    cases e:q == s with
    | true=>
     rw[e] at h;have e':q=s:=by simpa using e
     subst e';exact⟨by simpa using hc,h⟩
    | false=>
     rw[e] at h;exact ih h
   ·rename_i hc;obtain⟨h1,h2⟩:=ih h
    cases e:q == s with
    | true=>
     have e':q=s:=by simpa using e
     subst e';rw[h1] at hc;simp at hc
    | false=>exact⟨h1,h2⟩
 obtain⟨h1,h2⟩:=key l hq;exact D.rest q v h1 (F.at_ q v h2)
end
end Go.Proofs.YtdcofoaihmongaaGreat
namespace Go.Proofs.YtdcofoaihmongaaGreat
open Go Go.ChangeMaps Go.MapKept
open Go.Maps (Keyed)
def dQ(w:World)(P:Program)(k:TypeId)(b r:Nat)(D left:List (Value×Value)):Prop:=
 ∃ es clock since seen c0,w.heap[b]?=some (.map es clock)∧Stamped es clock∧(es.toList.map fun e=>(e.key,e.val)).Perm D∧(∀ p∈D,∃ l,keyOf P k p.1=some l) ∧
  w.heap[r]?=some (.mapIter (some b) since seen c0)∧(∀ x∈es.toList,x.born<since)∧since≤c0∧since≤clock∧((leftOf es seen).toList.map fun e=>(e.key,e.val)).Perm left
variable {P:Program} {k:TypeId} {w:World} {b r:Nat} {D left:List (Value×Value)}
theorem dQ.map(h:dQ w P k b r D left):aL w P k b D:=by
 obtain⟨es,clock,_,_,_,h1,h2,h3,h4,_⟩:=h;exact⟨es,clock,h1,h2,h3,h4⟩
theorem dQ.ne(h:dQ w P k b r D left):r≠b:=by
 obtain⟨es,clock,since,seen,c0,hb,_,_,_,hr,_⟩:=h;intro e;rw[e,hb] at hr;cases hr
theorem dQ.lt(h:dQ w P k b r D left):r<w.heap.size:=by
 obtain⟨es,clock,since,seen,c0,_,_,_,_,hr,_⟩:=h;exact(Array.getElem?_eq_some_iff.1 hr).1
theorem dQ.kept{w':World}(h:dQ w P k b r D left)(hb:w'.heap[b]?=w.heap[b]?)(hr:w'.heap[r]?=w.heap[r]?):dQ w' P k b r D left:=by
 obtain⟨es,clock,since,seen,c0,h1,h2,h3,h4,h5,h6⟩:=h;exact⟨es,clock,since,seen,c0,hb.trans h1,h2,h3,h4,hr.trans h5,h6⟩
variable {t e:TypeId}
theorem aL.range(h:aL w P k b D)(ht:P.underlying t=some (.map k e)):
 ∃ w',(Instr.range t (.map (some b))).run P w=.ok (.pointer (some ⟨w.heap.size,0,none⟩)) w'∧dQ w' P k b w.heap.size D D∧w.grownBy w' none∧w'.heap.size=w.heap.size+1:=by
 have hlt:=h.lt;obtain⟨es,clock,hb,hs,hp,hk⟩:=h;refine⟨_,run_range_map w t k e b es clock ht hb,⟨es,clock,clock,#[],clock,((MapKept.heap_alloc w _).2 b hlt).trans hb,hs,hp,hk,(MapKept.heap_alloc w _).1,hs.1,Nat.le_refl _,Nat.le_refl _,?_⟩,World.grownBy_alloc w _ none,by simp⟩;have:leftOf es #[]=es:=by simp[leftOf]
 rw[this];exact hp
theorem wY:∀ (l:List MapEntry) (p:MapEntry→Bool) (e:MapEntry),(l.map (·.born)).Nodup→e∈l→p e=true→(l.filter p).Perm (e::l.filter fun x=>p x&&!(x.born == e.born))
 | [],_,_,_,h,_=>by cases h
 | x::l,p,e,hn,he,hp=>by
  simp only[List.map_cons,List.nodup_cons] at hn;rcases aq5.1 he with rfl|he'
  ·have h2:l.filter p=l.filter fun x=>p x&&!(x.born == e.born):=by
    refine List.filter_congr (fun y hy=>?_)
    have:(y.born == e.born)=false:=by
     simp only[beq_eq_false_iff_ne];intro hh;exact hn.1 (ard.2 ⟨y,hy,hh⟩)
    simp[this]
   simp[hp,← h2]
  ·have hx:(x.born == e.born)=false:=by
    simp only[beq_eq_false_iff_ne];intro hh;exact hn.1 (ard.2 ⟨e,he',hh.symm⟩)
   have ih:=wY l p e hn.2 he' hp;simp only[List.filter_cons,hx,Bool.not_false,Bool.and_true];split
   ·exact(ih.cons x).trans (List.Perm.swap _ _ _)
   ·exact ih
theorem dQ.next(h:dQ w P k b r D left)(ty:TypeId):
 (left=[]∧(Instr.next (.pointer (some ⟨r,0,none⟩)) false ty).run P w=.ok (.tuple #[.bool false]) w) ∨
 ∃ key val left' w',left.Perm ((key,val)::left')∧(Instr.next (.pointer (some ⟨r,0,none⟩)) false ty).run P w=.ok (.tuple #[.bool true,key,val]) w' ∧
  dQ w' P k b r D left'∧w.grownBy w' (some r)∧w'.heap.size=w.heap.size∧(Instr.entry (.pointer (some ⟨r,0,none⟩))).run P w'=.ok (.tuple #[key,val]) w':=by
 have hne:=h.ne;obtain⟨es,clock,since,seen,c0,hb,hs,hp,hk,hr,hold,hsc,hsk,hl⟩:=h;have hst:=(stamped_iff es clock).1 hs;rcases run_next_at (P:=P) w ty r b since c0 seen es clock hr hb hold hsc with⟨h0,hrun⟩|⟨e,he,w1,hal,hrun⟩
 ·refine Or.inl ⟨?_,hrun⟩;have:left.length=0:=by rw[← hl.length_eq];simpa using h0
  exact List.eq_nil_of_length_eq_zero this
 ·obtain⟨hem,hes⟩:=mem_left he;have hr1:w1.heap[r]?=some (.mapIter (some b) since seen c0):=by rcases hal with rfl|rfl<;>exact hr
  have hb1:w1.heap[b]?=some (.map es clock):=by rcases hal with rfl|rfl<;>exact hb
  have hset:=heap_set (o':=.mapIter (some b) since (seen.push e.born) clock) hr1;have hb':(setBlock w1 r (.mapIter (some b) since (seen.push e.born) clock)).heap[b]?=some (.map es clock):=(hset.2 b (fun e1=>hne e1.symm)).trans hb1
  refine Or.inr ⟨e.key,e.val,(leftOf es (seen.push e.born)).toList.map fun e=>(e.key,e.val),_,?_,hrun,⟨es,clock,since,seen.push e.born,clock,hb',hs,hp,hk,hset.1,hold,hsk,hsk,List.Perm.refl _⟩,?_,?_,
   run_entry_at _ r b since seen es clock e hset.1 hb' hem hst.2.1⟩
  ·refine hl.symm.trans ?_;have h1:=wY es.toList (fun e=>!seen.contains e.born) e hst.2.1 hem (by simp only[hes];rfl)
   have h2:(leftOf es (seen.push e.born)).toList=es.toList.filter fun x=>!seen.contains x.born&&!(x.born == e.born):=by
    simp only[leftOf,Array.toList_filter];refine List.filter_congr (fun x _=>?_);rw[contains_push];cases seen.contains x.born<;>cases(x.born == e.born)<;>rfl
   rw[h2];have h3:(leftOf es seen).toList=es.toList.filter fun e=>!seen.contains e.born:=by simp only[leftOf,Array.toList_filter]
   rw[h3];exact h1.map (fun e=>(e.key,e.val))
  ·rcases hal with rfl|rfl<;>exact⟨rfl,rfl,rfl,by simp[setBlock],fun i _ hi=>hset.2 i (fun e1=>hi (by rw[e1]))⟩
  ·rcases hal with rfl|rfl<;>simp[setBlock]
end Go.Proofs.YtdcofoaihmongaaGreat
namespace Go.Proofs.YtdcofoaihmongaaGreat
open Go Go.WideMaps
section
variable {P:Program} (w:World) {ops:Array Oper} {rest:List Oper} {o:Oper} {a:Act} {Q:Exit→Act→World→Prop}
theorem J6(hg:o.guard=none)(m x v:Operand)(t:TypeId)(hop:o.op=Op.mapUpdate t m x v)(mv key val:Value)(hm:a.eval m=mv)(hx:a.eval x=key)(hv:a.eval v=val)
 (Post:World→Prop) (hrun:∃ w',(Instr.mapUpdate t mv key val).run P w=.ok () w'∧Post w')
 (hK:∀ w',Post w'→wpList P ops Q rest (a.put o.dst undef) w'):wpList P ops Q (o::rest) a w:=by
 refine wpList_plain hg fun K' hK'=>?_
 obtain⟨w',hr,hp⟩:=hrun;unfold Oper.wp;simp[execOp,hop,hm,hx,hv,hr,Result.andThen];exact hK' _ _ (hK w' hp)
theorem rC(hg:o.guard=none)(m x:Operand)(t k:TypeId)(hop:o.op=Op.call { callee:=Callee.builtin Builtin.delete,args:=#[m,x],argTypes:=#[t,k] })(mv key:Value)(hm:a.eval m=mv)(hx:a.eval x=key)
 (Post:World→Prop) (hrun:∃ w',(Builtin.delete_ #[t,k] o.type #[mv,key]).run P w=.ok (.tuple #[]) w'∧Post w')
 (hK:∀ w',Post w'→wpList P ops Q rest (a.put o.dst (.tuple #[])) w'):wpList P ops Q (o::rest) a w:=by
 refine wpList_plain hg fun K' hK'=>?_
 obtain⟨w',hr,hp⟩:=hrun;unfold Oper.wp;simp[execOp,hop,resolve,invoke,builtin,hm,hx,hr,Result.andThen];exact hK' _ _ (hK w' hp)
end
theorem aL.len{P:Program}{k:TypeId}{w:World}{b:Nat}{D:List (Value×Value)}{t e:TypeId}(h:aL w P k b D)(ht:P.underlying t=some (.map k e))(ty:TypeId):
 (Builtin.len_ #[t] ty #[.map (some b)]).run P w=.ok (.int .i64 D.length) w:=by
 obtain⟨es,clock,hb,hl⟩:=h.size;simp[Builtin.len_,run_underlying ht,MapKept.run_getObj_map hb,goInt,Result.andThen,hl]
end Go.Proofs.YtdcofoaihmongaaGreat
namespace Go.Proofs.YtdcofoaihmongaaGreat
open Go.ChangeAt Go.ChangeShapes Go.RowKit Go.WideShapes
def mo(P:Program)(p:TypeId→List Value→Prop):List TypeId→List Value→Prop
 | [],cs=>cs=[]
 | t::ts,cs=>∃ a b,cs=a++b∧a.length=P.cellsOf t∧p t a∧mo P p ts b
def Rd(P:Program)(w:World):Nat→TypeId→List Value→Prop
 | 0,_,_=>False
 | f+1,t,cs=>
  match P.underlying t with
  | some .bool=>∃ b,cs=[.bool b]
  | some (.int k)=>∃ n,cs=[.int k n]∧(Lit.int k n).wf=true
  | some .string=>∃ s,cs=[.string s]∧s.size≤reachBytes
  | some (.slice e)=>∃ v,cs=[v]∧∃ es:List (List Value),SliceAt w v (P.cellsOf e) es.length es.flatten∧(∀ x∈es,x.length=P.cellsOf e∧Rd P w f e x)∧es.length*P.bytesOf e≤reachBytes
  | some (.struct fs)=>mo P (Rd P w f) (fs.toList.map (·.type)) cs
  | some (.array n e)=>∃ es:List (List Value),cs=es.flatten∧es.length=n∧∀ x∈es,x.length=P.cellsOf e∧Rd P w f e x
  | _=>∃ v,cs=[v]∧v.oneCell'=true
theorem mo.mono{P:Program}{p q:TypeId→List Value→Prop}(h:∀ t cs,p t cs→q t cs):∀ {ts:List TypeId} {cs:List Value},mo P p ts cs→mo P q ts cs
 | [],_,hp=>hp
 | _::_,_,⟨a,b,e,hl,ha,hb⟩=>⟨a,b,e,hl,h _ _ ha,mo.mono h hb⟩
theorem mo.one{P:Program}{p:TypeId→List Value→Prop}(h:∀ t cs,p t cs→∀ u∈cs,u.oneCell'=true):∀ {ts:List TypeId} {cs:List Value},mo P p ts cs→∀ u∈cs,u.oneCell'=true
 | [],_,hp,u,hu=>by rw[show _=[] from hp] at hu;cases hu
 | _::_,_,⟨a,b,e,hl,ha,hb⟩,u,hu=>by
  subst e;rcases List.mem_append.1 hu with h1|h1
  ·exact h _ _ ha u h1
  ·exact mo.one h hb u h1
theorem Rd.one{P:Program}{w:World}:∀ {f:Nat} {t:TypeId} {cs:List Value},Rd P w f t cs→∀ u∈cs,u.oneCell'=true
 | 0,_,_,h,_,_=>h.elim
 | f+1,t,cs,h,u,hu=>by
  unfold Rd at h;split at h
  ·obtain⟨b,rfl⟩:=h;simp at hu;subst hu;rfl
  ·obtain⟨b,rfl,_⟩:=h;simp at hu;subst hu;rfl
  ·obtain⟨b,rfl,_⟩:=h;simp at hu;subst hu;rfl
  ·obtain⟨v,rfl,es,hs,_⟩:=h;simp at hu;subst hu;rcases hs.2.2.2 with⟨rfl,_⟩|⟨a,c,rfl,_⟩<;>rfl
  ·exact mo.one (fun t cs h=>Rd.one h) h u hu
  ·obtain⟨es,rfl,_,hx⟩:=h;obtain⟨x,hx1,hx2⟩:=List.mem_flatten.1 hu;exact Rd.one (hx x hx1).2 u hx2
  ·obtain⟨v,rfl,hv⟩:=h;simp at hu;subst hu;exact hv
theorem Rd.keep{P:Program}{w w':World}(hb:Below w.heap.size w w'):∀ {f:Nat} {t:TypeId} {cs:List Value},Rd P w f t cs→Rd P w' f t cs
 | 0,_,_,h=>h
 | f+1,t,cs,h=>by
  unfold Rd at h ⊢;split at h
  ·exact h
  ·exact h
  ·exact h
  ·obtain⟨v,rfl,es,hs,hx,hr⟩:=h;exact⟨v,rfl,es,hs.keep hb,fun x hx1=>⟨(hx x hx1).1,Rd.keep hb (hx x hx1).2⟩,hr⟩
  ·exact mo.mono (fun t cs h=>Rd.keep hb h) h
  ·obtain⟨es,rfl,hn,hx⟩:=h;exact⟨es,rfl,hn,fun x hx1=>⟨(hx x hx1).1,Rd.keep hb (hx x hx1).2⟩⟩
  ·exact h
section
variable {P:Program} {w:World} {f:Nat} {t:TypeId} {cs:List Value}
theorem Rd.bool(h:Rd P w f t cs)(hu:P.underlying t=some .bool):∃ b,cs=[.bool b]:=by
 cases f with
 | zero=>exact h.elim
 | succ f=>unfold Rd at h;rw[hu] at h;exact h
theorem Rd.int{k:IntKind}(h:Rd P w f t cs)(hu:P.underlying t=some (.int k)):∃ n,cs=[.int k n]∧(Lit.int k n).wf=true:=by
 cases f with
 | zero=>exact h.elim
 | succ f=>unfold Rd at h;rw[hu] at h;exact h
theorem Rd.string(h:Rd P w f t cs)(hu:P.underlying t=some .string):∃ s,cs=[.string s]∧s.size≤reachBytes:=by
 cases f with
 | zero=>exact h.elim
 | succ f=>unfold Rd at h;rw[hu] at h;exact h
theorem Rd.slice{e:TypeId}(h:Rd P w f t cs)(hu:P.underlying t=some (.slice e)):
 ∃ f' v,f=f'+1∧cs=[v]∧∃ es:List (List Value),SliceAt w v (P.cellsOf e) es.length es.flatten∧(∀ x∈es,x.length=P.cellsOf e∧Rd P w f' e x)∧es.length*P.bytesOf e≤reachBytes:=by
 cases f with
 | zero=>exact h.elim
 | succ f=>unfold Rd at h;rw[hu] at h;obtain⟨v,hv,es,hes⟩:=h;exact⟨f,v,rfl,hv,es,hes⟩
theorem Rd.struct{fs:Array Field}(h:Rd P w f t cs)(hu:P.underlying t=some (.struct fs)):∃ f',f=f'+1∧mo P (Rd P w f') (fs.toList.map (·.type)) cs:=by
 cases f with
 | zero=>exact h.elim
 | succ f=>unfold Rd at h;rw[hu] at h;exact⟨f,rfl,h⟩
theorem Rd.array{n:Nat}{e:TypeId}(h:Rd P w f t cs)(hu:P.underlying t=some (.array n e)):∃ f',f=f'+1∧∃ es:List (List Value),cs=es.flatten∧es.length=n∧∀ x∈es,x.length=P.cellsOf e∧Rd P w f' e x:=by
 cases f with
 | zero=>exact h.elim
 | succ f=>unfold Rd at h;rw[hu] at h;exact⟨f,rfl,h⟩
theorem SliceAt.shape{v:Value}{k n:Nat}(h:SliceAt w v k n cs):∃ a c,v=.slice a n c:=by
 rcases h.2.2.2 with⟨rfl,rfl⟩|⟨a,c,rfl,_⟩
 ·exact⟨_,_,rfl⟩
 ·exact⟨_,_,rfl⟩
end
section
variable {H:Type} {enc:TypeId×Value→H} {P:Program} {w:World} {spare:Nat→Bool}
theorem DA{a:Addr}{n:Nat}{cs:List Value}(h:w.cells? 0 a n=some cs):cs.length=n∧∀ j u,cs[j]?=some u→w.cell? (a.add j)=some u:=by
 obtain⟨_,hl,hc⟩:=World.cells?_some h;refine⟨hl,fun j u hu=>?_⟩;have hj:=(aq6.1 hu).1;rw[hc j (by omega),hu]
theorem LW{es:List (List Value)}{k:Nat}(hk:∀ x∈es,x.length=k)(j:Nat)(u:Value)(h:es.flatten[j]?=some u):∃ i x r,es[i]?=some x∧r<k∧j=i*k+r∧x[r]?=some u:=by
 induction es generalizing j with
 | nil=>simp at h
 | cons x es ih=>
  have hx:=hk x (by simp);rw[List.flatten_cons] at h;by_cases hj:j<k
  ·rw[aqY (by omega)] at h;exact⟨0,x,j,rfl,hj,by omega,h⟩
  ·rw[aqZ (by omega)] at h;obtain⟨i,y,r,h1,h2,h3,h4⟩:=ih (fun y hy=>hk y (by simp[hy])) _ h;exact⟨i+1,y,r,by simpa using h1,h2,by rw[Nat.add_mul];omega,h4⟩
theorem add_add(a:Addr)(i j:Nat):(a.add i).add j=a.add (i+j):=by
 unfold Addr.add;by_cases hi:i=0<;>by_cases hj:j=0<;>simp[hi,hj,Nat.add_assoc]
theorem wS{e:TypeId}{l:List (DataW H)}{d:DataW H}(hd:d∈l){n:Nat}(hn:n∈d.weights P e):n∈DataW.weightsAll P e l:=by
 induction l with
 | nil=>cases hd
 | cons x l ih=>
  simp only[DataW.weightsAll,List.mem_append];rcases aq5.1 hd with rfl|h
  ·exact .inl hn
  ·exact .inr (ih h)
theorem G6{p:TypeId→List Value→Prop}:∀ (ts:List TypeId) (cs:List Value),cs.length=(ts.map fun t=>P.cellsOf t).sum →
 (∀ (j:Nat) (t:TypeId),ts[j]?=some t→p t ((cs.drop ((ts.take j).map fun t=>P.cellsOf t).sum).take (P.cellsOf t)))→mo P p ts cs
 | [],cs,hl,_=>by simpa[mo] using hl
 | t::ts,cs,hl,h=>by
  simp only[List.map_cons,List.sum_cons] at hl;refine⟨cs.take (P.cellsOf t),cs.drop (P.cellsOf t),(List.take_append_drop _ _).symm,by rw[arb];omega,by simpa using h 0 t rfl,G6 ts _ (by rw[List.length_drop];omega) fun j u hu=>?_⟩;have:=h (j+1) u (by simpa using hu);rw[List.drop_drop];simpa[List.take_succ_cons] using this
theorem Rd.ze{held:Bool}(hl:laidOutB P=true):∀ (f:Nat) (t:TypeId) (cs:List Value) (d:DataW H) (ps:List MemPlace),isVar P t=true →
 DataW.trod enc P w 0 (fun _=>true) held f t cs=some (d,ps)→(∀ n∈d.weights P t,n≤reachBytes)→Rd P w f t cs
 | 0,t,cs,d,ps,_,h,_=>by simp[DataW.trod] at h
 | f+1,t,cs,d,ps,hv,h,hw=>by
  have hlt:t<P.types.size:=by
   unfold isVar at hv;simp only[aqX,decide_eq_true_eq] at hv;exact hv.1
  have hrow:=rowFine_of_laidOut hl hlt;unfold rowFine at hrow;rw[hv] at hrow;simp only[Bool.not_true,Bool.false_or] at hrow;unfold Rd;split
  ·rename_i hu;obtain⟨b,rfl,_⟩:=DataW.trod_bool hu h;exact⟨b,rfl⟩
  ·rename_i k hu;obtain⟨n,rfl,_,hwf⟩:=DataW.trod_int hu h;exact⟨n,rfl,hwf⟩
  ·rename_i hu;obtain⟨s,rfl,hx,_⟩:=DataW.trod_string hu h;refine⟨s,rfl,?_⟩;simp only[Prod.mk.injEq] at hx;obtain⟨rfl,_⟩:=hx;have:=hw s.data.toList.length (by simp[DataW.weights])
   rwa [Array.length_toList] at this
  ·rename_i e hu;rw[hu] at hrow;simp only[aqX,beq_iff_eq] at hrow;rcases DataW.trod_slice hu h with⟨rfl,_⟩|⟨a,len,cap,elems,rest,n,hf,rfl,hx,_,hlc,hcm,hel,hcell,hrest,_⟩
   ·exact⟨_,rfl,[],SliceAt.nil _ _,by simp,by simp⟩
   ·obtain rfl:f=n:=by omega
    simp only[Prod.mk.injEq] at hx;obtain⟨rfl,_⟩:=hx;have hw1:=hw ((elems.length+rest.length)*P.bytesOf e) (by rw[DataW.weights,hu];simp)
    have hw2:∀ x∈elems,∀ n∈x.1.weights P e,n≤reachBytes:=fun x hx n hn=>hw n (by
     rw[DataW.weights,hu];exact ari _ (List.mem_append_left _ (wS (List.mem_map_of_mem hx) hn)))
    have each:∀ i,i<len→∃ es x,w.cells? 0 (a.add (i*P.cellsOf e)) (P.cellsOf e)=some es∧elems[i]?=some x∧DataW.trod enc P w 0 (fun _=>true) held f e es=some x:=fun i hi=>by
     have hi':i<elems.length:=by omega
     have:=hcell i hi;rw[aq0 hi'] at this;obtain⟨es,h1,h2⟩:=Option.bind_eq_some_iff.1 this;exact⟨es,_,h1,aq0 hi',h2⟩
    let es:List (List Value):=(List.range len).map fun i=>(w.cells? 0 (a.add (i*P.cellsOf e)) (P.cellsOf e)).getD []
    have hes:∀ i x,es[i]?=some x→i<len∧w.cells? 0 (a.add (i*P.cellsOf e)) (P.cellsOf e)=some x:=fun i x hx=>by
     have hi:i<len:=by have:=(aq6.1 hx).1;simpa[es] using this
     obtain⟨y,_,h1,_⟩:=each i hi;simp only[es,aq9,List.getElem?_range hi,Option.map_some,h1,Option.getD_some,Option.some.injEq] at hx;exact⟨hi,by rw[h1,hx]⟩
    have hlen:es.length=len:=by simp[es]
    have hk:∀ x∈es,x.length=P.cellsOf e:=fun x hx=>by
     obtain⟨i,hi⟩:=List.getElem?_of_mem hx;exact(DA (hes i x hi).2).1
    have hrd:∀ x∈es,Rd P w f e x:=fun x hx=>by
     obtain⟨i,hi⟩:=List.getElem?_of_mem hx;obtain⟨hil,hc⟩:=hes i x hi;obtain⟨y,z,h1,h2,h3⟩:=each i hil;obtain rfl:y=x:=aq8 (h1.symm.trans hc);exact Rd.ze hl f e y z.1 z.2 hrow.1 h3 (hw2 z (aq7 h2))
    refine⟨_,rfl,es,⟨?_,by rw[hlen];omega,?_,.inr ⟨a,cap,by rw[hlen],by rw[hlen];exact hlc,?_⟩⟩,fun x hx=>⟨hk x hx,hrd x hx⟩,?_⟩
    ·have:∀ l:List (List Value),(∀ x∈l,x.length=P.cellsOf e)→l.flatten.length=l.length*P.cellsOf e:=fun l=>by
      induction l with
      | nil=>simp
      | cons x l ih=>intro h;rw[List.flatten_cons,arj,ih (fun y hy=>h y (by simp[hy])),h x (by simp),List.length_cons,Nat.add_mul];omega
     exact this es hk
    ·intro u hu;obtain⟨x,hx1,hx2⟩:=List.mem_flatten.1 hu;exact(hrd x hx1).one u hx2
    ·intro j u hj;obtain⟨i,x,r,h1,h2,rfl,h4⟩:=LW hk j u hj;have:=(DA (hes i x h1).2).2 r u h4
     rwa [add_add] at this
    ·rw[hlen];refine aq1 (Nat.mul_le_mul_right _ ?_) hw1;omega
  ·rename_i fs hu;rw[hu] at hrow;simp only[aqX,beq_iff_eq,aq3,List.mem_range] at hrow;obtain⟨⟨af3,af8⟩,hoff⟩:=hrow;obtain⟨xs,n,hf,hx,hcl,hxl,aac⟩:=DataW.trod_struct hu h;obtain rfl:f=n:=by omega
   simp only[Prod.mk.injEq] at hx;obtain⟨rfl,_⟩:=hx;refine G6 _ cs (by rw[hcl,af8,List.map_map];rfl) fun j t' hj=>?_
   rw[aq9] at hj;obtain⟨fl,hfl,rfl⟩:=Option.map_eq_some_iff.1 hj;have hjl:j<fs.toList.length:=(aq6.1 hfl).1;have ho:=hoff j hjl;rw[hfl] at ho;simp only[beq_iff_eq] at ho;have hxj:=aac j fl (by rw[← hfl,Array.getElem?_toList]);have hjx:j<xs.length:=by rw[hxl];simpa using hjl
   rw[aq0 hjx,ho] at hxj;rw[List.map_take] at hxj;rw[← List.map_take,List.map_map,List.map_take];refine Rd.ze hl f _ _ xs[j].1 xs[j].2 (af3 fl (aq7 hfl)) hxj fun n hn=>hw n ?_
   rw[DataW.weights,hu];exact DataW.weights_mem_each (j:=j) (by rw[aq9,hfl];rfl) (by rw[aq9,aq0 hjx];rfl) n hn
  ·rename_i n e hu;rw[hu] at hrow;simp only[aqX,beq_iff_eq] at hrow;obtain⟨xs,m,hf,hx,hcl,hxl,hel⟩:=DataW.trod_array hu h;obtain rfl:f=m:=by omega
   simp only[Prod.mk.injEq] at hx;obtain⟨rfl,_⟩:=hx
   have hsp:∀ (n:Nat) (cs:List Value),cs.length=n*P.cellsOf e→(∀ i,i<n→Rd P w f e ((cs.drop (i*P.cellsOf e)).take (P.cellsOf e))) →
    ∃ es:List (List Value),cs=es.flatten∧es.length=n∧∀ x∈es,x.length=P.cellsOf e∧Rd P w f e x:=fun n=>by
    induction n with
    | zero=>intro cs h _;exact⟨[],by simpa using h,rfl,by simp⟩
    | succ n ih=>
     intro cs h hr;rw[Nat.add_mul] at h
     obtain⟨es,h1,h2,h3⟩:=ih (cs.drop (P.cellsOf e)) (by rw[List.length_drop];omega) fun i hi=>by
      have:=hr (i+1) (by omega);rw[List.drop_drop]
      rwa [show P.cellsOf e+i*P.cellsOf e=(i+1)*P.cellsOf e by rw[Nat.add_mul];omega]
     refine⟨cs.take (P.cellsOf e)::es,by rw[List.flatten_cons,← h1,List.take_append_drop],by simp[h2],fun x hx=>?_⟩;rcases aq5.1 hx with rfl|hx
     ·exact⟨by rw[arb];omega,by simpa using hr 0 (by omega)⟩
     ·exact h3 x hx
   refine hsp n cs (by rw[hcl,hrow.2]) fun i hi=>?_
   have hxi:=hel i hi;have hix:i<xs.length:=by omega
   rw[aq0 hix] at hxi;refine Rd.ze hl f _ _ xs[i].1 xs[i].2 hrow.1 hxi fun n hn=>hw n ?_
   rw[DataW.weights,hu];exact wS (List.mem_map_of_mem (List.getElem_mem hix)) hn
  ·unfold DataW.trod at h;split at h<;>first|(simp_all;done)|exact⟨_,rfl,rfl⟩
def Arg(P:Program)(w:World)(t:TypeId)(v:Value):Prop:=
 ∃ f cs,Rd P w f t cs∧v=match P.underlying t with
  | some (.struct _)|some (.array _ _)=>.agg cs.toArray
  | _=>cs.headD undef
def Args(P:Program)(w:World):List TypeId→List Value→Prop
 | [],[]=>True
 | t::ts,v::vs=>Arg P w t v∧Args P w ts vs
 | _,_=>False
theorem aa5{held:Bool}{r:Reach}{base:Nat}(hl:laidOutB P=true){t:TypeId}{v:Value}{d:DataW H}{ps:List MemPlace}(hv:isVar P t=true)(hok:Value.okWide P w r base t v)
 (h:DataW.Trod enc P w 0 (fun _=>true) held t v d ps) (hw:∀ n∈d.weights P t,n≤reachBytes):Arg P w t v:=by
 obtain⟨f,h⟩:=h;refine⟨f,_,Rd.ze hl f t _ d ps hv h hw,?_⟩;unfold Value.okWide at hok;split at hok
 ·obtain⟨cs,rfl,_⟩:=hok
  simp_all [Value.cells]
 ·obtain⟨cs,rfl,_⟩:=hok
  simp_all [Value.cells]
 ·split
  ·simp_all
  ·simp_all
  ·cases v<;>simp_all [Value.cells,Cell.okWide,Cell.ok]
theorem OE{r:Reach}{base:Nat}(hl:laidOutB P=true):∀ {ts:List TypeId} {vs:List Value} {ds:List (DataW H)} {ps:List MemPlace},(∀ t∈ts,isVar P t=true) →
 (∀ (j:Nat) t v,ts[j]?=some t→vs[j]?=some v→Value.okWide P w r base t v)→DataW.TrodAll enc P w 0 (fun _=>true) true ts vs ds ps→(∀ n∈DataW.weightsEach P ts ds,n≤reachBytes)→Args P w ts vs
 | [],[],[],_,_,_,_,_=>trivial
 | t::ts,v::vs,d::ds,ps,hv,hok,⟨p,q,h1,h2,_⟩,hw=>by
  simp only[DataW.weightsEach,List.mem_append] at hw
  exact⟨aa5 hl (hv t (by simp)) (hok 0 t v rfl rfl) h1 fun n hn=>hw n (.inl hn),
   OE hl (fun t ht=>hv t (by simp[ht])) (fun j t v h1 h2=>hok (j+1) t v (by simpa using h1) (by simpa using h2)) h2 fun n hn=>hw n (.inr hn)⟩
theorem o_:∀ {ts:List TypeId} {vs:List Value} {ds:List (DataW H)} {ps:List MemPlace},DataW.TrodAll enc P w 0 spare true ts vs ds ps→ds.length=ts.length
 | [],[],[],_,_=>rfl
 | _::_,_::_,_::_,_,⟨_,_,_,h2,_⟩=>by simp[o_ h2]
theorem tA{w':World}(hl:laidOutB P=true)(hb:Below w.heap.size w w'):∀ {ts:List TypeId} {vs:List Value} {ds:List (DataW H)} {ps:List MemPlace},
 (∀ t∈ts,isVar P t=true∧P.readableRec t=true)→DataW.TrodAll enc P w 0 (fun _=>true) true ts vs ds ps→(∀ x∈ps,x.block<w.heap.size)→DataW.TrodAll enc P w' 0 (fun b=>decide (b<w.heap.size)) true ts vs ds ps
 | [],[],[],_,_,h,_=>h
 | t::ts,v::vs,d::ds,_,hr,⟨p,q,h1,h2,rfl⟩,hlt=>by
  have hv:=(hr t (by simp)).1;unfold isVar at hv;simp only[aqX,decide_eq_true_eq] at hv
  exact⟨p,q,Below.trod hl (hr t (by simp)).2 hv.1 h1 hb fun x hx=>hlt x (List.mem_append_left _ hx),
   tA hl hb (fun t ht=>hr t (by simp[ht])) h2 fun x hx=>hlt x (List.mem_append_right _ hx),rfl⟩
end
section
variable {H:Type} {enc:TypeId×Value→H}
theorem Tm{P:Program}{fn:Func}{s:ChangeSpec}(laid:laidOutB P=true)(hv:s.vars=[])(tb:TypeId)(hres:fn.resultTypes=#[tb])(hb:P.underlying tb=some .bool)
 (hpar:fn.params.toList.all (fun t=>isVar P t&&P.readableRec t)=true)
 (hspec:∀ ds:List (DataW H),ds.length=fn.params.toList.length→s.fn H ds={ results:=[.lit (.bool true)],args:=ds })
 {W W':World} {args:Array Value} {ds gs:List (DataW H)} {before:List MemPlace} (hW:DataW.Whole enc P fn.params.toList s.vars false W args.toList ds gs before) (hB:Below W.heap.size W W') :
 s.post enc P fn false true false false W args (.bool true) W':=by
 have hW':=hW;have hlt:=hW.lt;obtain⟨p,q,hA,hV,rfl,_,_⟩:=hW;rw[hv] at hV;obtain⟨rfl,rfl⟩:=trodVars_none hV;rw[List.append_nil] at hlt
 have hp:∀ t∈fn.params.toList,isVar P t=true∧P.readableRec t=true:=fun t ht=>by
  have:=aq3.1 hpar t ht;simpa using this
 have hs:=hspec ds (o_ hA);refine⟨ds,[],_,[],p,[],hW',?_,?_,?_,hB.frame _,fun h=>by cases h⟩
 ·rw[List.append_nil,hs,hres];exact trodAll_mk1 (shut_bool hb true)
 ·rw[List.append_nil,hs];exact tA laid hB hp hA hlt
 ·rw[hv,List.append_nil,hs];exact rfl
theorem Lg{C:Checked}{os:Os}{f:FuncId}{fn:Func}{s:ChangeSpec}{conds:List PathCond}(own:ownKnob C.prog.godebug=none)(laid:laidOutB C.prog=true)(started:os.Started)
 (noInit:C.prog.inits.idxOf? f=none) (hfn:C.prog.funcs[f]?=some fn) (hv:s.vars=[]) (tb:TypeId) (hres:fn.resultTypes=#[tb]) (hb:C.prog.underlying tb=some .bool)
 (hpar:fn.params.toList.all (fun t=>isVar C.prog t&&C.prog.readableRec t)=true)
 (hspec:∀ ds:List (DataW H),ds.length=fn.params.toList.length→s.fn H ds={ results:=[.lit (.bool true)],args:=ds })
 (witness:∃ (w:World) (tape:Tape) (i:Input),w.os=os∧(w.forCall tape i).Shaped C.prog∧i.vars=[]∧Input.okWide C.prog (w.forCall tape i) .any w.heap.size f i ∧
  s.pre6 enc C.prog fn conds false (w.forCall tape i).memory i.args∧({}:Assume).holds C.prog (lone (Frame.enter C.prog f i.args .normal) [] (w.forCall tape i)))
 (contract:∀ (W:World) (args:Array Value),Args C.prog W fn.params.toList args.toList→Calls C.prog f args W fun e W'=>e=.returned (.bool true)∧Below W.heap.size W W') :
 ReturnsInHanded {} C os f .any (s.pre6 enc C.prog fn conds false) (s.post enc C.prog fn false true false false):=by
 refine returnsInHanded_of_change_sized own started noInit hfn witness ?_;intro W base args ds gs before hval hW _ hsz _;have hW':=hW;obtain⟨p,q,hA,hV,rfl,_,_⟩:=hW;rw[hv] at hV;obtain⟨rfl,rfl⟩:=trodVars_none hV
 have hp:∀ t∈fn.params.toList,isVar C.prog t=true∧C.prog.readableRec t=true:=fun t ht=>by
  have:=aq3.1 hpar t ht;simpa using this
 have hw:∀ n∈DataW.weightsEach C.prog fn.params.toList ds,n≤reachBytes:=fun n hn=>by
  have:=aq3.1 hsz n (by
   have:s.plain.varTypes C.prog=[]:=by simp[ChangeSpec.plain,DataSpec.varTypes,hv]
   rw[this,List.append_nil,List.append_nil];exact hn)
  simpa using this
 refine(contract W args (OE laid (fun t ht=>(hp t ht).1) (fun j t v h1 h2=>hval j t v (by simpa using h1) (by simpa using h2)) hA hw)).mono fun e W' ⟨he,hB⟩=>?_
 subst he;exact⟨_,rfl,Tm laid hv tb hres hb hpar hspec hW' hB⟩
end
end Go.Proofs.YtdcofoaihmongaaGreat
namespace Go.Proofs.YtdcofoaihmongaaGreat
open Go.RowKit
abbrev Gd:=(Nat→Bool)→Value→World→Prop
def OP(L:Nat→Bool)(d:List Deferred)(w:World)(a:Act):List (Option Nat)→List Gd→Array Value→Prop
 | some s::ss,g::gs,t=>∃ u,g L u w∧OP L d w a ss gs (t.setIfInBounds s u)
 | none::ss,g::gs,t=>∃ u,g L u w∧OP L d w a ss gs t
 | _,_,t=>a=⟨t,d⟩
structure Js (slots:List (Option Nat)) (aU:List Gd) (inv:World→Prop) (t:Array Value) (d:List Deferred) (L:Nat→Bool) (a:Act) (w:World):Prop where
 defers:a.defers=d
 inv:inv w
 done:∀ i,L i=true→i<slots.length→∀ g,aU[i]?=some g→∃ v,(∀ s,slots[i]?=some (some s)→a.tmps[s]?=some v)∧g L v w
 rest:∀ j,slots.contains (some j)=false→a.tmps[j]?=t[j]?
 size:a.tmps.size=t.size
theorem AR{L:Nat→Bool}{d:List Deferred}{w:World}{a:Act}(hd:a.defers=d):∀ (slots:List (Option Nat)) (aU:List Gd) (t:Array Value),slots.length=aU.length →
 (∀ (i:Nat) (g:Gd),aU[i]?=some g→∃ v,(∀ s,slots[i]?=some (some s)→a.tmps[s]?=some v)∧g L v w)→(∀ j,slots.contains (some j)=false→a.tmps[j]?=t[j]?)→a.tmps.size=t.size→OP L d w a slots aU t
 | [],[],t,_,_,hr,_=>by
  show a=⟨t,d⟩;obtain⟨at',ad⟩:=a;have e1:at'=t:=Array.ext_getElem? fun j=>hr j rfl
  have e2:ad=d:=hd;rw[e1,e2]
 | none::ss,g::gs,t,hl,hg,hr,hs=>by
  obtain⟨u,_,hgu⟩:=hg 0 g rfl;refine⟨u,hgu,AR hd ss gs _ (by simpa using hl) (fun i g' h2=>?_) (fun j hj=>hr j ?_) hs⟩
  ·obtain⟨v,h3,h4⟩:=hg (i+1) g' (by simpa using h2);exact⟨v,fun s' h1=>h3 s' (by simpa using h1),h4⟩
  ·simp only[List.contains_cons,hj,Bool.or_false];rfl
 | some s::ss,g::gs,t,hl,hg,hr,hs=>by
  obtain⟨u,hu,hgu⟩:=hg 0 g rfl;have hu:=hu s rfl;refine⟨u,hgu,AR hd ss gs _ (by simpa using hl) (fun i g' h2=>?_) (fun j hj=>?_) (by rw[Array.size_setIfInBounds];exact hs)⟩
  ·obtain⟨v,h3,h4⟩:=hg (i+1) g' (by simpa using h2);exact⟨v,fun s' h1=>h3 s' (by simpa using h1),h4⟩
  ·by_cases h:s=j
   ·subst h;have hlt:s<a.tmps.size:=(Array.getElem?_eq_some_iff.1 hu).1;rw[hu,Array.getElem?_setIfInBounds_self_of_lt (by omega)]
   ·rw[Array.getElem?_setIfInBounds_ne h];refine hr j ?_;have h1:¬ j=s:=fun e=>h e.symm
    simp only[List.contains_cons,hj,Bool.or_false];simpa using h1
 | [],_::_,_,hl,_,_,_=>by simp at hl
 | _::_,[],_,hl,_,_,_=>by simp at hl
theorem Js.laid{slots:List (Option Nat)}{aU:List Gd}{inv:World→Prop}{t:Array Value}{d:List Deferred}{L:Nat→Bool}{a:Act}{w:World}(h:Js slots aU inv t d L a w)(hl:slots.length=aU.length)
 (hL:∀ i,i<slots.length→L i=true):OP L d w a slots aU t:=
 AR h.defers slots aU t hl (fun i g h2=>h.done i (hL i (by rw[hl];exact(aq6.1 h2).1)) (by rw[hl];exact(aq6.1 h2).1) g h2) h.rest h.size
theorem Js.put{slots:List (Option Nat)}{aU:List Gd}{inv:World→Prop}{t:Array Value}{d:List Deferred}{L:Nat→Bool}{a:Act}{w w':World}{i:Nat}{s:Option Nat}{v:Value}{L':Nat→Bool}(h:Js slots aU inv t d L a w)
 (hnd:(slots.filterMap fun x=>x).Nodup) (hbd:slots.all (fun s=>decide (s.getD 0<t.size))=true) (hst:∀ (j:Nat) (g:Gd),aU[j]?=some g→j≠i→L j=true→∀ v,(∀ s,slots[j]?=some (some s)→a.tmps[s]?=some v)→g L v w→g L' v w') {TB:World→Prop} (hinv:TB w') (hs:slots[i]?=some s) (hg:∀ g:Gd,aU[i]?=some g→g L' v w')
 (hL:∀ j,L' j=true→j=i∨L j=true):Js slots aU TB t d L' (a.put s v) w':=by
 cases s with
 | none=>
  refine⟨h.defers,hinv,?_,h.rest,h.size⟩;intro j hj hjl g' hg';by_cases hji:j=i
  ·subst hji;exact⟨v,fun s' hs'=>(by rw[hs] at hs';cases hs'),hg g' hg'⟩
  ·obtain⟨u,hu,hgu⟩:=h.done j ((hL j hj).resolve_left hji) hjl g' hg';exact⟨u,hu,hst j g' hg' hji ((hL j hj).resolve_left hji) u hu hgu⟩
 | some s=>
  refine⟨h.defers,hinv,?_,?_,?_⟩
  ·intro j hj hjl g' hg';by_cases hji:j=i
   ·subst hji;refine⟨v,fun s' hs'=>?_,hg g' hg'⟩;obtain rfl:s=s':=aq8 (aq8 (hs.symm.trans hs'))
    have hlt:s<a.tmps.size:=by
     rw[h.size];have:=aq3.1 hbd (some s) (aq7 hs);simpa using this
    show(a.tmps.setIfInBounds s v)[s]?=some v;rw[Array.getElem?_setIfInBounds_self_of_lt hlt]
   ·obtain⟨u,hu,hgu⟩:=h.done j ((hL j hj).resolve_left hji) hjl g' hg';refine⟨u,fun s' hs'=>?_,hst j g' hg' hji ((hL j hj).resolve_left hji) u hu hgu⟩;have hne:s≠s':=fun e=>hji (Ax hnd (e▸hs') hs)
    show(a.tmps.setIfInBounds s v)[s']?=some u;rw[Array.getElem?_setIfInBounds_ne hne];exact hu s' hs'
  ·intro j hj
   have hne:s≠j:=fun e=>by
    have hm:some j∈slots:=e▸aq7 hs;have:slots.contains (some j)=true:=by simpa using hm
    rw[this] at hj;cases hj
   show(a.tmps.setIfInBounds s v)[j]?=t[j]?;rw[Array.getElem?_setIfInBounds_ne hne];exact h.rest j hj
  ·show(a.tmps.setIfInBounds s v).size=t.size;rw[Array.size_setIfInBounds];exact h.size
end Go.Proofs.YtdcofoaihmongaaGreat
namespace Go.Proofs.YtdcofoaihmongaaGreat
open Go Go.RowKit
def yJ(n:Nat):Prop:=n<18446744073709551616
structure ay where
 a:Nat
 b:Nat
 c:Nat
 d:Nat
deriving DecidableEq
def ay.cells(s:ay):List Value:=[.int .u64 s.a,.int .u64 s.b,.int .u64 s.c,.int .u64 s.d]
structure ay.Ok (s:ay):Prop where
 a:yJ s.a
 b:yJ s.b
 c:yJ s.c
 d:yJ s.d
def ay.word(s:ay)(i:Nat):Nat:=if i=0 then s.a else if i=1 then s.b else if i=2 then s.c else s.d
def ay.put(s:ay)(i x:Nat):ay:=if i=0 then ⟨x,s.b,s.c,s.d⟩ else if i=1 then ⟨s.a,x,s.c,s.d⟩ else if i=2 then ⟨s.a,s.b,x,s.d⟩ else ⟨s.a,s.b,s.c,x⟩
def ay.has(s:ay)(n:Nat):Bool:=(s.word (n/64)).testBit (n%64)
def ay.mem(s:ay)(n:Int):Bool:=decide (0≤n∧n<256)&&s.has n.toNat
def ay.add(s:ay)(n:Nat):ay:=s.put (n/64) (s.word (n/64)|||2^(n%64))
def ay.with(s:ay)(n:Int):ay:=if 0≤n∧n<256 then s.add n.toNat else s
def ay.zero:ay:=⟨0,0,0,0⟩
theorem ay.sW{s:ay}(h:s.Ok)(i:Nat):yJ (s.word i):=by
 unfold ay.word;split
 ·exact h.a
 ·split
  ·exact h.b
  ·split
   ·exact h.c
   ·exact h.d
theorem ay.Zx{s:ay}(h:s.Ok)(i:Nat){x:Nat}(hx:yJ x):(s.put i x).Ok:=by
 unfold ay.put;split
 ·exact⟨hx,h.b,h.c,h.d⟩
 ·split
  ·exact⟨h.a,hx,h.c,h.d⟩
  ·split
   ·exact⟨h.a,h.b,hx,h.d⟩
   ·exact⟨h.a,h.b,h.c,hx⟩
theorem four{i:Nat}(h:i<4):i=0∨i=1∨i=2∨i=3:=by omega
theorem ay.RS(s:ay){i j:Nat}(hi:i<4)(hj:j<4)(x:Nat):(s.put i x).word j=if j=i then x else s.word j:=by
 rcases four hi with rfl|rfl|rfl|rfl<;>rcases four hj with rfl|rfl|rfl|rfl<;>rfl
theorem ay.Xq(s:ay){i:Nat}(hi:i<4):s.cells[i]?=some (.int .u64 (s.word i)):=by
 rcases four hi with rfl|rfl|rfl|rfl<;>rfl
theorem DZ{j:Nat}(h:j<64):yJ (2^j):=Nat.pow_lt_pow_right (by decide) h
theorem acs{x y:Nat}(hx:yJ x)(hy:yJ y):yJ (x|||y):=Nat.or_lt_two_pow (n:=64) hx hy
theorem ay.aa8{s:ay}(h:s.Ok)(n:Nat):(s.add n).Ok:=ay.Zx h _ (acs (ay.sW h _) (DZ (Nat.mod_lt _ (by decide))))
theorem ay.DV{s:ay}(h:s.Ok)(n:Int):(s.with n).Ok:=by
 unfold ay.with
 split
 ·exact ay.aa8 h _
 ·exact h
theorem ay.has_add(s:ay){n m:Nat}(hn:n<256)(hm:m<256):(s.add n).has m=(decide (m=n)||s.has m):=by
 unfold ay.has ay.add;rw[ay.RS s (by omega) (by omega)];by_cases h:m/64=n/64
 ·rw[if_pos h,Nat.testBit_or,h,Nat.testBit_two_pow,Bool.or_comm];congr 1;by_cases e:m=n
  ·subst e;simp
  ·have:n%64≠m%64:=fun h2=>e (by omega)
   simp[e,this]
 ·rw[if_neg h];have:m≠n:=fun e=>h (by rw[e])
  simp[this]
theorem ay.Ik(n:Nat):ay.zero.has n=false:=by
 unfold ay.has ay.word ay.zero;split
 ·exact Nat.zero_testBit _
 ·split
  ·exact Nat.zero_testBit _
  ·split<;>exact Nat.zero_testBit _
theorem VH{x y:Nat}(hx:yJ x)(hy:yJ y)(h:∀ j,j<64→x.testBit j=y.testBit j):x=y:=by
 refine Nat.eq_of_testBit_eq fun j=>?_
 by_cases hj:j<64
 ·exact h j hj
 ·have e:∀ {z:Nat},yJ z→z.testBit j=false:=fun {z} hz=>Nat.testBit_lt_two_pow (aq_ hz (Nat.pow_le_pow_right (n:=2) (by decide) (by omega:64≤j)))
  rw[e hx,e hy]
theorem ay.ext{s t:ay}(hs:s.Ok)(ht:t.Ok)(h:∀ n,n<256→s.has n=t.has n):s=t:=by
 have key:∀ i,i<4→s.word i=t.word i:=fun i hi=>VH (ay.sW hs i) (ay.sW ht i) fun j hj=>by
  have:=h (i*64+j) (by omega);unfold ay.has at this
  rwa [show(i*64+j)/64=i by omega,show(i*64+j)%64=j by omega] at this
 have h0:=key 0 (by decide);have h1:=key 1 (by decide);have h2:=key 2 (by decide);have h3:=key 3 (by decide);obtain⟨a,b,c,d⟩:=s;obtain⟨a',b',c',d'⟩:=t;simp[ay.word] at h0 h1 h2 h3;subst h0 h1 h2 h3;rfl
theorem V4{x j:Nat}(hx:yJ x):(bits BinOp.and IntKind.u64 ((x:Int)/2^j) 1 == 1)=x.testBit j:=by
 have e:(x:Int)/2^j=((x/2^j:Nat):Int):=by simp
 have hlt:x/2^j<18446744073709551616:=Nat.lt_of_le_of_lt (Nat.div_le_self _ _) hx;rw[e];have h:=bits_and_u64_nat (x/2^j) 1 hlt (by decide);rw[show((1:Nat):Int)=1 from rfl] at h;rw[h];rw[Nat.testBit_eq_decide_div_mod_eq,Nat.and_one_is_mod];rcases Nat.mod_two_eq_zero_or_one (x/2^j) with h|h<;>rw[h]<;>rfl
theorem zK{j:Nat}(h:j<64):IntKind.u64.wrap (2^j)=((2^j:Nat):Int):=by
 have h1:=DZ h;unfold yJ at h1;rw[show(2:Int)^j=((2^j:Nat):Int) by simp,IntKind.wrap_u64];generalize 2^j=y at h1 ⊢;omega
theorem Xw(w:World)(m:Nat)(hm:m<256):Calls Tryz.prog 64 #[.int .i64 m] w fun e w'=>e=.returned (.int .u64 ((2^(m%64):Nat):Int))∧w=w':=by
 go_enter Tryz.func64,Tryz.ntmps64
 go_wp2
 go_ret
 exact⟨gQ (zK (Nat.mod_lt _ (by decide))),rfl⟩
theorem P9(w:World)(n:Int)(hn:¬ 0≤n):Calls Tryz.prog 206 #[.int .i64 n] w fun e w'=>e=.returned (.bool false)∧w=w':=by
 go_enter Tryz.func206,Tryz.ntmps206
 go_wp2
 go_ret
 exact⟨rfl,rfl⟩
theorem P_(w:World)(n:Int)(h0:0≤n)(hn:¬ n<256):Calls Tryz.prog 206 #[.int .i64 n] w fun e w'=>e=.returned (.bool false)∧w=w':=by
 go_enter Tryz.func206,Tryz.ntmps206
 go_wp2
 go_ret
 exact⟨rfl,rfl⟩
theorem Lu(w:World)(n:Int)(h0:0≤n)(hn:n<256):Calls Tryz.prog 206 #[.int .i64 n] w fun e w'=>e=.returned (.bool true)∧w=w':=by
 go_enter Tryz.func206,Tryz.ntmps206
 go_wp2
 go_ret
 exact⟨rfl,rfl⟩
theorem vf(w:World)(o:Obj)(cs:Array Value)(t:TypeId):Whole ((w.alloc o).alloc (.cells cs t)) (w.heap.size+1) t cs:=by
 have:=Whole.new (w.alloc o) t cs;simpa using this
theorem D8:(Tryz.prog.info? 54).map (·.size)=some 4:=by kernel_rfl
theorem aaj(w:World)(s:ay)(hs:s.Ok)(m:Nat)(hm:m<256):
 Calls Tryz.prog 191 #[.agg #[.int .u64 s.a,.int .u64 s.b,.int .u64 s.c,.int .u64 s.d],.int .i64 m] w fun e w'=>e=.returned (.bool (s.mem m))∧Below w.heap.size w w':=by
 have k:=(Whole.new w 54 #[.int .u64 s.a,.int .u64 s.b,.int .u64 s.c,.int .u64 s.d]).cell (m/64);rw[show(#[.int .u64 s.a,.int .u64 s.b,.int .u64 s.c,.int .u64 s.d]:Array Value)[m/64]?=some (.int .u64 (s.word (m/64))) by rw[← Array.getElem?_toList];exact s.Xq (by omega)] at k;obtain⟨x,hx⟩:∃ x,x=s.word (m/64):=⟨_,rfl⟩;rw[← hx] at k;have HX:=ark hx;have HUX:=ark (show yJ x by rw[hx];exact ay.sW hs _);clear hx;have h4:m/64<4:=by omega
 have hm':(m:Int)<256:=by omega
 have hmem:Hid (s.mem (m:Int)=x.testBit (m%64)):=by
  unfold Hid ay.mem ay.has;rw[HX.out];simp;omega
 go_enter Tryz.func191,Tryz.ntmps191
 go_wp2
 go_ret
 exact⟨aD ((V4 HUX.out).trans hmem.out.symm),(Below.refl _ w).alloc (Nat.le_refl _) _⟩
theorem Ue(w:World)(s:ay)(n:Int)(hn:n<0):
 Calls Tryz.prog 191 #[.agg #[.int .u64 s.a,.int .u64 s.b,.int .u64 s.c,.int .u64 s.d],.int .i64 n] w fun e w'=>e=.returned (.bool false)∧Below w.heap.size w w':=by
 have hn1:¬ 0≤n:=by omega
 go_enter Tryz.func191,Tryz.ntmps191
 go_wp2
 go_ret
 exact⟨rfl,(Below.refl _ w).alloc (Nat.le_refl _) _⟩
theorem Ud(w:World)(s:ay)(n:Int)(hn:256≤n):
 Calls Tryz.prog 191 #[.agg #[.int .u64 s.a,.int .u64 s.b,.int .u64 s.c,.int .u64 s.d],.int .i64 n] w fun e w'=>e=.returned (.bool false)∧Below w.heap.size w w':=by
 have hn0:0≤n:=by omega
 have hn1:¬ n<256:=by omega
 go_enter Tryz.func191,Tryz.ntmps191
 go_wp2
 go_ret
 exact⟨rfl,(Below.refl _ w).alloc (Nat.le_refl _) _⟩
theorem zw(w:World)(s:ay)(hs:s.Ok)(n:Int):
 Calls Tryz.prog 191 #[.agg #[.int .u64 s.a,.int .u64 s.b,.int .u64 s.c,.int .u64 s.d],.int .i64 n] w fun e w'=>e=.returned (.bool (s.mem n))∧Below w.heap.size w w':=by
 by_cases h:0≤n∧n<256
 ·obtain⟨m,rfl⟩:∃ m:Nat,n=m:=⟨n.toNat,by omega⟩;exact aaj w s hs m (by omega)
 ·rw[show s.mem n=false by unfold ay.mem;simp[h]];by_cases h0:n<0
  ·exact Ue w s n h0
  ·exact Ud w s n (by omega)
def ints(l:List Nat):List Value:=l.map fun n:Nat=>.int .i64 (n:Int)
theorem TF(a b:List Nat):ints (a++b)=ints a++ints b:=List.map_append
def eY(s:ay)(k:Nat):List Nat:=(List.range k).filter s.has
def elems(s:ay):List Nat:=eY s 256
theorem lY(s:ay)(k:Nat):(eY s k).length≤k:=by
 have:=List.length_filter_le s.has (List.range k);simpa[eY] using this
theorem Iz{s:ay}{k:Nat}(h:s.has k=true):eY s (k+1)=eY s k++[k]:=by
 simp[eY,List.range_succ,List.filter_append,h]
theorem L3{s:ay}{k:Nat}(h:s.has k=false):eY s (k+1)=eY s k:=by
 simp[eY,List.range_succ,List.filter_append,h]
theorem ay.NR(s:ay){k:Nat}(h:k<256):s.mem (k:Int)=s.has k:=by
 unfold ay.mem;simp;omega
theorem info3:iQ (Tryz.prog.info? 3) 1 8=true:=by kernel_rfl
theorem cell_one_new(w:World)(v:Value)(t:TypeId):∀ j u,([v]:List Value)[j]?=some u→(w.alloc (.cells #[v] t)).cell? ((⟨w.heap.size,0,none⟩:Addr).add j)=some u:=fun j u hj=>by
 rw[Addr.add_lit,Nat.zero_add];exact((Whole.new w t #[v]).cell j).trans (by simpa using hj)
theorem AP(w:World)(s:ay)(hs:s.Ok):
 Calls Tryz.prog 123 #[.agg #[.int .u64 s.a,.int .u64 s.b,.int .u64 s.c,.int .u64 s.d]] w fun e w'=>∃ v,e=.returned v∧w'.ownsRow w.heap.size 3 1 v (elems s).length (ints (elems s))∧Below w.heap.size w w':=by
 obtain⟨i0,z,hi,hz0,hz1,hz2,hzs⟩:=nX info3;have HS:=ark hs;clear hs;have HW0:=ark (Whole.new w 54 #[.int .u64 s.a,.int .u64 s.b,.int .u64 s.c,.int .u64 s.d])
 go_enter Tryz.func123,Tryz.ntmps123
 go_wp2_with fail
 go_loopw [3,5] (fun u i wr=>∃ k:Nat,k≤256∧i=.int .i64 k∧wr.ownsRow w.heap.size 3 1 u (eY s k).length (ints (eY s k))∧Below w.heap.size w wr∧Whole wr w.heap.size 54 #[.int .u64 s.a,.int .u64 s.b,.int .u64 s.c,.int .u64 s.d]) (fun _ i _=>256-(intOf i).toNat)
 case atStart=>exact⟨0,Nat.zero_le _,rfl,by simpa[eY,ints] using World.ownsRow_nil _ _ _ _,(Below.refl _ w).alloc (Nat.le_refl _) _,HW0.out⟩
 case round=>
  clear HW0;obtain⟨k,hk,rfl,hown,hb,hW⟩:=hrel;have HO:=ark hown;have HB:=ark hb;have YT:=ark hW;clear hown hb hW;have hlen:=lY s k;by_cases hlt:k<256
  ·have hkk:(k:Int)<256:=by omega
   have aiD:True:=trivial;by_cases hh:s.has k=true
   ·have HH:=ark hh;clear hh
    go_wp2_with (first|(refine wpList_load_row rfl 54 _ rfl (w.heap.size) rfl 54 _ (0,0) _ YT.out Tryz.underlying54 rfl D8 ?_)|(go_at_call 191;go_must (refine(show Calls Tryz.prog 191 _ _ (fun e w'=>e=.returned (.bool true)∧Below wr.heap.size wr w') from by have h:=zw wr s HS.out (k:Int);rw[ay.NR s hlt,HH.out] at h;exact h).mono ?_;rintro e w1 ⟨rfl,hb1⟩;have DI:=ark hb1;clear hb1))|(at_builtin;refine wpList_append_own _ rfl _ _ 64 rfl w.heap.size 3 i0 z 1 8 Tryz.underlying64 hi hz0 hz1 hz2 hzs (by decide) _ _ _ rfl ((gL DI.out HO.out (Nat.le_refl _)).alloc _) ⟨w1.heap.size,0,none⟩ 1 1 [.int .i64 (k:Int)] rfl rfl (cell_one_new _ _ _) ?c2 ?c3 ?c4 ?c5 ?_))
    case c2=>simp[Value.oneCell']
    case c3=>unfold maxLen;omega
    case c4=>omega
    case c5=>have:=HB.out.size;have:=DI.out.size;simp;omega
    intro v' w2 hown' hgrow hnil;have HO1:=ark (gL DI.out HO.out (Nat.le_refl _));have hb2:Below w.heap.size w w2:=((HB.out.trans (DI.out.mono HB.out.size)).alloc (by have:=HB.out.size;have:=DI.out.size;omega) _).grown hgrow (by have:=HB.out.size;have:=DI.out.size;simp;omega) (fun q hq=>by have:=(HO1.out.lt q hq).1;omega);have HWn:=ark (((Whole.under DI.out YT.out YT.out.lt).alloc (.cells #[.int .i64 (k:Int)] 3)).grown hgrow (fun e=>jE HO1.out (Whole.under DI.out YT.out YT.out.lt) (by decide) e.symm));have HN:=ark hown';have HB2:=ark hb2;clear hgrow hnil hown' hb2
    go_wp2
    go_roundw
    case rel=>exact⟨k+1,by omega,by go_num,by rw[Iz HH.out,arj,TF];exact HN.out,HB2.out,HWn.out⟩
    case measure=>simp[intOf];omega
   ·have HH:=ark (Bool.eq_false_iff.2 hh);clear hh
    go_wp2_with (first|(refine wpList_load_row rfl 54 _ rfl (w.heap.size) rfl 54 _ (0,0) _ YT.out Tryz.underlying54 rfl D8 ?_)|(go_at_call 191;go_must (refine(show Calls Tryz.prog 191 _ _ (fun e w'=>e=.returned (.bool false)∧Below wr.heap.size wr w') from by have h:=zw wr s HS.out (k:Int);rw[ay.NR s hlt,HH.out] at h;exact h).mono ?_;rintro e w1 ⟨rfl,hb1⟩;have DI:=ark hb1;clear hb1)))
    go_roundw
    case rel=>exact⟨k+1,by omega,by go_num,by rw[L3 HH.out];exact gL DI.out HO.out (Nat.le_refl _),HB.out.trans (DI.out.mono HB.out.size),Whole.under DI.out YT.out YT.out.lt⟩
    case measure=>simp[intOf];omega
  ·obtain rfl:k=256:=by omega
   go_wp2_with fail
   go_ret
   exact⟨_,rfl,HO.out,HB.out⟩
structure aj where
 kind:Int
 src:ay
 tgt:ay
 self:Bool
 cls:Int
 perms:Int
 cond:Int
structure aj.Ok (r:aj):Prop where
 src:r.src.Ok
 tgt:r.tgt.Ok
def aj.cells(r:aj):List Value:=[.int .i64 r.kind,.int .u64 r.src.a,.int .u64 r.src.b,.int .u64 r.src.c,.int .u64 r.src.d,.int .u64 r.tgt.a,.int .u64 r.tgt.b,.int .u64 r.tgt.c,.int .u64 r.tgt.d,.bool r.self,.int .i64 r.cls,.int .u32 r.perms,.int .i64 r.cond]
def aj.tgts(r:aj)(s:Nat):ay:=if r.self then r.tgt.with s else r.tgt
def aj.eA(r:aj)(l:List Nat):List (Nat×Nat):=l.flatMap fun s=>(elems (r.tgts s)).map fun t=>(s,t)
def aj.pairs(r:aj):List (Nat×Nat):=r.eA (elems r.src)
def NA(p:Nat×Nat):List Value:=[.int .i64 (p.1:Int),.int .i64 (p.2:Int)]
def iF(l:List (Nat×Nat)):List Value:=l.flatMap NA
theorem nM(a b:List (Nat×Nat)):iF (a++b)=iF a++iF b:=List.flatMap_append
theorem HZ(a:List Nat):∀ u∈ints a,u.oneCell'=true:=by
 intro u hu;obtain⟨p,-,rfl⟩:=ard.1 hu;rfl
theorem Pz{w:World}{b b':Nat}{e e':TypeId}{k k' n n':Nat}{v v':Value}{xs xs':List Value}(h:w.ownsRow b e k v n xs)(h':w.ownsRow b' e' k' v' n' xs')(hne:e≠e'):v.ownBlock=none∨v.ownBlock≠v'.ownBlock:=by
 rcases h.2 with⟨rfl,_⟩|⟨g,cap,cur,rfl,_,hg,_⟩
 ·exact .inl rfl
 ·refine .inr fun e1=>jE h' (g:=g) (t:=e) (cs:=cur) hg (fun e2=>hne e2.symm) ?_
  rw[← e1];rfl
theorem C8{w w':World}{b b':Nat}{e e':TypeId}{k k' n n':Nat}{v v':Value}{xs xs':List Value}(h:w.ownsRow b e k v n xs)(h':w.ownsRow b' e' k' v' n' xs')(hne:e≠e')(hg:w.grownBy w' v'.ownBlock):w'.ownsRow b e k v n xs:=
 h.kept hg (Pz h h' hne)
theorem qN{w:World}{b:Nat}{e:TypeId}{k n:Nat}{v:Value}{xs:List Value}(h:w.ownsRow b e k v n xs)(o:Obj):(w.alloc o).ownsRow b e k v n xs:=gL ((Below.refl _ w).alloc (Nat.le_refl _) o) h (Nat.le_refl _)
def InR(w:World)(r:aj)(a1:Option Addr)(c1 n1:Nat)(a2:Option Addr)(c2 n2:Nat)(l2:List Nat)(P:List (Nat×Nat))(u:Value)(wr:World):Prop:=
 wr.ownsRow w.heap.size 111 2 u P.length (iF P)∧wr.ownsRow w.heap.size 3 1 (.slice a1 n1 c1) n1 (ints (elems r.src))∧wr.ownsRow w.heap.size 3 1 (.slice a2 n2 c2) n2 (ints l2)∧Below w.heap.size w wr∧Whole wr w.heap.size 56 #[.int .i64 r.kind,.int .u64 r.src.a,.int .u64 r.src.b,.int .u64 r.src.c,.int .u64 r.src.d,.int .u64 r.tgt.a,.int .u64 r.tgt.b,.int .u64 r.tgt.c,.int .u64 r.tgt.d,.bool r.self,.int .i64 r.cls,.int .u32 r.perms,.int .i64 r.cond]
def abh(w:World)(r:aj)(a1:Option Addr)(c1 n1:Nat)(P:List (Nat×Nat))(u:Value)(wr:World):Prop:=
 wr.ownsRow w.heap.size 111 2 u P.length (iF P)∧wr.ownsRow w.heap.size 3 1 (.slice a1 n1 c1) n1 (ints (elems r.src))∧Below w.heap.size w wr∧Whole wr w.heap.size 56 #[.int .i64 r.kind,.int .u64 r.src.a,.int .u64 r.src.b,.int .u64 r.src.c,.int .u64 r.src.d,.int .u64 r.tgt.a,.int .u64 r.tgt.b,.int .u64 r.tgt.c,.int .u64 r.tgt.d,.bool r.self,.int .i64 r.cls,.int .u32 r.perms,.int .i64 r.cond]
theorem abh.keep{w wr w':World}{r:aj}{a1:Option Addr}{c1 n1:Nat}{P:List (Nat×Nat)}{u:Value}(h:abh w r a1 c1 n1 P u wr)(hb:Below wr.heap.size wr w'):abh w r a1 c1 n1 P u w':=
 ⟨gL hb h.1 (Nat.le_refl _),gL hb h.2.1 (Nat.le_refl _),h.2.2.1.trans (hb.mono h.2.2.1.size),Whole.under hb h.2.2.2 h.2.2.2.lt⟩
theorem G7(r:aj)(l:List Nat):(r.eA l).length≤l.length*256:=by
 induction l with
 | nil=>simp[aj.eA]
 | cons s l ih=>
  have h1:=lY (r.tgts s) 256;have e:(r.eA (s::l)).length=(elems (r.tgts s)).length+(r.eA l).length:=by simp[aj.eA]
  rw[e,List.length_cons,Nat.add_mul];unfold elems;omega
theorem Eh(r:aj)(l:List Nat)(s:Nat):r.eA (l++[s])=r.eA l++(elems (r.tgts s)).map fun t=>(s,t):=by simp[aj.eA]
theorem InR.more{w wr w2:World}{r:aj}{a1 a2:Option Addr}{c1 n1 c2 n2:Nat}{l2:List Nat}{P:List (Nat×Nat)}{u v':Value}{s y:Nat}(h:InR w r a1 c1 n1 a2 c2 n2 l2 P u wr)
 (hown:w2.ownsRow w.heap.size 111 2 v' (P.length+1) (iF P++NA (s,y))) (hg:(wr.alloc (.cells #[.int .i64 (s:Int),.int .i64 (y:Int)] 111)).grownBy w2 u.ownBlock):InR w r a1 c1 n1 a2 c2 n2 l2 (P++[(s,y)]) v' w2:=by
 obtain⟨h1,h2,h3,h4,h5⟩:=h;have ho:=qN h1 (.cells #[.int .i64 (s:Int),.int .i64 (y:Int)] 111);refine⟨?_,C8 (qN h2 _) ho (by decide) hg,C8 (qN h3 _) ho (by decide) hg,(h4.alloc h4.size _).grown hg (by have:=h4.size;simp;omega) (fun q hq=>by have:=(h1.lt q hq).1;omega),(h5.alloc _).grown hg (fun e=>jE h1 h5 (by decide) e.symm)⟩;rw[arj,nM];exact hown
def Q0(w:World)(r:aj)(P:List (Nat×Nat))(u:Value)(wr:World):Prop:=
 wr.ownsRow w.heap.size 111 2 u P.length (iF P)∧Below w.heap.size w wr∧Whole wr w.heap.size 56 #[.int .i64 r.kind,.int .u64 r.src.a,.int .u64 r.src.b,.int .u64 r.src.c,.int .u64 r.src.d,.int .u64 r.tgt.a,.int .u64 r.tgt.b,.int .u64 r.tgt.c,.int .u64 r.tgt.d,.bool r.self,.int .i64 r.cls,.int .u32 r.perms,.int .i64 r.cond]
theorem Q0.keep{w wr w':World}{r:aj}{P:List (Nat×Nat)}{u:Value}(h:Q0 w r P u wr)(hb:Below wr.heap.size wr w'):Q0 w r P u w':=
 ⟨gL hb h.1 (Nat.le_refl _),h.2.1.trans (hb.mono h.2.1.size),Whole.under hb h.2.2 h.2.2.lt⟩
theorem Q0.more{w wr w2:World}{r:aj}{P:List (Nat×Nat)}{u v':Value}{s y:Nat}(h:Q0 w r P u wr)
 (hown:w2.ownsRow w.heap.size 111 2 v' (P.length+1) (iF P++NA (s,y))) (hg:(wr.alloc (.cells #[.int .i64 (s:Int),.int .i64 (y:Int)] 111)).grownBy w2 u.ownBlock):Q0 w r (P++[(s,y)]) v' w2:=by
 obtain⟨h1,h4,h5⟩:=h;refine⟨?_,(h4.alloc h4.size _).grown hg (by have:=h4.size;simp;omega) (fun q hq=>by have:=(h1.lt q hq).1;omega),(h5.alloc _).grown hg (fun e=>jE h1 h5 (by decide) e.symm)⟩;rw[arj,nM];exact hown
end Go.Proofs.YtdcofoaihmongaaGreat
namespace Go.Proofs.YtdcofoaihmongaaGreat
open Go Go.RowKit Go.WideMaps
structure bP where
 src:Int
 tgt:Int
 cls:Int
 cond:Int
 allow:Int
 j8:Int
 dont:Int
deriving DecidableEq
def bP.cells(x:bP):List Value:=[.int .i64 x.src,.int .i64 x.tgt,.int .i64 x.cls,.int .i64 x.cond,.int .u32 x.allow,.int .u32 x.j8,.int .u32 x.dont]
theorem ZQ:iQ (Tryz.prog.info? 52) 1 8=true:=by kernel_rfl
theorem ad9:Tryz.prog.cellsOf 52=1:=by kernel_rfl
theorem eqw(d:Nat)(a b:Int)(w:World):(Op.equalIn (d+1) 52 (.int .u64 a) (.int .u64 b)).run Tryz.prog w=.ok (decide (a=b)) w:=by
 by_cases h:a=b<;>simp[Op.equalIn,run_underlying Tryz.underlying52,h]
theorem adR(a b:Int)(w:World):(Op.equalIn 9999 52 (.int .u64 a) (.int .u64 b)).run Tryz.prog w=.ok (decide (a=b)) w:=eqw 9998 a b w
theorem aaH(x0 x1 x2 x3 y0 y1 y2 y3:Int)(w:World):(Op.equalIn 10000 54 (.agg #[.int .u64 x0,.int .u64 x1,.int .u64 x2,.int .u64 x3]) (.agg #[.int .u64 y0,.int .u64 y1,.int .u64 y2,.int .u64 y3])).run Tryz.prog w=.ok (decide (x0=y0∧x1=y1∧x2=y2∧x3=y3)) w:=by
 obtain⟨i0,z,hi,_⟩:=nX ZQ;rw[show(10000:Nat)=9999+1 from rfl,run_equalIn_array w 9999 _ _ Tryz.underlying54 hi,ad9];have p0:∀ x0 x1 x2 x3:Int,(part 52 #[.int .u64 x0,.int .u64 x1,.int .u64 x2,.int .u64 x3] (0*1)).run Tryz.prog w=.ok (.int .u64 x0) w:=fun x0 x1 x2 x3=>by kernel_rfl
 have p1:∀ x0 x1 x2 x3:Int,(part 52 #[.int .u64 x0,.int .u64 x1,.int .u64 x2,.int .u64 x3] (1*1)).run Tryz.prog w=.ok (.int .u64 x1) w:=fun x0 x1 x2 x3=>by kernel_rfl
 have p2:∀ x0 x1 x2 x3:Int,(part 52 #[.int .u64 x0,.int .u64 x1,.int .u64 x2,.int .u64 x3] (2*1)).run Tryz.prog w=.ok (.int .u64 x2) w:=fun x0 x1 x2 x3=>by kernel_rfl
 have p3:∀ x0 x1 x2 x3:Int,(part 52 #[.int .u64 x0,.int .u64 x1,.int .u64 x2,.int .u64 x3] (3*1)).run Tryz.prog w=.ok (.int .u64 x3) w:=fun x0 x1 x2 x3=>by kernel_rfl
 rw[show List.range 4=[0,1,2,3] from rfl];simp only[Op.eqItems,aq2,p0,Result.andThen_ok,adR];by_cases h0:x0=y0<;>by_cases h1:x1=y1<;>by_cases h2:x2=y2<;>by_cases h3:x3=y3<;>simp[h0,h1,h2,h3,aq2,p1,p2,p3,adR]
theorem cE{xs ys:Array Value}{W:World}{d:Nat}:∀ (fs:List Field) (rs:List Bool),fs.length=rs.length→(fs.all fun f=>f.name != "_")=true→(∀ (i:Nat) (f:Field) (r:Bool),fs[i]?=some f→rs[i]?=some r→∃ x y,(part f.type xs f.offset).run Tryz.prog W=.ok x W∧(part f.type ys f.offset).run Tryz.prog W=.ok y W∧(Op.equalIn d f.type x y).run Tryz.prog W=.ok r W)→(Op.eqFields d xs ys fs).run Tryz.prog W=.ok (rs.all id) W
 | [],[],_,_,_=>rfl
 | f::fs,r::rs,hl,hn,h=>by
  obtain⟨x,y,h1,h2,h3⟩:=h 0 f r rfl rfl;have ih:=cE fs rs (by simpa using hl) (by simp at hn;simpa using hn.2) fun i g s hg hs=>h (i+1) g s (by simpa using hg) (by simpa using hs)
  unfold Op.eqFields;have hne:f.name≠ "_":=by simp at hn;exact hn.1
  rw[if_pos hne];simp only[aq2,h1,h2,h3,Result.andThen_ok]
  cases r with
  | false=>simp
  | true=>simpa using ih
 | [],_::_,h,_,_=>by simp at h
 | _::_,[],h,_,_=>by simp at h
end Go.Proofs.YtdcofoaihmongaaGreat
namespace Go.Proofs.YtdcofoaihmongaaGreat
open Go Go.RowKit
def I9(a b:Int):Int:=if a<b then -1 else if b<a then 1 else 0
theorem QF{a b:Int}:I9 a b=0↔a=b:=by
 unfold I9;split
 ·constructor<;>intro h<;>omega
 ·split
  ·constructor<;>intro h<;>omega
  ·constructor<;>intro h<;>omega
theorem uG{a b:Int}:I9 a b<0↔a<b:=by
 unfold I9;split
 ·constructor<;>intro h<;>omega
 ·split
  ·constructor<;>intro h<;>omega
  ·constructor<;>intro h<;>omega
def orI:List Int→Int
 | []=>0
 | x::l=>if x=0 then orI l else x
def jN(x:Int):Value:=.int .i64 x
def jP(w w':World):Prop:=∃ q os,w'=Sort.grow (w.drewN q) os
theorem jP.refl(w:World):jP w w:=⟨0,#[],by rw[Sort.grow_empty];rfl⟩
theorem jP.drewN{w w':World}(h:jP w w')(n:Nat):jP w (w'.drewN n):=by
 obtain⟨q,os,rfl⟩:=h;exact⟨q+n,os,by simp[Sort.grow,World.drewN,Nat.add_assoc]⟩
theorem jP.drew{w w':World}(h:jP w w'):jP w w'.drew:=h.drewN 1
theorem jP.alloc{w w':World}(h:jP w w')(o:Obj):jP w (w'.alloc o):=by
 obtain⟨q,os,rfl⟩:=h;exact⟨q,os++#[o],by rw[Sort.alloc_eq_grow,Sort.grow_grow]⟩
theorem jP.trans{a b c:World}(h:jP a b)(k:jP b c):jP a c:=by
 obtain⟨q,os,rfl⟩:=k;obtain⟨q',os',h'⟩:=h.drewN q;exact⟨q',os'++os,by rw[h',Sort.grow_grow]⟩
theorem jP.below{w w':World}(h:jP w w'):Below w.heap.size w w':=by
 obtain⟨q,os,rfl⟩:=h;refine⟨rfl,rfl,rfl,by simp[Sort.grow,World.drewN],fun k hk=>?_⟩;show(w.heap++os)[k]?=w.heap[k]?;exact Array.getElem?_append_left hk
def zC(x y:bP):Int:=orI [I9 x.src y.src,I9 x.tgt y.tgt,I9 x.cls y.cls,I9 x.cond y.cond]
def ay.least(s:ay):Int:=match (elems s).head? with
 | some n=>(n:Int)
 | none=>-1
def Rl(l:List Int):ay:=l.foldl ay.with ay.zero
theorem yL:ay.zero.Ok:=by constructor<;>(show(0:Nat)<18446744073709551616;decide)
theorem Ip:∀ (l:List Int) {s:ay},s.Ok→(l.foldl ay.with s).Ok
 | [],_,h=>h
 | x::l,_,h=>Ip l (ay.DV h x)
theorem Zz(l:List Int):(Rl l).Ok:=Ip l yL
structure bn where
 allow:Int
 j8:Int
 dont:Int
deriving DecidableEq
def bn.or(u v:bn):bn:=⟨bits .or .u32 u.allow v.allow,bits .or .u32 u.j8 v.j8,bits .or .u32 u.dont v.dont⟩
def CR(k p:Int):bn:=if k=1 then ⟨p,0,0⟩ else if k=2 then ⟨0,p,0⟩ else if k=3 then ⟨0,0,p⟩ else ⟨0,0,0⟩
def bP.vec(x:bP)(k:Int):Int:=if k=1 then x.allow else if k=2 then x.j8 else x.dont
end Go.Proofs.YtdcofoaihmongaaGreat

import Derived.Below
import Derived.BigQuiet
import Derived.ChangeKeysEq
import Derived.Deep.DeepCutAuto
import Derived.Deep.MidRow
import Derived.DeepKeys4
import Derived.Handy
import Derived.Laws.Bits64b
import Derived.Laws.StructEq
import Derived.Lib.Hide
import Derived.OpenShut
import Derived.Orders
import Derived.ProofKit
import Derived.Shelf.SlSortCmp.Insertion
import Derived.SizedLaws
import Derived.Sort.Grow
import Derived.Sort.LotA
import Derived.Tactics
import Derived.Test.YtkkmjdceiocnbaaGreatDoorRows
import Derived.WalkKit
import Derived.WalkSmall
import Derived.WalkSpells
open Array renaming getD_eq_getD_getElem?→ahW
open Bool renaming and_eq_true→ahJ
open Go.Sem renaming run_bind→ahO
open List renaming getElem?_append_left→ahK,getElem?_append_right→ahL,getElem?_eq_getElem→ahM,getElem?_eq_some_iff→ahP,mem_cons→ahQ,mem_cons_of_mem→ahR,getElem?_map→ahS,mem_of_getElem?→ahU,all_eq_true→ahV
open Nat renaming le_trans→ahN
open Option.some renaming inj→ahT
set_option maxRecDepth 100000
set_option maxHeartbeats 8000000
set_option linter.unusedSectionVars false
set_option linter.unusedSimpArgs false
set_option linter.unusedVariables false
namespace Go.Proofs.YtkkmjdceiocnbaaGreatDoor
open Go.RowKit
def vg(o:Option TypeInfo)(k b:Nat):Bool:=
 match o with
 | some i=>(match i.zero with|some z=>z.cells.size == k|none=>false)&&i.size == k&&i.bytes == b
 | none=>false
theorem rT{o:Option TypeInfo}{k b:Nat}(h:vg o k b=true):∃ i z,o=some i∧i.zero=some z∧i.size=k∧i.bytes=b∧z.cells.size=k:=by
 unfold vg at h;split at h
 ·rename_i i;split at h
  ·rename_i z hz;simp only[ahJ,beq_iff_eq] at h;exact⟨i,z,rfl,hz,h.1.2,h.2,h.1.1⟩
  ·simp at h
 ·simp at h
theorem mM{k:IntKind}{a b:Int}(h:a=b):Ending.returned (.int k a)=.returned (.int k b):=by rw[h]
theorem bw{a b:Bool}(h:a=b):Ending.returned (.bool a)=.returned (.bool b):=by rw[h]
theorem ij{α}{l:List α}{k:Nat}{t:α}(h:l[k]?=some t):l.take (k+1)=l.take k++[t]:=by
 rw[List.take_add_one,h];rfl
theorem H7{α}{f:α→List Value}{k:Nat}(hf:∀ x,(f x).length=k){l:List α}{i:Nat}{t:α}(h:l[i]?=some t)(j:Nat)(hj:j<k):(l.flatMap f)[i*k+j]?=(f t)[j]?:=by
 induction l generalizing i with
 | nil=>simp at h
 | cons x l ih=>
  have hl:=hf x
  cases i with
  | zero=>
   simp at h;subst h;rw[List.flatMap_cons,Nat.zero_mul,Nat.zero_add,ahK (by omega)]
  | succ i=>
   have:=ih (i:=i) (by simpa using h);rw[List.flatMap_cons,ahL (by rw[hl,Nat.add_mul];omega),← this];congr 1;rw[hl,Nat.add_mul];omega
def SliceAt(w:World)(v:Value)(k n:Nat)(cs:List Value):Prop:=
 cs.length=n*k∧n≤maxLen∧(∀ u∈cs,u.oneCell'=true) ∧
  ((v=.slice none 0 0∧n=0)∨∃ a c,v=.slice (some a) n c∧n≤c∧∀ j u,cs[j]?=some u→w.cell? (a.add j)=some u)
theorem block_add(a:Addr)(n:Nat):(a.add n).block=a.block:=by unfold Addr.add;split<;>rfl
theorem SliceAt.keep{w w':World}{v:Value}{k n:Nat}{cs:List Value}(h:SliceAt w v k n cs)(hb:Below w.heap.size w w'):SliceAt w' v k n cs:=
 ⟨h.1,h.2.1,h.2.2.1,h.2.2.2.imp id fun⟨a,c,hv,hn,hc⟩=>⟨a,c,hv,hn,fun j u hu=>cell_later hb (hc j u hu)⟩⟩
theorem SliceAt.nil(w:World)(k:Nat):SliceAt w (.slice none 0 0) k 0 []:=⟨by simp,by simp[maxLen],by simp,.inl ⟨rfl,rfl⟩⟩
theorem zP{w:World}{a:Addr}{u:Value}(h:w.cell? (a.add 0)=some u):∃ b off,a=⟨b,off,none⟩:=by
 obtain⟨b,off,s⟩:=a;refine⟨b,off,?_⟩
 cases s with
 | none=>rfl
 | some x=>
  exfalso;unfold World.cell? Addr.add at h;split at h<;>simp at h
theorem SliceAt.form{w:World}{v:Value}{k n:Nat}{cs:List Value}(h:SliceAt w v k n cs)(hk:0<k):
 ∃ a c,v=.slice a n c∧n≤c∧n≤9223372036854775807∧∀ i,i<n→∃ b off,a=some ⟨b,off,none⟩∧∀ j u,cs[i*k+j]?=some u→w.cell? ⟨b,off+i*k+j,none⟩=some u:=by
 have hm:=h.2.1;unfold maxLen at hm;rcases h.2.2.2 with⟨rfl,rfl⟩|⟨a,c,rfl,hn,hc⟩
 ·exact⟨none,0,rfl,Nat.le_refl _,by omega,fun i hi=>by omega⟩
 ·refine⟨_,c,rfl,hn,by omega,fun i hi=>?_⟩;have hlt:i*k<cs.length:=by rw[h.1];exact Nat.mul_lt_mul_of_pos_right hi hk
  obtain⟨b,off,rfl⟩:=zP (hc 0 _ (ahM (by omega)));exact⟨b,off,rfl,fun j u hu=>by have:=hc _ u hu;rwa [Addr.add_mid,← Nat.add_assoc] at this⟩
theorem SliceAt.iM{w:World}{base:Nat}{e:TypeId}{k n:Nat}{v:Value}{cs:List Value}(h:w.ownsRow base e k v n cs)(h1:∀ u∈cs,u.oneCell'=true):SliceAt w v k n cs:=by
 refine⟨h.1,?_,h1,?_⟩
 ·rcases h.2 with⟨_,rfl⟩|⟨g,cap,cur,_,_,_,hn,hc,_⟩
  ·simp[maxLen]
  ·omega
 ·rcases h.2 with h2|⟨g,cap,cur,rfl,_,hg,hn,hc,hs,ht⟩
  ·exact .inl h2
  ·exact .inr ⟨_,cap,rfl,hn,World.ownsRow.cells h (g:=g) rfl⟩
def Whole(w:World)(g:Nat)(t:TypeId)(cs:Array Value):Prop:=w.heap[g]?=some (.cells cs t (0,0))
section
variable {w w':World} {g:Nat} {t:TypeId} {cs:Array Value}
theorem Whole.lt(h:Whole w g t cs):g<w.heap.size:=by
 rcases Nat.lt_or_ge g w.heap.size with hlt|hge
 ·exact hlt
 ·unfold Whole at h;rw[Array.getElem?_eq_none hge] at h;cases h
theorem Whole.cell(h:Whole w g t cs)(i:Nat):w.cell? ⟨g,i,none⟩=cs[i]?:=cell_of_row w g i cs t (0,0) h
theorem Whole.frozen(h:Whole w g t cs)(i:Nat):w.frozen? ⟨g,i,none⟩=false:=frozen_of_row w g i cs t h
theorem Whole.new(w:World)(t:TypeId)(cs:Array Value):Whole (w.alloc (.cells cs t)) w.heap.size t cs:=heap_alloc_new w _
theorem Whole.alloc(h:Whole w g t cs)(o:Obj):Whole (w.alloc o) g t cs:=(Below.heap_alloc w o g h.lt).trans h
theorem Whole.drewN(h:Whole w g t cs)(n:Nat):Whole (w.drewN n) g t cs:=h
theorem Whole.below{B:Nat}(h:Whole w g t cs)(hb:Below B w w')(hg:g<B):Whole w' g t cs:=(hb.block g hg).trans h
theorem Whole.under{B:Nat}(hb:Below B w w')(h:Whole w g t cs)(hg:g<B):Whole w' g t cs:=h.below hb hg
theorem Whole.grown{row:Option Nat}(h:Whole w g t cs)(hb:w.grownBy w' row)(hg:some g≠row):Whole w' g t cs:=(hb.block g h.lt hg).trans h
end
structure uL (w w':World) (g:Nat):Prop where
 os:w'.os=w.os
 tape:w'.tape=w.tape
 output:w'.output=w.output
 size:w'.heap.size=w.heap.size
 block:∀ k,k≠g→w'.heap[k]?=w.heap[k]?
theorem uL.refl(w:World)(g:Nat):uL w w g:=⟨rfl,rfl,rfl,rfl,fun _ _=>rfl⟩
theorem uL.trans{a b c:World}{g:Nat}(h:uL a b g)(k:uL b c g):uL a c g:=
 ⟨k.os.trans h.os,k.tape.trans h.tape,k.output.trans h.output,k.size.trans h.size,fun i hi=>(k.block i hi).trans (h.block i hi)⟩
theorem uL.cell(w:World)(g i:Nat)(v:Value):uL w (w.setCell ⟨g,i,none⟩ v) g:=
 ⟨rfl,rfl,rfl,by simp[World.setCell],fun k hk=>heap_setCell_other w _ k v hk⟩
theorem uL.below{w w':World}{g B:Nat}(h:uL w w' g)(hg:B≤g):Below B w w':=
 ⟨h.os,h.tape,h.output,by rw[h.size];exact Nat.le_refl _,fun k hk=>h.block k (by omega)⟩
theorem uL.whole{w w':World}{g g':Nat}{t:TypeId}{cs:Array Value}(h:uL w w' g)(hw:Whole w g' t cs)(hne:g'≠g):Whole w' g' t cs:=(h.block g' hne).trans hw
theorem uL.grown{w w':World}{g:Nat}(h:uL w w' g):w.grownBy w' (some g):=
 ⟨h.os,h.tape,h.output,by rw[h.size];exact Nat.le_refl _,fun k _ hk=>h.block k fun e=>hk (by rw[e])⟩
theorem uL.own{w w':World}{g base:Nat}{e:TypeId}{size n:Nat}{v:Value}{xs:List Value}(h:uL w w' g)(ho:w.ownsRow base e size v n xs)(hne:v.ownBlock≠some g):w'.ownsRow base e size v n xs:=
 ho.kept h.grown (.inr hne)
theorem uL.cell'{w w':World}{g:Nat}(h:uL w w' g){a:Addr}(ha:a.block≠g):w'.cell? a=w.cell? a:=World.cell?_of_block (h.block _ ha)
theorem uL.slice{w w':World}{g:Nat}{v:Value}{k n:Nat}{cs:List Value}(h:uL w w' g)(hs:SliceAt w v k n cs)(hne:v.ownBlock≠some g):SliceAt w' v k n cs:=
 ⟨hs.1,hs.2.1,hs.2.2.1,hs.2.2.2.imp id fun⟨a,c,hv,hn,hc⟩=>⟨a,c,hv,hn,fun j u hu=>(h.cell' (by rw[block_add];intro e;exact hne (by rw[hv];exact congrArg some e))).trans (hc j u hu)⟩⟩
theorem vZ{w:World}{base base':Nat}{e:TypeId}{size n:Nat}{v:Value}{xs:List Value}(h:w.ownsRow base e size v n xs)(hb:base'≤base):w.ownsRow base' e size v n xs:=
 ⟨h.1,h.2.imp id fun⟨g,cap,cur,hv,hg,r⟩=>⟨g,cap,cur,hv,ahN hb hg,r⟩⟩
def splice(cs:Array Value)(o:Nat):List Value→Array Value
 | []=>cs
 | v::r=>splice (cs.setIfInBounds o v) (o+1) r
theorem uV(cs:Array Value)(o:Nat)(l:List Value):(splice cs o l).size=cs.size:=by
 induction l generalizing cs o with
 | nil=>rfl
 | cons v r ih=>rw[splice,ih];simp
theorem kB(cs:Array Value)(o:Nat)(l:List Value)(h:o+l.length≤cs.size):(splice cs o l).toList=cs.toList.take o++l++cs.toList.drop (o+l.length):=by
 induction l generalizing cs o with
 | nil=>simp[splice]
 | cons v r ih=>
  simp only[List.length_cons] at h;rw[splice,ih _ _ (by rw[Array.size_setIfInBounds];omega)];rw[Array.toList_setIfInBounds,List.length_cons,List.drop_set_of_lt (by omega),List.take_succ_eq_append_getElem (by rw[List.length_set,Array.length_toList];omega)];rw[List.getElem_set_self,List.take_set_of_le (Nat.le_refl _)];simp only[List.append_assoc,List.cons_append,List.nil_append];rw[show o+1+r.length=o+(r.length+1) by omega]
theorem lu{g:Nat}{t:TypeId}:∀ (l:List Value) (o:Nat) (cs:Array Value) (w:World),Whole w g t cs→uL w (w.setCells g o l) g∧Whole (w.setCells g o l) g t (splice cs o l)
 | [],_,_,w,h=>⟨uL.refl w g,h⟩
 | v::r,o,cs,w,h=>by
  have h1:Whole (w.setCell ⟨g,o,none⟩ v) g t (cs.setIfInBounds o v):=heap_setCell_same w g o cs t v h;have:=lu r (o+1) _ _ h1;exact⟨(uL.cell w g o v).trans this.1,this.2⟩
theorem pZ{w:World}{base:Nat}{e:TypeId}{k n:Nat}{v:Value}{cs:List Value}(h:w.ownsRow base e k v n cs)(hn:0<n):
 ∃ g cap cur,v=.slice (some ⟨g,0,none⟩) n cap∧base≤g∧Whole w g e cur∧n≤cap∧cap≤maxLen∧cur.size=cap*k∧cur.toList.take (n*k)=cs:=by
 rcases h.2 with⟨_,rfl⟩|⟨g,cap,cur,hv,hg,hh,h1,h2,h3,h4⟩
 ·omega
 ·exact⟨g,cap,cur,hv,hg,hh,h1,h2,h3,h4⟩
theorem vm{k:Nat}{xs:List (List Value)}(hx:∀ x∈xs,x.length=k){i:Nat}{x:List Value}(h:xs[i]?=some x)(j:Nat)(hj:j<k):xs.flatten[i*k+j]?=x[j]?:=by
 induction xs generalizing i with
 | nil=>simp at h
 | cons y xs ih=>
  have hy:=hx y (by simp)
  cases i with
  | zero=>
   simp at h;subst h;rw[List.flatten_cons,Nat.zero_mul,Nat.zero_add,ahK (by omega)]
  | succ i=>
   have:=ih (fun z hz=>hx z (by simp[hz])) (i:=i) (by simpa using h);rw[List.flatten_cons,ahL (by rw[hy,Nat.add_mul];omega),← this];congr 1;rw[hy,Nat.add_mul];omega
section
variable {P:Program}
theorem nE(w:World)(b o:Nat)(ty:TypeId)(v:Value)(ht:w.there b o v.cells.size)(hi:(P.info? ty).map (·.size)=some v.cells.size)(h1:v.cells.toList.all (·.oneCell')=true):
 (storeVar ty ⟨b,o,none⟩ v).run P w=.ok () (w.setCells b o v.cells.toList):=by
 have h:=run_storeVar_mid (P:=P) w b o ty v.cells ht hi (by rw[← Array.all_toList];exact h1);have e:(Value.agg v.cells).cells=v.cells:=rfl;unfold storeVar at h ⊢;rw[e] at h;exact h
theorem Whole.there{w:World}{g:Nat}{t:TypeId}{cs:Array Value}(h:Whole w g t cs)(o n:Nat)(hn:o+n≤cs.size):w.there g o n:=fun j hj=>by
 refine⟨?_,h.frozen _⟩;rw[h.cell,Array.getElem?_eq_getElem (by omega)];rfl
theorem AA{op:Oper}{a:Act}{w:World}{K:Act→World→Prop}{Q:Exit→Act→World→Prop}(ty:TypeId)(x y:Operand)(ho:op.op=.store ty x y)
 (g o:Nat) (v:Value) (hx:a.eval x=.pointer (some ⟨g,o,none⟩)) (hy:a.eval y=v) (t:TypeId) (cs:Array Value) (hw:Whole w g t cs) (hfit:o+v.cells.size≤cs.size)
 (hi:(P.info? ty).map (·.size)=some v.cells.size) (h1:v.cells.toList.all (·.oneCell')=true)
 (h:∀ w',uL w w' g→Whole w' g t (splice cs o v.cells.toList)→K (a.put op.dst undef) w'):op.wp P a w K Q:=by
 unfold Oper.wp execOp;simp only[ho,hx,hy,Instr.storeAt,Instr.sureAddr,ahO,Sem.run_pure,Result.andThen_ok,nE w g o ty v (hw.there o _ hfit) hi h1];have:=lu v.cells.toList o cs w hw;exact h _ this.1 this.2
end
end Go.Proofs.YtkkmjdceiocnbaaGreatDoor
namespace Go.Proofs.YtkkmjdceiocnbaaGreatDoor
open Go.ChangeAt Go.ChangeShapes Go.RowKit Go.WideShapes
def mW(P:Program)(p:TypeId→List Value→Prop):List TypeId→List Value→Prop
 | [],cs=>cs=[]
 | t::ts,cs=>∃ a b,cs=a++b∧a.length=P.cellsOf t∧p t a∧mW P p ts b
def Rd(P:Program)(w:World):Nat→TypeId→List Value→Prop
 | 0,_,_=>False
 | f+1,t,cs=>
  match P.underlying t with
  | some .bool=>∃ b,cs=[.bool b]
  | some (.int k)=>∃ n,cs=[.int k n]∧(Lit.int k n).wf=true
  | some .string=>∃ s,cs=[.string s]∧s.size≤reachBytes
  | some (.slice e)=>∃ v,cs=[v]∧∃ es:List (List Value),SliceAt w v (P.cellsOf e) es.length es.flatten∧(∀ x∈es,x.length=P.cellsOf e∧Rd P w f e x)∧es.length*P.bytesOf e≤reachBytes
  | some (.struct fs)=>mW P (Rd P w f) (fs.toList.map (·.type)) cs
  | some (.array n e)=>∃ es:List (List Value),cs=es.flatten∧es.length=n∧∀ x∈es,x.length=P.cellsOf e∧Rd P w f e x
  | _=>∃ v,cs=[v]∧v.oneCell'=true
theorem mW.mono{P:Program}{p q:TypeId→List Value→Prop}(h:∀ t cs,p t cs→q t cs):∀ {ts:List TypeId} {cs:List Value},mW P p ts cs→mW P q ts cs
 | [],_,hp=>hp
 | _::_,_,⟨a,b,e,hl,ha,hb⟩=>⟨a,b,e,hl,h _ _ ha,mW.mono h hb⟩
theorem mW.one{P:Program}{p:TypeId→List Value→Prop}(h:∀ t cs,p t cs→∀ u∈cs,u.oneCell'=true):∀ {ts:List TypeId} {cs:List Value},mW P p ts cs→∀ u∈cs,u.oneCell'=true
 | [],_,hp,u,hu=>by rw[show _=[] from hp] at hu;cases hu
 | _::_,_,⟨a,b,e,hl,ha,hb⟩,u,hu=>by
  subst e;rcases List.mem_append.1 hu with h1|h1
  ·exact h _ _ ha u h1
  ·exact mW.one h hb u h1
theorem Rd.one{P:Program}{w:World}:∀ {f:Nat} {t:TypeId} {cs:List Value},Rd P w f t cs→∀ u∈cs,u.oneCell'=true
 | 0,_,_,h,_,_=>h.elim
 | f+1,t,cs,h,u,hu=>by
  unfold Rd at h;split at h
  ·obtain⟨b,rfl⟩:=h;simp at hu;subst hu;rfl
  ·obtain⟨b,rfl,_⟩:=h;simp at hu;subst hu;rfl
  ·obtain⟨b,rfl,_⟩:=h;simp at hu;subst hu;rfl
  ·obtain⟨v,rfl,es,hs,_⟩:=h;simp at hu;subst hu;rcases hs.2.2.2 with⟨rfl,_⟩|⟨a,c,rfl,_⟩<;>rfl
  ·exact mW.one (fun t cs h=>Rd.one h) h u hu
  ·obtain⟨es,rfl,_,hx⟩:=h;obtain⟨x,hx1,hx2⟩:=List.mem_flatten.1 hu;exact Rd.one (hx x hx1).2 u hx2
  ·obtain⟨v,rfl,hv⟩:=h;simp at hu;subst hu;exact hv
theorem Rd.keep{P:Program}{w w':World}(hb:Below w.heap.size w w'):∀ {f:Nat} {t:TypeId} {cs:List Value},Rd P w f t cs→Rd P w' f t cs
 | 0,_,_,h=>h
 | f+1,t,cs,h=>by
  unfold Rd at h ⊢;split at h
  ·exact h
  ·exact h
  ·exact h
  ·obtain⟨v,rfl,es,hs,hx,hr⟩:=h;exact⟨v,rfl,es,hs.keep hb,fun x hx1=>⟨(hx x hx1).1,Rd.keep hb (hx x hx1).2⟩,hr⟩
  ·exact mW.mono (fun t cs h=>Rd.keep hb h) h
  ·obtain⟨es,rfl,hn,hx⟩:=h;exact⟨es,rfl,hn,fun x hx1=>⟨(hx x hx1).1,Rd.keep hb (hx x hx1).2⟩⟩
  ·exact h
section
variable {P:Program} {w:World} {f:Nat} {t:TypeId} {cs:List Value}
theorem Rd.bool(h:Rd P w f t cs)(hu:P.underlying t=some .bool):∃ b,cs=[.bool b]:=by
 cases f with
 | zero=>exact h.elim
 | succ f=>unfold Rd at h;rw[hu] at h;exact h
theorem Rd.int{k:IntKind}(h:Rd P w f t cs)(hu:P.underlying t=some (.int k)):∃ n,cs=[.int k n]∧(Lit.int k n).wf=true:=by
 cases f with
 | zero=>exact h.elim
 | succ f=>unfold Rd at h;rw[hu] at h;exact h
theorem Rd.string(h:Rd P w f t cs)(hu:P.underlying t=some .string):∃ s,cs=[.string s]∧s.size≤reachBytes:=by
 cases f with
 | zero=>exact h.elim
 | succ f=>unfold Rd at h;rw[hu] at h;exact h
theorem Rd.slice{e:TypeId}(h:Rd P w f t cs)(hu:P.underlying t=some (.slice e)):
 ∃ f' v,f=f'+1∧cs=[v]∧∃ es:List (List Value),SliceAt w v (P.cellsOf e) es.length es.flatten∧(∀ x∈es,x.length=P.cellsOf e∧Rd P w f' e x)∧es.length*P.bytesOf e≤reachBytes:=by
 cases f with
 | zero=>exact h.elim
 | succ f=>unfold Rd at h;rw[hu] at h;obtain⟨v,hv,es,hes⟩:=h;exact⟨f,v,rfl,hv,es,hes⟩
theorem Rd.struct{fs:Array Field}(h:Rd P w f t cs)(hu:P.underlying t=some (.struct fs)):∃ f',f=f'+1∧mW P (Rd P w f') (fs.toList.map (·.type)) cs:=by
 cases f with
 | zero=>exact h.elim
 | succ f=>unfold Rd at h;rw[hu] at h;exact⟨f,rfl,h⟩
theorem Rd.array{n:Nat}{e:TypeId}(h:Rd P w f t cs)(hu:P.underlying t=some (.array n e)):∃ f',f=f'+1∧∃ es:List (List Value),cs=es.flatten∧es.length=n∧∀ x∈es,x.length=P.cellsOf e∧Rd P w f' e x:=by
 cases f with
 | zero=>exact h.elim
 | succ f=>unfold Rd at h;rw[hu] at h;exact⟨f,rfl,h⟩
end
section
variable {H:Type} {enc:TypeId×Value→H} {P:Program} {w:World} {spare:Nat→Bool}
theorem Ao{a:Addr}{n:Nat}{cs:List Value}(h:w.cells? 0 a n=some cs):cs.length=n∧∀ j u,cs[j]?=some u→w.cell? (a.add j)=some u:=by
 obtain⟨_,hl,hc⟩:=World.cells?_some h;refine⟨hl,fun j u hu=>?_⟩;have hj:=(ahP.1 hu).1;rw[hc j (by omega),hu]
theorem FR{es:List (List Value)}{k:Nat}(hk:∀ x∈es,x.length=k)(j:Nat)(u:Value)(h:es.flatten[j]?=some u):∃ i x r,es[i]?=some x∧r<k∧j=i*k+r∧x[r]?=some u:=by
 induction es generalizing j with
 | nil=>simp at h
 | cons x es ih=>
  have hx:=hk x (by simp);rw[List.flatten_cons] at h;by_cases hj:j<k
  ·rw[ahK (by omega)] at h;exact⟨0,x,j,rfl,hj,by omega,h⟩
  ·rw[ahL (by omega)] at h;obtain⟨i,y,r,h1,h2,h3,h4⟩:=ih (fun y hy=>hk y (by simp[hy])) _ h;exact⟨i+1,y,r,by simpa using h1,h2,by rw[Nat.add_mul];omega,h4⟩
theorem add_add(a:Addr)(i j:Nat):(a.add i).add j=a.add (i+j):=by
 unfold Addr.add;by_cases hi:i=0<;>by_cases hj:j=0<;>simp[hi,hj,Nat.add_assoc]
theorem uN{e:TypeId}{l:List (DataW H)}{d:DataW H}(hd:d∈l){n:Nat}(hn:n∈d.weights P e):n∈DataW.weightsAll P e l:=by
 induction l with
 | nil=>cases hd
 | cons x l ih=>
  simp only[DataW.weightsAll,List.mem_append];rcases ahQ.1 hd with rfl|h
  ·exact .inl hn
  ·exact .inr (ih h)
theorem CX{p:TypeId→List Value→Prop}:∀ (ts:List TypeId) (cs:List Value),cs.length=(ts.map fun t=>P.cellsOf t).sum →
 (∀ (j:Nat) (t:TypeId),ts[j]?=some t→p t ((cs.drop ((ts.take j).map fun t=>P.cellsOf t).sum).take (P.cellsOf t)))→mW P p ts cs
 | [],cs,hl,_=>by simpa[mW] using hl
 | t::ts,cs,hl,h=>by
  simp only[List.map_cons,List.sum_cons] at hl;refine⟨cs.take (P.cellsOf t),cs.drop (P.cellsOf t),(List.take_append_drop _ _).symm,by rw[List.length_take];omega,by simpa using h 0 t rfl,CX ts _ (by rw[List.length_drop];omega) fun j u hu=>?_⟩;have:=h (j+1) u (by simpa using hu);rw[List.drop_drop];simpa[List.take_succ_cons] using this
theorem Rd.wh{held:Bool}(hl:laidOutB P=true):∀ (f:Nat) (t:TypeId) (cs:List Value) (d:DataW H) (ps:List MemPlace),isVar P t=true →
 DataW.trod enc P w 0 (fun _=>true) held f t cs=some (d,ps)→(∀ n∈d.weights P t,n≤reachBytes)→Rd P w f t cs
 | 0,t,cs,d,ps,_,h,_=>by simp[DataW.trod] at h
 | f+1,t,cs,d,ps,hv,h,hw=>by
  have hlt:t<P.types.size:=by
   unfold isVar at hv;simp only[ahJ,decide_eq_true_eq] at hv;exact hv.1
  have hrow:=rowFine_of_laidOut hl hlt;unfold rowFine at hrow;rw[hv] at hrow;simp only[Bool.not_true,Bool.false_or] at hrow;unfold Rd;split
  ·rename_i hu;obtain⟨b,rfl,_⟩:=DataW.trod_bool hu h;exact⟨b,rfl⟩
  ·rename_i k hu;obtain⟨n,rfl,_,hwf⟩:=DataW.trod_int hu h;exact⟨n,rfl,hwf⟩
  ·rename_i hu;obtain⟨s,rfl,hx,_⟩:=DataW.trod_string hu h;refine⟨s,rfl,?_⟩;simp only[Prod.mk.injEq] at hx;obtain⟨rfl,_⟩:=hx;have:=hw s.data.toList.length (by simp[DataW.weights])
   rwa [Array.length_toList] at this
  ·rename_i e hu;rw[hu] at hrow;simp only[ahJ,beq_iff_eq] at hrow;rcases DataW.trod_slice hu h with⟨rfl,_⟩|⟨a,len,cap,elems,rest,n,hf,rfl,hx,_,hlc,hcm,hel,hcell,hrest,_⟩
   ·exact⟨_,rfl,[],SliceAt.nil _ _,by simp,by simp⟩
   ·obtain rfl:f=n:=by omega
    simp only[Prod.mk.injEq] at hx;obtain⟨rfl,_⟩:=hx;have hw1:=hw ((elems.length+rest.length)*P.bytesOf e) (by rw[DataW.weights,hu];simp)
    have hw2:∀ x∈elems,∀ n∈x.1.weights P e,n≤reachBytes:=fun x hx n hn=>hw n (by
     rw[DataW.weights,hu];exact ahR _ (List.mem_append_left _ (uN (List.mem_map_of_mem hx) hn)))
    have each:∀ i,i<len→∃ es x,w.cells? 0 (a.add (i*P.cellsOf e)) (P.cellsOf e)=some es∧elems[i]?=some x∧DataW.trod enc P w 0 (fun _=>true) held f e es=some x:=fun i hi=>by
     have hi':i<elems.length:=by omega
     have:=hcell i hi;rw[ahM hi'] at this;obtain⟨es,h1,h2⟩:=Option.bind_eq_some_iff.1 this;exact⟨es,_,h1,ahM hi',h2⟩
    let es:List (List Value):=(List.range len).map fun i=>(w.cells? 0 (a.add (i*P.cellsOf e)) (P.cellsOf e)).getD []
    have hes:∀ i x,es[i]?=some x→i<len∧w.cells? 0 (a.add (i*P.cellsOf e)) (P.cellsOf e)=some x:=fun i x hx=>by
     have hi:i<len:=by have:=(ahP.1 hx).1;simpa[es] using this
     obtain⟨y,_,h1,_⟩:=each i hi;simp only[es,ahS,List.getElem?_range hi,Option.map_some,h1,Option.getD_some,Option.some.injEq] at hx;exact⟨hi,by rw[h1,hx]⟩
    have hlen:es.length=len:=by simp[es]
    have hk:∀ x∈es,x.length=P.cellsOf e:=fun x hx=>by
     obtain⟨i,hi⟩:=List.getElem?_of_mem hx;exact(Ao (hes i x hi).2).1
    have hrd:∀ x∈es,Rd P w f e x:=fun x hx=>by
     obtain⟨i,hi⟩:=List.getElem?_of_mem hx;obtain⟨JX,hc⟩:=hes i x hi;obtain⟨y,z,h1,h2,h3⟩:=each i JX;obtain rfl:y=x:=ahT (h1.symm.trans hc);exact Rd.wh hl f e y z.1 z.2 hrow.1 h3 (hw2 z (ahU h2))
    refine⟨_,rfl,es,⟨?_,by rw[hlen];omega,?_,.inr ⟨a,cap,by rw[hlen],by rw[hlen];exact hlc,?_⟩⟩,fun x hx=>⟨hk x hx,hrd x hx⟩,?_⟩
    ·have:∀ l:List (List Value),(∀ x∈l,x.length=P.cellsOf e)→l.flatten.length=l.length*P.cellsOf e:=fun l=>by
      induction l with
      | nil=>simp
      | cons x l ih=>intro h;rw[List.flatten_cons,List.length_append,ih (fun y hy=>h y (by simp[hy])),h x (by simp),List.length_cons,Nat.add_mul];omega
     exact this es hk
    ·intro u hu;obtain⟨x,hx1,hx2⟩:=List.mem_flatten.1 hu;exact(hrd x hx1).one u hx2
    ·intro j u hj;obtain⟨i,x,r,h1,h2,rfl,h4⟩:=FR hk j u hj;have:=(Ao (hes i x h1).2).2 r u h4
     rwa [add_add] at this
    ·rw[hlen];refine ahN (Nat.mul_le_mul_right _ ?_) hw1;omega
  ·rename_i fs hu;rw[hu] at hrow;simp only[ahJ,beq_iff_eq,ahV,List.mem_range] at hrow;obtain⟨⟨ZJ,hsum⟩,hoff⟩:=hrow;obtain⟨xs,n,hf,hx,hcl,hxl,Tt⟩:=DataW.trod_struct hu h;obtain rfl:f=n:=by omega
   simp only[Prod.mk.injEq] at hx;obtain⟨rfl,_⟩:=hx;refine CX _ cs (by rw[hcl,hsum,List.map_map];rfl) fun j t' hj=>?_
   rw[ahS] at hj;obtain⟨fl,hfl,rfl⟩:=Option.map_eq_some_iff.1 hj;have hjl:j<fs.toList.length:=(ahP.1 hfl).1;have ho:=hoff j hjl;rw[hfl] at ho;simp only[beq_iff_eq] at ho;have hxj:=Tt j fl (by rw[← hfl,Array.getElem?_toList]);have hjx:j<xs.length:=by rw[hxl];simpa using hjl
   rw[ahM hjx,ho] at hxj;rw[List.map_take] at hxj;rw[← List.map_take,List.map_map,List.map_take];refine Rd.wh hl f _ _ xs[j].1 xs[j].2 (ZJ fl (ahU hfl)) hxj fun n hn=>hw n ?_
   rw[DataW.weights,hu];exact DataW.weights_mem_each (j:=j) (by rw[ahS,hfl];rfl) (by rw[ahS,ahM hjx];rfl) n hn
  ·rename_i n e hu;rw[hu] at hrow;simp only[ahJ,beq_iff_eq] at hrow;obtain⟨xs,m,hf,hx,hcl,hxl,hel⟩:=DataW.trod_array hu h;obtain rfl:f=m:=by omega
   simp only[Prod.mk.injEq] at hx;obtain⟨rfl,_⟩:=hx
   have hsp:∀ (n:Nat) (cs:List Value),cs.length=n*P.cellsOf e→(∀ i,i<n→Rd P w f e ((cs.drop (i*P.cellsOf e)).take (P.cellsOf e))) →
    ∃ es:List (List Value),cs=es.flatten∧es.length=n∧∀ x∈es,x.length=P.cellsOf e∧Rd P w f e x:=fun n=>by
    induction n with
    | zero=>intro cs h _;exact⟨[],by simpa using h,rfl,by simp⟩
    | succ n ih=>
     intro cs h hr;rw[Nat.add_mul] at h
     obtain⟨es,h1,h2,h3⟩:=ih (cs.drop (P.cellsOf e)) (by rw[List.length_drop];omega) fun i hi=>by
      have:=hr (i+1) (by omega);rw[List.drop_drop]
      rwa [show P.cellsOf e+i*P.cellsOf e=(i+1)*P.cellsOf e by rw[Nat.add_mul];omega]
     refine⟨cs.take (P.cellsOf e)::es,by rw[List.flatten_cons,← h1,List.take_append_drop],by simp[h2],fun x hx=>?_⟩;rcases ahQ.1 hx with rfl|hx
     ·exact⟨by rw[List.length_take];omega,by simpa using hr 0 (by omega)⟩
     ·exact h3 x hx
   refine hsp n cs (by rw[hcl,hrow.2]) fun i hi=>?_
   have hxi:=hel i hi;have hix:i<xs.length:=by omega
   rw[ahM hix] at hxi;refine Rd.wh hl f _ _ xs[i].1 xs[i].2 hrow.1 hxi fun n hn=>hw n ?_
   rw[DataW.weights,hu];exact uN (List.mem_map_of_mem (List.getElem_mem hix)) hn
  ·unfold DataW.trod at h;split at h<;>first|(simp_all;done)|exact⟨_,rfl,rfl⟩
def Arg(P:Program)(w:World)(t:TypeId)(v:Value):Prop:=
 ∃ f cs,Rd P w f t cs∧v=match P.underlying t with
  | some (.struct _)|some (.array _ _)=>.agg cs.toArray
  | _=>cs.headD undef
def Args(P:Program)(w:World):List TypeId→List Value→Prop
 | [],[]=>True
 | t::ts,v::vs=>Arg P w t v∧Args P w ts vs
 | _,_=>False
theorem Uu{held:Bool}{r:Reach}{base:Nat}(hl:laidOutB P=true){t:TypeId}{v:Value}{d:DataW H}{ps:List MemPlace}(hv:isVar P t=true)(hok:Value.okWide P w r base t v)
 (h:DataW.Trod enc P w 0 (fun _=>true) held t v d ps) (hw:∀ n∈d.weights P t,n≤reachBytes):Arg P w t v:=by
 obtain⟨f,h⟩:=h;refine⟨f,_,Rd.wh hl f t _ d ps hv h hw,?_⟩;unfold Value.okWide at hok;split at hok
 ·obtain⟨cs,rfl,_⟩:=hok
  simp_all [Value.cells]
 ·obtain⟨cs,rfl,_⟩:=hok
  simp_all [Value.cells]
 ·split
  ·simp_all
  ·simp_all
  ·cases v<;>simp_all [Value.cells,Cell.okWide,Cell.ok]
theorem Ir{r:Reach}{base:Nat}(hl:laidOutB P=true):∀ {ts:List TypeId} {vs:List Value} {ds:List (DataW H)} {ps:List MemPlace},(∀ t∈ts,isVar P t=true) →
 (∀ (j:Nat) t v,ts[j]?=some t→vs[j]?=some v→Value.okWide P w r base t v)→DataW.TrodAll enc P w 0 (fun _=>true) true ts vs ds ps→(∀ n∈DataW.weightsEach P ts ds,n≤reachBytes)→Args P w ts vs
 | [],[],[],_,_,_,_,_=>trivial
 | t::ts,v::vs,d::ds,ps,hv,hok,⟨p,q,h1,h2,_⟩,hw=>by
  simp only[DataW.weightsEach,List.mem_append] at hw
  exact⟨Uu hl (hv t (by simp)) (hok 0 t v rfl rfl) h1 fun n hn=>hw n (.inl hn),
   Ir hl (fun t ht=>hv t (by simp[ht])) (fun j t v h1 h2=>hok (j+1) t v (by simpa using h1) (by simpa using h2)) h2 fun n hn=>hw n (.inr hn)⟩
theorem pR:∀ {ts:List TypeId} {vs:List Value} {ds:List (DataW H)} {ps:List MemPlace},DataW.TrodAll enc P w 0 spare true ts vs ds ps→ds.length=ts.length
 | [],[],[],_,_=>rfl
 | _::_,_::_,_::_,_,⟨_,_,_,h2,_⟩=>by simp[pR h2]
theorem sw{w':World}(hl:laidOutB P=true)(hb:Below w.heap.size w w'):∀ {ts:List TypeId} {vs:List Value} {ds:List (DataW H)} {ps:List MemPlace},
 (∀ t∈ts,isVar P t=true∧P.readableRec t=true)→DataW.TrodAll enc P w 0 (fun _=>true) true ts vs ds ps→(∀ x∈ps,x.block<w.heap.size)→DataW.TrodAll enc P w' 0 (fun b=>decide (b<w.heap.size)) true ts vs ds ps
 | [],[],[],_,_,h,_=>h
 | t::ts,v::vs,d::ds,_,hr,⟨p,q,h1,h2,rfl⟩,hlt=>by
  have hv:=(hr t (by simp)).1;unfold isVar at hv;simp only[ahJ,decide_eq_true_eq] at hv
  exact⟨p,q,Below.trod hl (hr t (by simp)).2 hv.1 h1 hb fun x hx=>hlt x (List.mem_append_left _ hx),
   sw hl hb (fun t ht=>hr t (by simp[ht])) h2 fun x hx=>hlt x (List.mem_append_right _ hx),rfl⟩
end
section
variable {H:Type} {enc:TypeId×Value→H}
theorem Mi{P:Program}{fn:Func}{s:ChangeSpec}(laid:laidOutB P=true)(hv:s.vars=[])(tb:TypeId)(hres:fn.resultTypes=#[tb])(hb:P.underlying tb=some .bool)
 (hpar:fn.params.toList.all (fun t=>isVar P t&&P.readableRec t)=true)
 (hspec:∀ ds:List (DataW H),ds.length=fn.params.toList.length→s.fn H ds={ results:=[.lit (.bool true)],args:=ds })
 {W W':World} {args:Array Value} {ds gs:List (DataW H)} {before:List MemPlace} (hW:DataW.Whole enc P fn.params.toList s.vars false W args.toList ds gs before) (hB:Below W.heap.size W W') :
 s.post enc P fn false true false false W args (.bool true) W':=by
 have hW':=hW;have hlt:=hW.lt;obtain⟨p,q,hA,hV,rfl,_,_⟩:=hW;rw[hv] at hV;obtain⟨rfl,rfl⟩:=trodVars_none hV;rw[List.append_nil] at hlt
 have hp:∀ t∈fn.params.toList,isVar P t=true∧P.readableRec t=true:=fun t ht=>by
  have:=ahV.1 hpar t ht;simpa using this
 have hs:=hspec ds (pR hA);refine⟨ds,[],_,[],p,[],hW',?_,?_,?_,hB.frame _,fun h=>by cases h⟩
 ·rw[List.append_nil,hs,hres];exact trodAll_mk1 (shut_bool hb true)
 ·rw[List.append_nil,hs];exact sw laid hB hp hA hlt
 ·rw[hv,List.append_nil,hs];exact rfl
end
end Go.Proofs.YtkkmjdceiocnbaaGreatDoor
namespace Go.Proofs.YtkkmjdceiocnbaaGreatDoor
open Go.RowKit
theorem CY{w w':World}{B base:Nat}{e:TypeId}{size n:Nat}{v:Value}{xs:List Value}(hb:Below B w w')(h:w.ownsRow base e size v n xs)(hB:w.heap.size≤B):w'.ownsRow base e size v n xs:=
 ⟨h.1,h.2.imp id fun⟨g,cap,cur,hv,hg,hh,r⟩=>⟨g,cap,cur,hv,hg,(hb.block g (Nat.lt_of_lt_of_le (Array.getElem?_eq_some_iff.1 hh).1 hB)).trans hh,r⟩⟩
theorem CZ{w:World}{base g:Nat}{e t:TypeId}{size n:Nat}{v:Value}{xs:List Value}{cs:Array Value}(h:w.ownsRow base e size v n xs)(hg:Whole w g t cs)(hne:e≠t):v.ownBlock≠some g:=by
 rcases h.2 with⟨rfl,_⟩|⟨g',cap,cur,rfl,_,hh,_⟩
 ·simp[Value.ownBlock]
 ·intro he;have hgg:g'=g:=by simpa[Value.ownBlock] using he
  subst hgg;unfold Whole at hg;rw[hh] at hg;simp only[Option.some.injEq,Obj.cells.injEq] at hg;exact hne hg.2.1
end Go.Proofs.YtkkmjdceiocnbaaGreatDoor
namespace Go.Proofs.YtkkmjdceiocnbaaGreatDoor
def upd(L:Nat→Bool)(i:Nat):Nat→Bool:=fun j=>j == i||L j
def om(P:Program)(ops:Array Oper)(I:(Nat→Bool)→Act→World→Prop):Nat→List Oper→Prop
 | _,[]=>True
 | i,o::r=>(∀ (L:Nat→Bool) (a:Act) (w:World) (Q':Exit→Act→World→Prop),I L a w→L i=false→(∀ e∈o.after.toList,Region.binds .any e=true→L e.on=true) →
  (∀ a w,I (upd L i) a w→Q' .normal a w)→wpList P ops Q' [o] a w)∧om P ops I (i+1) r
def ordered:Nat→List Oper→Bool
 | _,[]=>true
 | i,o::r=>o.after.toList.all (fun e=>!Region.binds .any e||decide (e.on<i))&&ordered (i+1) r
theorem jf:∀ (k:Nat) (l:List Oper),ordered k l=true→∀ i o,l[i]?=some o→∀ e∈o.after.toList,Region.binds .any e=true→e.on<k+i
 | _,[],_,i,o,h,_,_,_=>by simp at h
 | k,x::r,h,0,o,ho,e,he,hb=>by
  simp only[ordered,ahJ,ahV] at h;simp at ho;subst ho;have:=h.1 e he;rw[hb] at this;simpa using this
 | k,x::r,h,i+1,o,ho,e,he,hb=>by
  simp only[ordered,ahJ] at h;have:=jf (k+1) r h.2 i o (by simpa using ho) e he hb;omega
theorem CC{P:Program}{ops:Array Oper}{I:(Nat→Bool)→Act→World→Prop}:∀ (k:Nat) (l:List Oper),om P ops I k l→∀ i o,l[i]?=some o →
 ∀ (L:Nat→Bool) (a:Act) (w:World) (Q':Exit→Act→World→Prop),I L a w→L (k+i)=false→(∀ e∈o.after.toList,Region.binds .any e=true→L e.on=true) →
  (∀ a w,I (upd L (k+i)) a w→Q' .normal a w)→wpList P ops Q' [o] a w
 | _,[],_,i,o,h=>by simp at h
 | k,x::r,h,0,o,ho=>by
  simp at ho;subst ho;exact h.1
 | k,x::r,h,i+1,o,ho=>by
  have:=CC (k+1) r h.2 i o (by simpa using ho)
  rwa [show k+1+i=k+(i+1) by omega] at this
section
variable {P:Program} {ops:Array Oper} {Q:Exit→Act→World→Prop}
theorem yT{listed:Array Bool}(hs:listed.size=ops.size)(fT:∀ (i:Nat) (o:Oper),ops[i]?=some o→∀ e∈o.after.toList,Region.binds .any e=true→e.on<i)(hr:Region.ready .any ops listed=[]):
 ∀ i,i<ops.size→listed.getD i false=true:=by
 intro i
 induction i using Nat.strongRecOn with
 | ind i ih=>
  intro hi;refine Classical.byContradiction fun hn=>?_
  have hm:i∈Region.ready .any ops listed:=mem_ready.2 ⟨by
   rw[ahW,Array.getElem?_eq_getElem (by omega)] at hn ⊢;simpa using hn,ops[i],Array.getElem?_eq_getElem hi,fun e he hb=>ih e.on (fT i _ (Array.getElem?_eq_getElem hi) e (by simpa using he) hb) (Nat.lt_trans (fT i _ (Array.getElem?_eq_getElem hi) e (by simpa using he) hb) hi)⟩
  rw[hr] at hm;cases hm
theorem AB{i:Nat}{o:Oper}{a:Act}{w:World}{K:Act→World→Prop}(ho:ops[i]?=some o)
 (h:∀ Q':Exit→Act→World→Prop,(∀ a w,K a w→Q' .normal a w)→wpList P ops Q' [o] a w):wpOp P ops Q i K a w:=by
 have h1:=h (fun e a w=>match e with|.normal=>K a w|e=>Q e a w) (fun _ _ h=>h);unfold wpOp;rw[ho];simp only[wpList] at h1;dsimp only;split
 ·rename_i hw;rw[if_pos hw] at h1;refine h1.imp (fun h2=>?_) (fun h2=>⟨h2.1,h2.2⟩);unfold Oper.wp at *;generalize (execOp a.eval o).run P w=r at *
  cases r with
  | ok n w'=>
   cases n<;>simp only[Oper.upon] at h2 ⊢<;>first|exact h2|exact Calls.mono h2 (fun e w'' he=>by cases e<;>exact he)
  | halt x w'=>cases x<;>simp only[Oper.upon] at h2 ⊢<;>exact h2
 ·rename_i hw;rw[if_neg hw] at h1;exact h1
theorem zK(I:(Nat→Bool)→Act→World→Prop)(fT:∀ (i:Nat) (o:Oper),ops[i]?=some o→∀ e∈o.after.toList,Region.binds .any e=true→e.on<i)
 (hstep:∀ (i:Nat) (o:Oper),ops[i]?=some o→∀ (L:Nat→Bool) (a:Act) (w:World),I L a w→L i=false→(∀ e∈o.after.toList,Region.binds .any e=true→L e.on=true)→wpOp P ops Q i (I (upd L i)) a w)
 (hend:∀ (L:Nat→Bool) (a:Act) (w:World),I L a w→(∀ i,i<ops.size→L i=true)→Q .normal a w) :
 ∀ (fuel:Nat) (listed:Array Bool) (a:Act) (w:World),listed.size=ops.size→listed.toList.count false≤fuel→I (fun j=>listed.getD j false) a w→wpAny P .any ops Q fuel listed a w:=by
 intro fuel
 induction fuel with
 | zero=>
  intro listed a w hs hc hI
  have hr:Region.ready .any ops listed=[]:=by
   refine List.eq_nil_iff_forall_not_mem.2 fun j hj=>?_
   have h:=mem_ready.1 hj;obtain⟨h0,o,ho,_⟩:=h;have hlt:j<ops.size:=(Array.getElem?_eq_some_iff.1 ho).1
   have hmem:false∈listed.toList:=by
    rw[ahW,Array.getElem?_eq_getElem (by omega)] at h0;simp only[Option.getD_some] at h0;rw[← h0];simp
   have:=List.count_pos_iff.2 hmem;omega
  exact⟨hr,hend _ a w hI (yT hs fT hr)⟩
 | succ fuel ih=>
  intro listed a w hs hc hI;refine⟨fun hr=>hend _ a w hI (yT hs fT hr),fun j hj=>?_⟩;have h:=mem_ready.1 hj;obtain⟨h0,o,ho,ha⟩:=h;have hlt:j<ops.size:=(Array.getElem?_eq_some_iff.1 ho).1;have hjl:j<listed.size:=by omega
  have h0':listed[j]=false:=by
   rw[ahW,Array.getElem?_eq_getElem hjl] at h0;simpa using h0
  refine wpOp_mono (fun a' w' hI'=>ih (listed.setIfInBounds j true) a' w' (by simpa using hs) ?_ ?_) (hstep j o ho _ a w hI ?_ (fun e he hb=>ha e (by simpa using he) hb))
  ·rw[Array.toList_setIfInBounds,List.count_set (by simpa using hjl)]
   have hmem:false∈listed.toList:=by
    rw[← h0'];simp
   have:=List.count_pos_iff.2 hmem;have hb:(listed.toList[j] == false)=true:=by simpa using h0'
   rw[if_pos hb,if_neg (by simp)];omega
  ·have:(fun k=>(listed.setIfInBounds j true).getD k false)=upd (fun k=>listed.getD k false) j:=by
    funext k
    unfold upd;by_cases hk:k=j
    ·subst hk;simp[ahW,hjl]
    ·have:(k == j)=false:=by simpa using hk
     simp only[this,Bool.false_or];rw[ahW,ahW,Array.getElem?_setIfInBounds_ne (Ne.symm hk)]
   rw[this];exact hI'
  ·rw[ahW,Array.getElem?_eq_getElem hjl,Option.getD_some,h0']
theorem mY{id:Nat}{l:List Oper}{a:Act}{w:World}(hm:P.follows .mixedOrders=true)(fT:ordered 0 l=true)(I:(Nat→Bool)→Act→World→Prop)
 (h0:I (fun _=>false) a w.drew) (hstep:om P l.toArray I 0 l) (hend:∀ (L:Nat→Bool) (a:Act) (w:World),I L a w→(∀ i,i<l.length→L i=true)→Q .normal a w) :
 (Code.region id l.toArray true).wp P Q a w:=by
 refine wp_region_any hm (zK I (fun i o ho e he hb=>?_) (fun i o ho L a w hI hL ha=>?_) (fun L a w hI hL=>hend L a w hI (by simpa using hL)) _ _ a _ (by simp) ?_ ?_)
 ·have:=jf 0 l fT i o (by simpa using ho) e he hb;omega
 ·refine AB ho fun Q' hQ'=>?_
  have:=CC 0 l hstep i o (by simpa using ho) L a w Q' hI (by simpa using hL) ha (by simpa using hQ');exact this
 ·exact ahN (List.count_le_length ..) (by simp)
 ·have:(fun j=>(Array.replicate l.toArray.size false).getD j false)=fun _=>false:=by
   funext j
   rw[ahW,Array.getElem?_replicate];split<;>rfl
  rw[this];exact h0
end
end Go.Proofs.YtkkmjdceiocnbaaGreatDoor
namespace Go.Proofs.YtkkmjdceiocnbaaGreatDoor
open Go.RowKit
structure Ca (slots:List Nat) (bB:List (Value→World→Prop)) (inv:World→Prop) (t:Array Value) (d:List Deferred) (L:Nat→Bool) (a:Act) (w:World):Prop where
 defers:a.defers=d
 inv:inv w
 done:∀ i,L i=true→∀ s g,slots[i]?=some s→bB[i]?=some g→∃ v,a.tmps[s]?=some v∧g v w
 rest:∀ j,slots.contains j=false→a.tmps[j]?=t[j]?
 size:a.tmps.size=t.size
def mX(g:Value→World→Prop):Prop:=∀ v w w',g v w→Below w.heap.size w w'→g v w'
def oh:List (Value→World→Prop)→Prop
 | []=>True
 | g::r=>mX g∧oh r
theorem Aa:∀ {l:List (Value→World→Prop)},oh l→∀ g∈l,mX g
 | [],_,_,h=>by cases h
 | x::r,h,g,hg=>by
  rcases ahQ.1 hg with rfl|hg
  ·exact h.1
  ·exact Aa h.2 g hg
def PU(x:Value):Value→World→Prop:=fun v _=>x=v
theorem Dg(x:Value):mX (PU x):=fun _ _ _ h _=>h
theorem qc{l:List Nat}(h:l.Nodup){i j s:Nat}(hi:l[i]?=some s)(hj:l[j]?=some s):i=j:=by
 obtain⟨hi1,hi2⟩:=ahP.1 hi;obtain⟨hj1,hj2⟩:=ahP.1 hj;have hp:=List.pairwise_iff_getElem.1 h;rcases Nat.lt_trichotomy i j with hlt|he|hlt
 ·exact absurd (hi2.trans hj2.symm) (hp i j hi1 hj1 hlt)
 ·exact he
 ·exact absurd (hj2.trans hi2.symm) (hp j i hj1 hi1 hlt)
def Laid(d:List Deferred)(w:World)(a:Act):List (Option Nat)→List (Value→World→Prop)→Array Value→Prop
 | some s::ss,g::gs,t=>∃ u,g u w∧Laid d w a ss gs (t.setIfInBounds s u)
 | none::ss,g::gs,t=>∃ u,g u w∧Laid d w a ss gs t
 | _,_,t=>a=⟨t,d⟩
structure D9 (slots:List (Option Nat)) (bB:List (Value→World→Prop)) (inv:World→Prop) (t:Array Value) (d:List Deferred) (L:Nat→Bool) (a:Act) (w:World):Prop where
 defers:a.defers=d
 inv:inv w
 done:∀ i,L i=true→∀ g,bB[i]?=some g→∃ v,(∀ s,slots[i]?=some (some s)→a.tmps[s]?=some v)∧g v w
 rest:∀ j,slots.contains (some j)=false→a.tmps[j]?=t[j]?
 size:a.tmps.size=t.size
theorem wm{d:List Deferred}{w:World}{a:Act}(hd:a.defers=d):∀ (slots:List (Option Nat)) (bB:List (Value→World→Prop)) (t:Array Value),slots.length=bB.length →
 (∀ (i:Nat) (g:Value→World→Prop),bB[i]?=some g→∃ v,(∀ s,slots[i]?=some (some s)→a.tmps[s]?=some v)∧g v w)→(∀ j,slots.contains (some j)=false→a.tmps[j]?=t[j]?)→a.tmps.size=t.size→Laid d w a slots bB t
 | [],[],t,_,_,hr,_=>by
  show a=⟨t,d⟩;obtain⟨at',ad⟩:=a;have e1:at'=t:=Array.ext_getElem? fun j=>hr j rfl
  have e2:ad=d:=hd;rw[e1,e2]
 | none::ss,g::gs,t,hl,hg,hr,hs=>by
  obtain⟨u,_,yp⟩:=hg 0 g rfl;refine⟨u,yp,wm hd ss gs _ (by simpa using hl) (fun i g' h2=>?_) (fun j hj=>hr j ?_) hs⟩
  ·obtain⟨v,h3,h4⟩:=hg (i+1) g' (by simpa using h2);exact⟨v,fun s' h1=>h3 s' (by simpa using h1),h4⟩
  ·simp only[List.contains_cons,hj,Bool.or_false];rfl
 | some s::ss,g::gs,t,hl,hg,hr,hs=>by
  obtain⟨u,hu,yp⟩:=hg 0 g rfl;have hu:=hu s rfl;refine⟨u,yp,wm hd ss gs _ (by simpa using hl) (fun i g' h2=>?_) (fun j hj=>?_) (by rw[Array.size_setIfInBounds];exact hs)⟩
  ·obtain⟨v,h3,h4⟩:=hg (i+1) g' (by simpa using h2);exact⟨v,fun s' h1=>h3 s' (by simpa using h1),h4⟩
  ·by_cases h:s=j
   ·subst h;have hlt:s<a.tmps.size:=(Array.getElem?_eq_some_iff.1 hu).1;rw[hu,Array.getElem?_setIfInBounds_self_of_lt (by omega)]
   ·rw[Array.getElem?_setIfInBounds_ne h];refine hr j ?_;have h1:¬ j=s:=fun e=>h e.symm
    simp only[List.contains_cons,hj,Bool.or_false];simpa using h1
 | [],_::_,_,hl,_,_,_=>by simp at hl
 | _::_,[],_,hl,_,_,_=>by simp at hl
theorem D9.laid{slots:List (Option Nat)}{bB:List (Value→World→Prop)}{inv:World→Prop}{t:Array Value}{d:List Deferred}{L:Nat→Bool}{a:Act}{w:World}(h:D9 slots bB inv t d L a w)(hl:slots.length=bB.length)
 (hL:∀ i,i<slots.length→L i=true):Laid d w a slots bB t:=
 wm h.defers slots bB t hl (fun i g h2=>h.done i (hL i (by rw[hl];exact(ahP.1 h2).1)) g h2) h.rest h.size
theorem xQ{l:List (Option Nat)}(h:(l.filterMap fun x=>x).Nodup):∀ {i j s:Nat},l[i]?=some (some s)→l[j]?=some (some s)→i=j:=by
 induction l with
 | nil=>intro i j s hi;simp at hi
 | cons x l ih=>
  have key:∀ {j s:Nat},x=some s→l[j]?=some (some s)→False:=by
   intro j s hx hj;subst hx;simp only[List.filterMap_cons,List.nodup_cons] at h;exact h.1 (List.mem_filterMap.2 ⟨some s,ahU hj,rfl⟩)
  have h':(l.filterMap fun x=>x).Nodup:=by
   cases x with
   | none=>simpa[List.filterMap_cons] using h
   | some s=>simp only[List.filterMap_cons,List.nodup_cons] at h;exact h.2
  intro i j s hi hj
  cases i with
  | zero=>
   cases j with
   | zero=>rfl
   | succ j=>exact(key (by simpa using hi) (by simpa using hj)).elim
  | succ i=>
   cases j with
   | zero=>exact(key (by simpa using hj) (by simpa using hi)).elim
   | succ j=>exact congrArg (·+1) (ih h' (by simpa using hi) (by simpa using hj))
theorem D9.put{slots:List (Option Nat)}{bB:List (Value→World→Prop)}{inv:World→Prop}{t:Array Value}{d:List Deferred}{L:Nat→Bool}{a:Act}{w w':World}{i:Nat}{s:Option Nat}{v:Value}(h:D9 slots bB inv t d L a w)
 (hnd:(slots.filterMap fun x=>x).Nodup) (hbd:slots.all (fun s=>decide (s.getD 0<t.size))=true) (hst:∀ (j:Nat) (g:Value→World→Prop),bB[j]?=some g→j≠i→∀ v,g v w→g v w') {ME:World→Prop} (hinv:ME w') (hs:slots[i]?=some s) (hg:∀ g:Value→World→Prop,bB[i]?=some g→g v w')
 {L':Nat→Bool} (hL:∀ j,L' j=true→j=i∨L j=true):D9 slots bB ME t d L' (a.put s v) w':=by
 cases s with
 | none=>
  refine⟨h.defers,hinv,?_,h.rest,h.size⟩;intro j hj g' hg';by_cases hji:j=i
  ·subst hji;exact⟨v,fun s' hs'=>(by rw[hs] at hs';cases hs'),hg g' hg'⟩
  ·obtain⟨u,hu,yp⟩:=h.done j ((hL j hj).resolve_left hji) g' hg';exact⟨u,hu,hst j g' hg' hji u yp⟩
 | some s=>
  refine⟨h.defers,hinv,?_,?_,?_⟩
  ·intro j hj g' hg';by_cases hji:j=i
   ·subst hji;refine⟨v,fun s' hs'=>?_,hg g' hg'⟩;obtain rfl:s=s':=ahT (ahT (hs.symm.trans hs'))
    have hlt:s<a.tmps.size:=by
     rw[h.size];have:=ahV.1 hbd (some s) (ahU hs);simpa using this
    show(a.tmps.setIfInBounds s v)[s]?=some v;rw[Array.getElem?_setIfInBounds_self_of_lt hlt]
   ·obtain⟨u,hu,yp⟩:=h.done j ((hL j hj).resolve_left hji) g' hg';refine⟨u,fun s' hs'=>?_,hst j g' hg' hji u yp⟩;have hne:s≠s':=fun e=>hji (xQ hnd (e▸hs') hs)
    show(a.tmps.setIfInBounds s v)[s']?=some u;rw[Array.getElem?_setIfInBounds_ne hne];exact hu s' hs'
  ·intro j hj
   have hne:s≠j:=fun e=>by
    have hm:some j∈slots:=e▸ahU hs;have:slots.contains (some j)=true:=by simpa using hm
    rw[this] at hj;cases hj
   show(a.tmps.setIfInBounds s v)[j]?=t[j]?;rw[Array.getElem?_setIfInBounds_ne hne];exact h.rest j hj
  ·show(a.tmps.setIfInBounds s v).size=t.size;rw[Array.size_setIfInBounds];exact h.size
def consumed(l:List Oper):Bool:=(List.range (l.length-1)).all fun i=>l.any fun o=>o.after.toList.any fun e=>e.on == i&&Region.binds .any e
theorem Gl{l:List Oper}(fT:ordered 0 l=true)(hc:consumed l=true)(L:Nat→Bool){n:Nat}(hn:l.length=n+1)
 (hcl:∀ j o,l[j]?=some o→j<n→L j=true→∀ e∈o.after.toList,Region.binds .any e=true→L e.on=true) (hlast:∀ o,l[n]?=some o→∀ e∈o.after.toList,Region.binds .any e=true→L e.on=true) :
 ∀ i,i<n→L i=true:=by
 have key:∀ m i,i<n→n-i=m→L i=true:=by
  intro m
  induction m using Nat.strongRecOn with
  | ind m ih=>
   intro i hi hm;have h1:=ahV.1 hc i (by simp;omega);obtain⟨o,ho,h2⟩:=List.any_eq_true.1 h1;obtain⟨e,he,h3⟩:=List.any_eq_true.1 h2;simp only[ahJ,beq_iff_eq] at h3;obtain⟨rfl,hb⟩:=h3;obtain⟨j,hj⟩:=List.getElem?_of_mem ho;have hlt:=jf 0 l fT j o hj e he hb;have hjn:j<n+1:=by rw[← hn];exact(ahP.1 hj).1
   by_cases hje:j=n
   ·subst hje;exact hlast o hj e he hb
   ·exact hcl j o hj (by omega) (ih (n-j) (by omega) j (by omega) rfl) e he hb
 exact fun i hi=>key _ i hi rfl
abbrev Gd:=(Nat→Bool)→Value→World→Prop
def Iu(L:Nat→Bool)(d:List Deferred)(w:World)(a:Act):List (Option Nat)→List Gd→Array Value→Prop
 | some s::ss,g::gs,t=>∃ u,g L u w∧Iu L d w a ss gs (t.setIfInBounds s u)
 | none::ss,g::gs,t=>∃ u,g L u w∧Iu L d w a ss gs t
 | _,_,t=>a=⟨t,d⟩
structure D8 (slots:List (Option Nat)) (bB:List Gd) (inv:World→Prop) (t:Array Value) (d:List Deferred) (L:Nat→Bool) (a:Act) (w:World):Prop where
 defers:a.defers=d
 inv:inv w
 done:∀ i,L i=true→i<slots.length→∀ g,bB[i]?=some g→∃ v,(∀ s,slots[i]?=some (some s)→a.tmps[s]?=some v)∧g L v w
 rest:∀ j,slots.contains (some j)=false→a.tmps[j]?=t[j]?
 size:a.tmps.size=t.size
theorem xY{L:Nat→Bool}{d:List Deferred}{w:World}{a:Act}(hd:a.defers=d):∀ (slots:List (Option Nat)) (bB:List Gd) (t:Array Value),slots.length=bB.length →
 (∀ (i:Nat) (g:Gd),bB[i]?=some g→∃ v,(∀ s,slots[i]?=some (some s)→a.tmps[s]?=some v)∧g L v w)→(∀ j,slots.contains (some j)=false→a.tmps[j]?=t[j]?)→a.tmps.size=t.size→Iu L d w a slots bB t
 | [],[],t,_,_,hr,_=>by
  show a=⟨t,d⟩;obtain⟨at',ad⟩:=a;have e1:at'=t:=Array.ext_getElem? fun j=>hr j rfl
  have e2:ad=d:=hd;rw[e1,e2]
 | none::ss,g::gs,t,hl,hg,hr,hs=>by
  obtain⟨u,_,yp⟩:=hg 0 g rfl;refine⟨u,yp,xY hd ss gs _ (by simpa using hl) (fun i g' h2=>?_) (fun j hj=>hr j ?_) hs⟩
  ·obtain⟨v,h3,h4⟩:=hg (i+1) g' (by simpa using h2);exact⟨v,fun s' h1=>h3 s' (by simpa using h1),h4⟩
  ·simp only[List.contains_cons,hj,Bool.or_false];rfl
 | some s::ss,g::gs,t,hl,hg,hr,hs=>by
  obtain⟨u,hu,yp⟩:=hg 0 g rfl;have hu:=hu s rfl;refine⟨u,yp,xY hd ss gs _ (by simpa using hl) (fun i g' h2=>?_) (fun j hj=>?_) (by rw[Array.size_setIfInBounds];exact hs)⟩
  ·obtain⟨v,h3,h4⟩:=hg (i+1) g' (by simpa using h2);exact⟨v,fun s' h1=>h3 s' (by simpa using h1),h4⟩
  ·by_cases h:s=j
   ·subst h;have hlt:s<a.tmps.size:=(Array.getElem?_eq_some_iff.1 hu).1;rw[hu,Array.getElem?_setIfInBounds_self_of_lt (by omega)]
   ·rw[Array.getElem?_setIfInBounds_ne h];refine hr j ?_;have h1:¬ j=s:=fun e=>h e.symm
    simp only[List.contains_cons,hj,Bool.or_false];simpa using h1
 | [],_::_,_,hl,_,_,_=>by simp at hl
 | _::_,[],_,hl,_,_,_=>by simp at hl
theorem D8.laid{slots:List (Option Nat)}{bB:List Gd}{inv:World→Prop}{t:Array Value}{d:List Deferred}{L:Nat→Bool}{a:Act}{w:World}(h:D8 slots bB inv t d L a w)(hl:slots.length=bB.length)
 (hL:∀ i,i<slots.length→L i=true):Iu L d w a slots bB t:=
 xY h.defers slots bB t hl (fun i g h2=>h.done i (hL i (by rw[hl];exact(ahP.1 h2).1)) (by rw[hl];exact(ahP.1 h2).1) g h2) h.rest h.size
theorem D8.put{slots:List (Option Nat)}{bB:List Gd}{inv:World→Prop}{t:Array Value}{d:List Deferred}{L:Nat→Bool}{a:Act}{w w':World}{i:Nat}{s:Option Nat}{v:Value}{L':Nat→Bool}(h:D8 slots bB inv t d L a w)
 (hnd:(slots.filterMap fun x=>x).Nodup) (hbd:slots.all (fun s=>decide (s.getD 0<t.size))=true) (hst:∀ (j:Nat) (g:Gd),bB[j]?=some g→j≠i→L j=true→∀ v,(∀ s,slots[j]?=some (some s)→a.tmps[s]?=some v)→g L v w→g L' v w') {ME:World→Prop} (hinv:ME w') (hs:slots[i]?=some s) (hg:∀ g:Gd,bB[i]?=some g→g L' v w')
 (hL:∀ j,L' j=true→j=i∨L j=true):D8 slots bB ME t d L' (a.put s v) w':=by
 cases s with
 | none=>
  refine⟨h.defers,hinv,?_,h.rest,h.size⟩;intro j hj hjl g' hg';by_cases hji:j=i
  ·subst hji;exact⟨v,fun s' hs'=>(by rw[hs] at hs';cases hs'),hg g' hg'⟩
  ·obtain⟨u,hu,yp⟩:=h.done j ((hL j hj).resolve_left hji) hjl g' hg';exact⟨u,hu,hst j g' hg' hji ((hL j hj).resolve_left hji) u hu yp⟩
 | some s=>
  refine⟨h.defers,hinv,?_,?_,?_⟩
  ·intro j hj hjl g' hg';by_cases hji:j=i
   ·subst hji;refine⟨v,fun s' hs'=>?_,hg g' hg'⟩;obtain rfl:s=s':=ahT (ahT (hs.symm.trans hs'))
    have hlt:s<a.tmps.size:=by
     rw[h.size];have:=ahV.1 hbd (some s) (ahU hs);simpa using this
    show(a.tmps.setIfInBounds s v)[s]?=some v;rw[Array.getElem?_setIfInBounds_self_of_lt hlt]
   ·obtain⟨u,hu,yp⟩:=h.done j ((hL j hj).resolve_left hji) hjl g' hg';refine⟨u,fun s' hs'=>?_,hst j g' hg' hji ((hL j hj).resolve_left hji) u hu yp⟩;have hne:s≠s':=fun e=>hji (xQ hnd (e▸hs') hs)
    show(a.tmps.setIfInBounds s v)[s']?=some u;rw[Array.getElem?_setIfInBounds_ne hne];exact hu s' hs'
  ·intro j hj
   have hne:s≠j:=fun e=>by
    have hm:some j∈slots:=e▸ahU hs;have:slots.contains (some j)=true:=by simpa using hm
    rw[this] at hj;cases hj
   show(a.tmps.setIfInBounds s v)[j]?=t[j]?;rw[Array.getElem?_setIfInBounds_ne hne];exact h.rest j hj
  ·show(a.tmps.setIfInBounds s v).size=t.size;rw[Array.size_setIfInBounds];exact h.size
end Go.Proofs.YtkkmjdceiocnbaaGreatDoor
namespace Go.Proofs.YtkkmjdceiocnbaaGreatDoor
open Go Go.RowKit
def cW(n:Nat):Prop:=n<18446744073709551616
structure aq where
 a:Nat
 b:Nat
 c:Nat
 d:Nat
deriving DecidableEq
def aq.cells(s:aq):List Value:=[.int .u64 s.a,.int .u64 s.b,.int .u64 s.c,.int .u64 s.d]
structure aq.Ok (s:aq):Prop where
 a:cW s.a
 b:cW s.b
 c:cW s.c
 d:cW s.d
def aq.word(s:aq)(i:Nat):Nat:=if i=0 then s.a else if i=1 then s.b else if i=2 then s.c else s.d
def aq.put(s:aq)(i x:Nat):aq:=if i=0 then ⟨x,s.b,s.c,s.d⟩ else if i=1 then ⟨s.a,x,s.c,s.d⟩ else if i=2 then ⟨s.a,s.b,x,s.d⟩ else ⟨s.a,s.b,s.c,x⟩
def aq.has(s:aq)(n:Nat):Bool:=(s.word (n/64)).testBit (n%64)
def aq.mem(s:aq)(n:Int):Bool:=decide (0≤n∧n<256)&&s.has n.toNat
def aq.add(s:aq)(n:Nat):aq:=s.put (n/64) (s.word (n/64)|||2^(n%64))
def aq.with(s:aq)(n:Int):aq:=if 0≤n∧n<256 then s.add n.toNat else s
def aq.zero:aq:=⟨0,0,0,0⟩
theorem aq.vJ{s:aq}(h:s.Ok)(i:Nat):cW (s.word i):=by
 unfold aq.word;split
 ·exact h.a
 ·split
  ·exact h.b
  ·split
   ·exact h.c
   ·exact h.d
theorem aq.Sc{s:aq}(h:s.Ok)(i:Nat){x:Nat}(hx:cW x):(s.put i x).Ok:=by
 unfold aq.put;split
 ·exact⟨hx,h.b,h.c,h.d⟩
 ·split
  ·exact⟨h.a,hx,h.c,h.d⟩
  ·split
   ·exact⟨h.a,h.b,hx,h.d⟩
   ·exact⟨h.a,h.b,h.c,hx⟩
theorem AV{j:Nat}(h:j<64):cW (2^j):=Nat.pow_lt_pow_right (by decide) h
theorem VZ{x y:Nat}(hx:cW x)(hy:cW y):cW (x|||y):=Nat.or_lt_two_pow (n:=64) hx hy
theorem aq.Ux{s:aq}(h:s.Ok)(n:Nat):(s.add n).Ok:=aq.Sc h _ (VZ (aq.vJ h _) (AV (Nat.mod_lt _ (by decide))))
theorem aq.OL{s:aq}(h:s.Ok)(n:Int):(s.with n).Ok:=by
 unfold aq.with
 split
 ·exact aq.Ux h _
 ·exact h
theorem sj{x y:Nat}(hx:cW x)(hy:cW y)(h:∀ j,j<64→x.testBit j=y.testBit j):x=y:=by
 refine Nat.eq_of_testBit_eq fun j=>?_
 by_cases hj:j<64
 ·exact h j hj
 ·have e:∀ {z:Nat},cW z→z.testBit j=false:=fun {z} hz=>Nat.testBit_lt_two_pow (Nat.lt_of_lt_of_le hz (Nat.pow_le_pow_right (n:=2) (by decide) (by omega:64≤j)))
  rw[e hx,e hy]
theorem aq.ext{s t:aq}(hs:s.Ok)(ht:t.Ok)(h:∀ n,n<256→s.has n=t.has n):s=t:=by
 have key:∀ i,i<4→s.word i=t.word i:=fun i hi=>sj (aq.vJ hs i) (aq.vJ ht i) fun j hj=>by
  have:=h (i*64+j) (by omega);unfold aq.has at this
  rwa [show(i*64+j)/64=i by omega,show(i*64+j)%64=j by omega] at this
 have h0:=key 0 (by decide);have h1:=key 1 (by decide);have h2:=key 2 (by decide);have h3:=key 3 (by decide);obtain⟨a,b,c,d⟩:=s;obtain⟨a',b',c',d'⟩:=t;simp[aq.word] at h0 h1 h2 h3;subst h0 h1 h2 h3;rfl
theorem O0{x j:Nat}(hx:cW x):(bits BinOp.and IntKind.u64 ((x:Int)/2^j) 1 == 1)=x.testBit j:=by
 have e:(x:Int)/2^j=((x/2^j:Nat):Int):=by simp
 have hlt:x/2^j<18446744073709551616:=Nat.lt_of_le_of_lt (Nat.div_le_self _ _) hx;rw[e];have h:=bits_and_u64_nat (x/2^j) 1 hlt (by decide);rw[show((1:Nat):Int)=1 from rfl] at h;rw[h];rw[Nat.testBit_eq_decide_div_mod_eq,Nat.and_one_is_mod];rcases Nat.mod_two_eq_zero_or_one (x/2^j) with h|h<;>rw[h]<;>rfl
theorem wJ{j:Nat}(h:j<64):IntKind.u64.wrap (2^j)=((2^j:Nat):Int):=by
 have h1:=AV h;unfold cW at h1;rw[show(2:Int)^j=((2^j:Nat):Int) by simp,IntKind.wrap_u64];generalize 2^j=y at h1 ⊢;omega
theorem QC(w:World)(m:Nat)(hm:m<256):Calls Tryz.prog 302 #[.int .i64 m] w fun e w'=>e=.returned (.int .u64 ((2^(m%64):Nat):Int))∧w=w':=by
 go_enter Tryz.func302,Tryz.ntmps302
 go_wp2
 go_ret
 exact⟨mM (wJ (Nat.mod_lt _ (by decide))),rfl⟩
theorem JH(w:World)(n:Int)(hn:¬ 0≤n):Calls Tryz.prog 330 #[.int .i64 n] w fun e w'=>e=.returned (.bool false)∧w=w':=by
 go_enter Tryz.func330,Tryz.ntmps330
 go_wp2
 go_ret
 exact⟨rfl,rfl⟩
theorem JI(w:World)(n:Int)(h0:0≤n)(hn:¬ n<256):Calls Tryz.prog 330 #[.int .i64 n] w fun e w'=>e=.returned (.bool false)∧w=w':=by
 go_enter Tryz.func330,Tryz.ntmps330
 go_wp2
 go_ret
 exact⟨rfl,rfl⟩
theorem FD(w:World)(n:Int)(h0:0≤n)(hn:n<256):Calls Tryz.prog 330 #[.int .i64 n] w fun e w'=>e=.returned (.bool true)∧w=w':=by
 go_enter Tryz.func330,Tryz.ntmps330
 go_wp2
 go_ret
 exact⟨rfl,rfl⟩
theorem tV(w:World)(o:Obj)(cs:Array Value)(t:TypeId):Whole ((w.alloc o).alloc (.cells cs t)) (w.heap.size+1) t cs:=by
 have:=Whole.new (w.alloc o) t cs;simpa using this
theorem Ls:(Tryz.prog.info? 77).map (·.size)=some 4:=by kernel_rfl
def Qn(s:aq)(k:Nat):List Nat:=(List.range k).filter s.has
def elems(s:aq):List Nat:=Qn s 256
structure dz where
 kind:Int
 src:aq
 tgt:aq
 self:Bool
 cls:Int
 perms:Int
 cond:Int
structure dz.Ok (r:dz):Prop where
 src:r.src.Ok
 tgt:r.tgt.Ok
def dz.cells(r:dz):List Value:=[.int .i64 r.kind,.int .u64 r.src.a,.int .u64 r.src.b,.int .u64 r.src.c,.int .u64 r.src.d,.int .u64 r.tgt.a,.int .u64 r.tgt.b,.int .u64 r.tgt.c,.int .u64 r.tgt.d,.bool r.self,.int .i64 r.cls,.int .u32 r.perms,.int .i64 r.cond]
end Go.Proofs.YtkkmjdceiocnbaaGreatDoor
namespace Go.Proofs.YtkkmjdceiocnbaaGreatDoor
open Go Go.RowKit Go.WideMaps
structure jT where
 src:Int
 tgt:Int
 cls:Int
 cond:Int
 allow:Int
 rJ:Int
 dont:Int
deriving DecidableEq
def jT.cells(x:jT):List Value:=[.int .i64 x.src,.int .i64 x.tgt,.int .i64 x.cls,.int .i64 x.cond,.int .u32 x.allow,.int .u32 x.rJ,.int .u32 x.dont]
theorem S4:vg (Tryz.prog.info? 59) 1 8=true:=by kernel_rfl
theorem Xr:Tryz.prog.cellsOf 59=1:=by kernel_rfl
theorem eqw(d:Nat)(a b:Int)(w:World):(Op.equalIn (d+1) 59 (.int .u64 a) (.int .u64 b)).run Tryz.prog w=.ok (decide (a=b)) w:=by
 by_cases h:a=b<;>simp[Op.equalIn,run_underlying Tryz.underlying59,h]
theorem W4(a b:Int)(w:World):(Op.equalIn 9999 59 (.int .u64 a) (.int .u64 b)).run Tryz.prog w=.ok (decide (a=b)) w:=eqw 9998 a b w
theorem TS(x0 x1 x2 x3 y0 y1 y2 y3:Int)(w:World):(Op.equalIn 10000 77 (.agg #[.int .u64 x0,.int .u64 x1,.int .u64 x2,.int .u64 x3]) (.agg #[.int .u64 y0,.int .u64 y1,.int .u64 y2,.int .u64 y3])).run Tryz.prog w=.ok (decide (x0=y0∧x1=y1∧x2=y2∧x3=y3)) w:=by
 obtain⟨i0,z,hi,_⟩:=rT S4;rw[show(10000:Nat)=9999+1 from rfl,run_equalIn_array w 9999 _ _ Tryz.underlying77 hi,Xr];have p0:∀ x0 x1 x2 x3:Int,(part 59 #[.int .u64 x0,.int .u64 x1,.int .u64 x2,.int .u64 x3] (0*1)).run Tryz.prog w=.ok (.int .u64 x0) w:=fun x0 x1 x2 x3=>by kernel_rfl
 have p1:∀ x0 x1 x2 x3:Int,(part 59 #[.int .u64 x0,.int .u64 x1,.int .u64 x2,.int .u64 x3] (1*1)).run Tryz.prog w=.ok (.int .u64 x1) w:=fun x0 x1 x2 x3=>by kernel_rfl
 have p2:∀ x0 x1 x2 x3:Int,(part 59 #[.int .u64 x0,.int .u64 x1,.int .u64 x2,.int .u64 x3] (2*1)).run Tryz.prog w=.ok (.int .u64 x2) w:=fun x0 x1 x2 x3=>by kernel_rfl
 have p3:∀ x0 x1 x2 x3:Int,(part 59 #[.int .u64 x0,.int .u64 x1,.int .u64 x2,.int .u64 x3] (3*1)).run Tryz.prog w=.ok (.int .u64 x3) w:=fun x0 x1 x2 x3=>by kernel_rfl
 rw[show List.range 4=[0,1,2,3] from rfl];simp only[Op.eqItems,ahO,p0,Result.andThen_ok,W4];by_cases h0:x0=y0<;>by_cases h1:x1=y1<;>by_cases h2:x2=y2<;>by_cases h3:x3=y3<;>simp[h0,h1,h2,h3,ahO,p1,p2,p3,W4]
theorem Ag{xs ys:Array Value}{W:World}{d:Nat}:∀ (fs:List Field) (rs:List Bool),fs.length=rs.length→(fs.all fun f=>f.name != "_")=true→(∀ (i:Nat) (f:Field) (r:Bool),fs[i]?=some f→rs[i]?=some r→∃ x y,(part f.type xs f.offset).run Tryz.prog W=.ok x W∧(part f.type ys f.offset).run Tryz.prog W=.ok y W∧(Op.equalIn d f.type x y).run Tryz.prog W=.ok r W)→(Op.eqFields d xs ys fs).run Tryz.prog W=.ok (rs.all id) W
 | [],[],_,_,_=>rfl
 | f::fs,r::rs,hl,hn,h=>by
  obtain⟨x,y,h1,h2,h3⟩:=h 0 f r rfl rfl;have ih:=Ag fs rs (by simpa using hl) (by simp at hn;simpa using hn.2) fun i g s hg hs=>h (i+1) g s (by simpa using hg) (by simpa using hs)
  unfold Op.eqFields;have hne:f.name≠ "_":=by simp at hn;exact hn.1
  rw[if_pos hne];simp only[ahO,h1,h2,h3,Result.andThen_ok]
  cases r with
  | false=>simp
  | true=>simpa using ih
 | [],_::_,h,_,_=>by simp at h
 | _::_,[],h,_,_=>by simp at h
end Go.Proofs.YtkkmjdceiocnbaaGreatDoor
namespace Go.Proofs.YtkkmjdceiocnbaaGreatDoor
open Go Go.RowKit
def DP(a b:Int):Int:=if a<b then -1 else if b<a then 1 else 0
theorem J7{a b:Int}:DP a b=0↔a=b:=by
 unfold DP;split
 ·constructor<;>intro h<;>omega
 ·split
  ·constructor<;>intro h<;>omega
  ·constructor<;>intro h<;>omega
theorem tO{a b:Int}:DP a b<0↔a<b:=by
 unfold DP;split
 ·constructor<;>intro h<;>omega
 ·split
  ·constructor<;>intro h<;>omega
  ·constructor<;>intro h<;>omega
def Y2:List Int→Int
 | []=>0
 | x::l=>if x=0 then Y2 l else x
def Aq(x:Int):Value:=.int .i64 x
def kK(w w':World):Prop:=∃ q os,w'=Sort.grow (w.drewN q) os
theorem kK.refl(w:World):kK w w:=⟨0,#[],by rw[Sort.grow_empty];rfl⟩
theorem kK.drewN{w w':World}(h:kK w w')(n:Nat):kK w (w'.drewN n):=by
 obtain⟨q,os,rfl⟩:=h;exact⟨q+n,os,by simp[Sort.grow,World.drewN,Nat.add_assoc]⟩
theorem kK.drew{w w':World}(h:kK w w'):kK w w'.drew:=h.drewN 1
theorem kK.alloc{w w':World}(h:kK w w')(o:Obj):kK w (w'.alloc o):=by
 obtain⟨q,os,rfl⟩:=h;exact⟨q,os++#[o],by rw[Sort.alloc_eq_grow,Sort.grow_grow]⟩
theorem kK.trans{a b c:World}(h:kK a b)(k:kK b c):kK a c:=by
 obtain⟨q,os,rfl⟩:=k;obtain⟨q',os',h'⟩:=h.drewN q;exact⟨q',os'++os,by rw[h',Sort.grow_grow]⟩
theorem kK.below{w w':World}(h:kK w w'):Below w.heap.size w w':=by
 obtain⟨q,os,rfl⟩:=h;refine⟨rfl,rfl,rfl,by simp[Sort.grow,World.drewN],fun k hk=>?_⟩;show(w.heap++os)[k]?=w.heap[k]?;exact Array.getElem?_append_left hk
def wF(x y:jT):Int:=Y2 [DP x.src y.src,DP x.tgt y.tgt,DP x.cls y.cls,DP x.cond y.cond]
def aq.least(s:aq):Int:=match (elems s).head? with
 | some n=>(n:Int)
 | none=>-1
theorem GQ:aq.zero.Ok:=by constructor<;>(show(0:Nat)<18446744073709551616;decide)
structure oq where
 allow:Int
 rJ:Int
 dont:Int
deriving DecidableEq
def oq.or(u v:oq):oq:=⟨bits .or .u32 u.allow v.allow,bits .or .u32 u.rJ v.rJ,bits .or .u32 u.dont v.dont⟩
end Go.Proofs.YtkkmjdceiocnbaaGreatDoor
namespace Go.Proofs.YtkkmjdceiocnbaaGreatDoor
open Go Go.Sort
instance:Inhabited jT:=⟨⟨0,0,0,0,0,0,0⟩⟩
theorem uf(x y:jT):ltOf wF x y=decide (x.src<y.src∨x.src=y.src∧(x.tgt<y.tgt∨x.tgt=y.tgt∧(x.cls<y.cls∨x.cls=y.cls∧x.cond<y.cond))):=by
 unfold ltOf wF;simp only[Y2,J7];by_cases h0:x.src=y.src
 ·by_cases h1:x.tgt=y.tgt
  ·by_cases h2:x.cls=y.cls
   ·by_cases h3:x.cond=y.cond
    ·simp[h0,h1,h2,h3]
    ·simp[h0,h1,h2,h3,tO]
   ·simp[h0,h1,h2,tO]
  ·simp[h0,h1,tO]
 ·simp[h0,tO]
theorem wX:SWO (ltOf wF) where
 irrefl x:=by rw[uf];simp
 trans x y z h1 h2:=by rw[uf] at *;simp at *;omega
 ntrans x y z h1 h2:=by rw[uf] at *;simp at *;omega
theorem xu{α:Type}(lt:α→α→Prop)(hi:∀ x,¬ lt x x)(ht:∀ x y z,lt x y→lt y z→lt x z):∀ {a b:List α},a.Pairwise lt→b.Pairwise lt→(∀ x,x∈a↔x∈b)→a=b
 | [],[],_,_,_=>rfl
 | [],y::b,_,_,h=>by have:=(h y).2 (by simp);cases this
 | x::a,[],_,_,h=>by have:=(h x).1 (by simp);cases this
 | x::a,y::b,ha,hb,h=>by
  have ha':=List.pairwise_cons.1 ha;have hb':=List.pairwise_cons.1 hb
  have hxy:x=y:=by
   rcases ahQ.1 ((h x).1 (by simp)) with e|e
   ·exact e
   ·rcases ahQ.1 ((h y).2 (by simp)) with e'|e'
    ·exact e'.symm
    ·exact absurd (ht _ _ _ (ha'.1 _ e') (hb'.1 _ e)) (hi _)
  subst hxy;congr 1;refine xu lt hi ht ha'.2 hb'.2 fun z=>⟨fun hz=>?_,fun hz=>?_⟩
  ·rcases ahQ.1 ((h z).1 (ahR _ hz)) with e|e
   ·subst e;exact absurd (ha'.1 _ hz) (hi _)
   ·exact e
  ·rcases ahQ.1 ((h z).2 (ahR _ hz)) with e|e
   ·subst e;exact absurd (hb'.1 _ hz) (hi _)
   ·exact e
structure Oh where
 src:Int
 tgt:Int
 cls:Int
 cond:Int
deriving DecidableEq
def jT.key(e:jT):Oh:=⟨e.src,e.tgt,e.cls,e.cond⟩
def jT.Yy(e:jT):oq:=⟨e.allow,e.rJ,e.dont⟩
def oq.zero:oq:=⟨0,0,0⟩
instance:DecidableEq oq:=fun a b=>decidable_of_iff (a.allow=b.allow∧a.rJ=b.rJ∧a.dont=b.dont) (by cases a;cases b;simp)
def eF(a:Int):Prop:=-9223372036854775808≤a∧a<9223372036854775808
def Ed(a:Int):Prop:=0≤a∧a<4294967296
structure Oh.Ok (k:Oh):Prop where
 src:eF k.src
 tgt:eF k.tgt
 cls:eF k.cls
 cond:eF k.cond
structure oq.Ok (v:oq):Prop where
 allow:Ed v.allow
 rJ:Ed v.rJ
 dont:Ed v.dont
def Om(x y:jT):Prop:=ltOf wF x y=true
theorem Om.irrefl(x:jT):¬ Om x x:=by unfold Om;rw[wX.irrefl];simp
theorem Om.trans(x y z:jT):Om x y→Om y z→Om x z:=wX.trans x y z
structure Canon (f:Oh→oq) (l:List jT):Prop where
 ord:l.Pairwise Om
 mem:∀ e,e∈l↔e.Yy=f e.key∧f e.key≠oq.zero
theorem Canon.uniq{f:Oh→oq}{a b:List jT}(ha:Canon f a)(hb:Canon f b):a=b:=
 xu Om Om.irrefl Om.trans ha.ord hb.ord fun x=>(ha.mem x).trans (hb.mem x).symm
theorem wrap32(n:Int):IntKind.u32.wrap n=n%4294967296:=by simp[IntKind.wrap,IntKind.signed,IntKind.bits]
theorem C0(a b:Int):bits .or .u32 a b=((BitVec.ofInt 32 a|||BitVec.ofInt 32 b).toNat:Int):=by
 show IntKind.u32.wrap ((BitVec.ofInt 32 a|||BitVec.ofInt 32 b).toNat:Int)=_;have h:=(BitVec.ofInt 32 a|||BitVec.ofInt 32 b).isLt;rw[wrap32];omega
theorem Rv(a b:Int):BitVec.ofInt 32 (bits .or .u32 a b)=BitVec.ofInt 32 a|||BitVec.ofInt 32 b:=by rw[C0,BitVec.ofInt_natCast,BitVec.ofNat_toNat];simp
theorem ud(a b:Int):bits .or .u32 a b=bits .or .u32 b a:=by rw[C0,C0,BitVec.or_comm]
theorem Fb(a b c:Int):bits .or .u32 (bits .or .u32 a b) c=bits .or .u32 a (bits .or .u32 b c):=by rw[C0,C0 a (bits .or .u32 b c),Rv,Rv,BitVec.or_assoc]
theorem oq.or_comm(u v:oq):u.or v=v.or u:=by simp only[oq.or,ud u.allow,ud u.rJ,ud u.dont]
theorem oq.or_assoc(u v x:oq):(u.or v).or x=u.or (v.or x):=by simp only[oq.or,Fb]
theorem oq.GQ:oq.zero.Ok:=by constructor<;>exact⟨by decide,by decide⟩
end Go.Proofs.YtkkmjdceiocnbaaGreatDoor
namespace Go.Proofs.YtkkmjdceiocnbaaGreatDoor
open Go Go.ChangeAt Go.ChangeShapes Go.RowKit Go.WideShapes
def cB(s:ByteArray):Prop:=s.size≤140737488355328
def kO(n:Nat):Prop:=n≤140737488355328
structure yV (l:List ByteArray):Prop where
 len:kO l.length
 all:∀ s∈l,cB s
structure jX where
 ay:Int
 cats:Nat
deriving DecidableEq
structure jX.Ok (x:jX):Prop where
 ay:eF x.ay
 cats:cW x.cats
def jX.cells(x:jX):List Value:=[.int .i64 x.ay,.int .u64 x.cats]
structure kQ where
 low:jX
 high:jX
deriving DecidableEq
structure kQ.Ok (x:kQ):Prop where
 low:x.low.Ok
 high:x.high.Ok
def kQ.cells(x:kQ):List Value:=[.int .i64 x.low.ay,.int .u64 x.low.cats,.int .i64 x.high.ay,.int .u64 x.high.cats]
structure mG where
 user:Int
 role:Int
 typ:Int
 rng:kQ
deriving DecidableEq
structure mG.Ok (x:mG):Prop where
 user:eF x.user
 role:eF x.role
 typ:eF x.typ
 rng:x.rng.Ok
def mG.cells(x:mG):List Value:=[.int .i64 x.user,.int .i64 x.role,.int .i64 x.typ,.int .i64 x.rng.low.ay,.int .u64 x.rng.low.cats,.int .i64 x.rng.high.ay,.int .u64 x.rng.high.cats]
inductive aI where
 | node (op a rel b:Int) (names:List ByteArray) (set:aq) (kids:List aI)
def aI.op:aI→Int|.node o _ _ _ _ _ _=>o
def aI.a:aI→Int|.node _ a _ _ _ _ _=>a
def aI.rel:aI→Int|.node _ _ r _ _ _ _=>r
def aI.b:aI→Int|.node _ _ _ b _ _ _=>b
def aI.names:aI→List ByteArray|.node _ _ _ _ n _ _=>n
def aI.set:aI→aq|.node _ _ _ _ _ s _=>s
def aI.kids:aI→List aI|.node _ _ _ _ _ _ k=>k
inductive aI.Ok:aI→Prop
 | node {op a rel b:Int} {names:List ByteArray} {set:aq} {kids:List aI}:eF op→eF a→eF rel→eF b→yV names→set.Ok→kO kids.length→(∀ k∈kids,aI.Ok k)→aI.Ok (.node op a rel b names set kids)
structure dz.Au (x:dz):Prop where
 kind:eF x.kind
 src:x.src.Ok
 tgt:x.tgt.Ok
 cls:eF x.cls
 perms:Ed x.perms
 cond:eF x.cond
structure jG where
 name:ByteArray
 types:aq
deriving DecidableEq
structure jG.Ok (x:jG):Prop where
 name:cB x.name
 types:x.types.Ok
def jG.cells(x:jG):List Value:=[.string x.name,.int .u64 x.types.a,.int .u64 x.types.b,.int .u64 x.types.c,.int .u64 x.types.d]
structure eM where
 name:ByteArray
 types:aq
 next:aq
deriving DecidableEq
structure eM.Ok (x:eM):Prop where
 name:cB x.name
 types:x.types.Ok
 next:x.next.Ok
def eM.cells(x:eM):List Value:=[.string x.name,.int .u64 x.types.a,.int .u64 x.types.b,.int .u64 x.types.c,.int .u64 x.types.d,.int .u64 x.next.a,.int .u64 x.next.b,.int .u64 x.next.c,.int .u64 x.next.d]
structure jr where
 name:ByteArray
 roles:aq
 dflt:jX
 rng:kQ
deriving DecidableEq
structure jr.Ok (x:jr):Prop where
 name:cB x.name
 roles:x.roles.Ok
 dflt:x.dflt.Ok
 rng:x.rng.Ok
def jr.cells(x:jr):List Value:=[.string x.name,.int .u64 x.roles.a,.int .u64 x.roles.b,.int .u64 x.roles.c,.int .u64 x.roles.d,.int .i64 x.dflt.ay,.int .u64 x.dflt.cats,.int .i64 x.rng.low.ay,.int .u64 x.rng.low.cats,.int .i64 x.rng.high.ay,.int .u64 x.rng.high.cats]
structure jV where
 name:ByteArray
 val:Bool
deriving DecidableEq
structure jV.Ok (x:jV):Prop where
 name:cB x.name
def jV.cells(x:jV):List Value:=[.string x.name,.bool x.val]
structure bG where
 kind:Int
 src:aq
 tgt:aq
 cls:Int
 name:ByteArray
 res:Int
 cond:Int
deriving DecidableEq
structure bG.Ok (x:bG):Prop where
 kind:eF x.kind
 src:x.src.Ok
 tgt:x.tgt.Ok
 cls:eF x.cls
 name:cB x.name
 res:eF x.res
 cond:eF x.cond
def bG.cells(x:bG):List Value:=[.int .i64 x.kind,.int .u64 x.src.a,.int .u64 x.src.b,.int .u64 x.src.c,.int .u64 x.src.d,.int .u64 x.tgt.a,.int .u64 x.tgt.b,.int .u64 x.tgt.c,.int .u64 x.tgt.d,.int .i64 x.cls,.string x.name,.int .i64 x.res,.int .i64 x.cond]
structure jD where
 roles:aq
 types:aq
 cls:Int
 res:Int
deriving DecidableEq
structure jD.Ok (x:jD):Prop where
 roles:x.roles.Ok
 types:x.types.Ok
 cls:eF x.cls
 res:eF x.res
def jD.cells(x:jD):List Value:=[.int .u64 x.roles.a,.int .u64 x.roles.b,.int .u64 x.roles.c,.int .u64 x.roles.d,.int .u64 x.types.a,.int .u64 x.types.b,.int .u64 x.types.c,.int .u64 x.types.d,.int .i64 x.cls,.int .i64 x.res]
structure jE where
 src:aq
 tgt:aq
 cls:Int
 rng:kQ
deriving DecidableEq
structure jE.Ok (x:jE):Prop where
 src:x.src.Ok
 tgt:x.tgt.Ok
 cls:eF x.cls
 rng:x.rng.Ok
def jE.cells(x:jE):List Value:=[.int .u64 x.src.a,.int .u64 x.src.b,.int .u64 x.src.c,.int .u64 x.src.d,.int .u64 x.tgt.a,.int .u64 x.tgt.b,.int .u64 x.tgt.c,.int .u64 x.tgt.d,.int .i64 x.cls,.int .i64 x.rng.low.ay,.int .u64 x.rng.low.cats,.int .i64 x.rng.high.ay,.int .u64 x.rng.high.cats]
structure iY where
 name:ByteArray
 ctx:mG
deriving DecidableEq
structure iY.Ok (x:iY):Prop where
 name:cB x.name
 ctx:x.ctx.Ok
def iY.cells(x:iY):List Value:=[.string x.name,.int .i64 x.ctx.user,.int .i64 x.ctx.role,.int .i64 x.ctx.typ,.int .i64 x.ctx.rng.low.ay,.int .u64 x.ctx.rng.low.cats,.int .i64 x.ctx.rng.high.ay,.int .u64 x.ctx.rng.high.cats]
structure jF where
 pat:ByteArray
 kind:Int
 ctx:mG
deriving DecidableEq
structure jF.Ok (x:jF):Prop where
 pat:cB x.pat
 kind:eF x.kind
 ctx:x.ctx.Ok
def jF.cells(x:jF):List Value:=[.string x.pat,.int .i64 x.kind,.int .i64 x.ctx.user,.int .i64 x.ctx.role,.int .i64 x.ctx.typ,.int .i64 x.ctx.rng.low.ay,.int .u64 x.ctx.rng.low.cats,.int .i64 x.ctx.rng.high.ay,.int .u64 x.ctx.rng.high.cats]
structure jt where
 name:ByteArray
 kind:Int
 src:aq
 tgt:aq
deriving DecidableEq
structure jt.Ok (x:jt):Prop where
 name:cB x.name
 kind:eF x.kind
 src:x.src.Ok
 tgt:x.tgt.Ok
def jt.cells(x:jt):List Value:=[.string x.name,.int .i64 x.kind,.int .u64 x.src.a,.int .u64 x.src.b,.int .u64 x.src.c,.int .u64 x.src.d,.int .u64 x.tgt.a,.int .u64 x.tgt.b,.int .u64 x.tgt.c,.int .u64 x.tgt.d]
structure jU where
 name:ByteArray
 perms:List ByteArray
deriving DecidableEq
structure jU.Ok (x:jU):Prop where
 name:cB x.name
 perms:yV x.perms
structure gE where
 name:ByteArray
 jy:List ByteArray
 perm:Bool
deriving DecidableEq
structure gE.Ok (x:gE):Prop where
 name:cB x.name
 jy:yV x.jy
structure lF where
 cls:Int
 perms:Int
 val:Bool
 expr:aI
structure lF.Ok (x:lF):Prop where
 cls:eF x.cls
 perms:Ed x.perms
 expr:x.expr.Ok
structure aA where
 classes:List jU
 types:List gE
 attrs:List jG
 roles:List eM
 users:List jr
 bools:List jV
 ay:List ByteArray
 cats:List ByteArray
 conds:List aI
 rules:List dz
 trans:List bG
 ak:List jD
 ranges:List jE
 cons:List lF
 aN:List iY
 files:List jF
 asserts:List jt
structure aA.Ok (p:aA):Prop where
 classes:∀ x∈p.classes,jU.Ok x
 NY:kO p.classes.length
 types:∀ x∈p.types,gE.Ok x
 oy:kO p.types.length
 attrs:∀ x∈p.attrs,jG.Ok x
 Ur:kO p.attrs.length
 roles:∀ x∈p.roles,eM.Ok x
 Ew:kO p.roles.length
 users:∀ x∈p.users,jr.Ok x
 Le:kO p.users.length
 bools:∀ x∈p.bools,jV.Ok x
 Uo:kO p.bools.length
 ay:∀ x∈p.ay,cB x
 VP:kO p.ay.length
 cats:∀ x∈p.cats,cB x
 Xq:kO p.cats.length
 conds:∀ x∈p.conds,aI.Ok x
 Ul:kO p.conds.length
 rules:∀ x∈p.rules,dz.Au x
 R4:kO p.rules.length
 trans:∀ x∈p.trans,bG.Ok x
 Ek:kO p.trans.length
 ak:∀ x∈p.ak,jD.Ok x
 O8:kO p.ak.length
 ranges:∀ x∈p.ranges,jE.Ok x
 He:kO p.ranges.length
 cons:∀ x∈p.cons,lF.Ok x
 Xo:kO p.cons.length
 aN:∀ x∈p.aN,iY.Ok x
 VL:kO p.aN.length
 files:∀ x∈p.files,jF.Ok x
 FU:kO p.files.length
 asserts:∀ x∈p.asserts,jt.Ok x
 yR:kO p.asserts.length
def aO(s:ByteArray):List Value:=[.string s]
theorem CB(s:ByteArray):(aO s).length=1:=rfl
def aJ(w:World)(v:Value)(l:List ByteArray):Prop:=SliceAt w v 1 l.length (l.flatMap aO)
theorem aJ.keep{w w':World}{v:Value}{l:List ByteArray}(h:aJ w v l)(hb:Below w.heap.size w w'):aJ w' v l:=SliceAt.keep h hb
def au{α:Type}(k:Nat)(R:List Value→α→Prop)(w:World)(v:Value)(l:List α):Prop:=
 ∃ es:List (List Value),es.length=l.length∧(∀ x∈es,x.length=k)∧SliceAt w v k l.length es.flatten∧∀ (i:Nat) x y,es[i]?=some x→l[i]?=some y→R x y
theorem au.slice{α:Type}{k:Nat}{R:List Value→α→Prop}{w:World}{v:Value}{l:List α}(h:au k R w v l):∃ cs,SliceAt w v k l.length cs:=by
 obtain⟨es,_,_,h,_⟩:=h;exact⟨_,h⟩
theorem au.form{α:Type}{k:Nat}{R:List Value→α→Prop}{w:World}{v:Value}{l:List α}(h:au k R w v l)(hk:0<k):
 ∃ a c,v=.slice a l.length c∧l.length≤c∧l.length≤9223372036854775807∧∀ i y,l[i]?=some y→∃ b off x,a=some ⟨b,off,none⟩∧R x y∧x.length=k∧∀ j u,x[j]?=some u→w.cell? ⟨b,off+i*k+j,none⟩=some u:=by
 obtain⟨es,h1,h2,h3,h4⟩:=h;obtain⟨a,c,hv,hc,hm,hcell⟩:=h3.form hk;refine⟨a,c,hv,hc,hm,fun i y hy=>?_⟩;have hi:=(ahP.1 hy).1;obtain⟨b,off,ha,hcl⟩:=hcell i hi;obtain⟨x,hx⟩:∃ x,es[i]?=some x:=⟨_,ahM (by omega)⟩;refine⟨b,off,x,ha,h4 i x y hx hy,h2 x (ahU hx),fun j u hu=>hcl j u ?_⟩;rw[vm h2 hx j (by rw[← h2 x (ahU hx)];exact(ahP.1 hu).1)];exact hu
theorem au.mono{α:Type}{k:Nat}{R R':List Value→α→Prop}{w w':World}{v:Value}{l:List α}(h:au k R w v l)(hb:Below w.heap.size w w')(hr:∀ x y,R x y→R' x y):au k R' w' v l:=by
 obtain⟨es,h1,h2,h3,h4⟩:=h;exact⟨es,h1,h2,h3.keep hb,fun i x y hx hy=>hr x y (h4 i x y hx hy)⟩
inductive bV (w:World):List Value→aI→Prop
 | node {op a rel b:Int} {names:List ByteArray} {set:aq} {kids:List aI} {nv kv:Value} {es:List (List Value)}:aJ w nv names→es.length=kids.length→(∀ x∈es,x.length=10)→SliceAt w kv 10 kids.length es.flatten →
  (∀ (i:Nat) x y,es[i]?=some x→kids[i]?=some y→bV w x y) →
  bV w [.int .i64 op,.int .i64 a,.int .i64 rel,.int .i64 b,nv,.int .u64 set.a,.int .u64 set.b,.int .u64 set.c,.int .u64 set.d,kv] (.node op a rel b names set kids)
theorem bV.keep{w w':World}(hb:Below w.heap.size w w'){cs:List Value}{e:aI}(h:bV w cs e):bV w' cs e:=by
 induction h with
 | node h1 h2 h3 h4 _ ih=>exact .node (h1.keep hb) h2 h3 (h4.keep hb) ih
theorem bV.open{w:World}{cs:List Value}{e:aI}(h:bV w cs e):∃ nv kv,cs=[.int .i64 e.op,.int .i64 e.a,.int .i64 e.rel,.int .i64 e.b,nv,.int .u64 e.set.a,.int .u64 e.set.b,.int .u64 e.set.c,.int .u64 e.set.d,kv]∧aJ w nv e.names∧au 10 (bV w) w kv e.kids:=by
 cases h with
 | node h1 h2 h3 h4 h5=>exact⟨_,_,rfl,h1,_,h2,h3,h4,h5⟩
def Cd(w:World)(v:Value)(l:List aI):Prop:=au 10 (bV w) w v l
theorem Cd.keep{w w':World}{v:Value}{l:List aI}(h:Cd w v l)(hb:Below w.heap.size w w'):Cd w' v l:=au.mono h hb fun _ _ h=>bV.keep hb h
def qC(w:World)(cs:List Value)(x:jU):Prop:=∃ v,cs=[.string x.name,v]∧aJ w v x.perms
def jY(w:World)(cs:List Value)(x:gE):Prop:=∃ v,cs=[.string x.name,v,.bool x.perm]∧aJ w v x.jy
def qB(w:World)(cs:List Value)(x:lF):Prop:=∃ es,cs=[.int .i64 x.cls,.int .u32 x.perms,.bool x.val]++es∧bV w es x.expr
theorem qC.keep{w w':World}(hb:Below w.heap.size w w'){cs:List Value}{x:jU}(h:qC w cs x):qC w' cs x:=by
 obtain⟨v,e,h⟩:=h;exact⟨v,e,h.keep hb⟩
theorem jY.keep{w w':World}(hb:Below w.heap.size w w'){cs:List Value}{x:gE}(h:jY w cs x):jY w' cs x:=by
 obtain⟨v,e,h⟩:=h;exact⟨v,e,h.keep hb⟩
theorem qB.keep{w w':World}(hb:Below w.heap.size w w'){cs:List Value}{x:lF}(h:qB w cs x):qB w' cs x:=by
 obtain⟨v,e,h⟩:=h;exact⟨v,e,h.keep hb⟩
structure aD (w:World) (c0 c1 c2 c3 c4 c5 c6 c7 c8 c9 c10 c11 c12 c13 c14 c15 c16:Value) (p:aA):Prop where
 classes:au 2 (qC w) w c0 p.classes
 types:au 3 (jY w) w c1 p.types
 attrs:SliceAt w c2 5 p.attrs.length (p.attrs.flatMap jG.cells)
 roles:SliceAt w c3 9 p.roles.length (p.roles.flatMap eM.cells)
 users:SliceAt w c4 11 p.users.length (p.users.flatMap jr.cells)
 bools:SliceAt w c5 2 p.bools.length (p.bools.flatMap jV.cells)
 ay:aJ w c6 p.ay
 cats:aJ w c7 p.cats
 conds:Cd w c8 p.conds
 rules:SliceAt w c9 13 p.rules.length (p.rules.flatMap dz.cells)
 trans:SliceAt w c10 13 p.trans.length (p.trans.flatMap bG.cells)
 ak:SliceAt w c11 10 p.ak.length (p.ak.flatMap jD.cells)
 ranges:SliceAt w c12 13 p.ranges.length (p.ranges.flatMap jE.cells)
 cons:au 13 (qB w) w c13 p.cons
 aN:SliceAt w c14 8 p.aN.length (p.aN.flatMap iY.cells)
 files:SliceAt w c15 9 p.files.length (p.files.flatMap jF.cells)
 asserts:SliceAt w c16 10 p.asserts.length (p.asserts.flatMap jt.cells)
theorem aD.keep{w w':World}{c0 c1 c2 c3 c4 c5 c6 c7 c8 c9 c10 c11 c12 c13 c14 c15 c16:Value}{p:aA}(h:aD w c0 c1 c2 c3 c4 c5 c6 c7 c8 c9 c10 c11 c12 c13 c14 c15 c16 p)(hb:Below w.heap.size w w'):aD w' c0 c1 c2 c3 c4 c5 c6 c7 c8 c9 c10 c11 c12 c13 c14 c15 c16 p:=
 ⟨au.mono h.classes hb fun _ _ h=>qC.keep hb h,au.mono h.types hb fun _ _ h=>jY.keep hb h,h.attrs.keep hb,h.roles.keep hb,h.users.keep hb,h.bools.keep hb,h.ay.keep hb,h.cats.keep hb,h.conds.keep hb,h.rules.keep hb,h.trans.keep hb,h.ak.keep hb,h.ranges.keep hb,au.mono h.cons hb fun _ _ h=>qB.keep hb h,h.aN.keep hb,h.files.keep hb,h.asserts.keep hb⟩
theorem fS{n:Nat}(h:n≤reachBytes):n≤140737488355328:=by unfold reachBytes at h;omega
theorem bQ{n b:Nat}(hb:0<b)(h:n*b≤reachBytes):n≤140737488355328:=fS (ahN (Nat.le_mul_of_pos_right n hb) h)
theorem wf_i64{n:Int}(h:(Lit.int .i64 n).wf=true):eF n:=by
 have a1:IntKind.i64.min=-9223372036854775808:=by decide
 have a2:IntKind.i64.max=9223372036854775807:=by decide
 simp only[Lit.wf,a1,a2] at h;simp at h;unfold eF;omega
theorem wf_u32{n:Int}(h:(Lit.int .u32 n).wf=true):Ed n:=by
 have a1:IntKind.u32.min=0:=by decide
 have a2:IntKind.u32.max=4294967295:=by decide
 simp only[Lit.wf,a1,a2] at h;simp at h;unfold Ed;omega
theorem wf_u64{n:Int}(h:(Lit.int .u64 n).wf=true):∃ m:Nat,n=m∧cW m:=by
 have a1:IntKind.u64.min=0:=by decide
 have a2:IntKind.u64.max=18446744073709551615:=by decide
 simp only[Lit.wf,a1,a2] at h;simp at h;exact⟨n.toNat,by omega,by unfold cW;omega⟩
theorem cM{w:World}{f:Nat}{cs:List Value}(h:Rd Tryz.prog w f 77 cs):∃ s:aq,cs=s.cells∧s.Ok:=by
 obtain⟨f',rfl,es,rfl,hn,hx⟩:=h.array Tryz.underlying77
 match es,hn with
 | [e0,e1,e2,e3],_=>
  obtain⟨A,rfl,hA⟩:=(hx e0 (by simp)).2.int Tryz.underlying59;obtain⟨B,rfl,hB⟩:=(hx e1 (by simp)).2.int Tryz.underlying59;obtain⟨C,rfl,hC⟩:=(hx e2 (by simp)).2.int Tryz.underlying59;obtain⟨D,rfl,hD⟩:=(hx e3 (by simp)).2.int Tryz.underlying59;obtain⟨a,rfl,ha⟩:=wf_u64 hA;obtain⟨b,rfl,hb⟩:=wf_u64 hB;obtain⟨c,rfl,hc⟩:=wf_u64 hC;obtain⟨d,rfl,hd⟩:=wf_u64 hD;exact⟨⟨a,b,c,d⟩,rfl,ha,hb,hc,hd⟩
theorem uj{w:World}{f:Nat}{cs:List Value}(h:Rd Tryz.prog w f 61 cs):∃ x:jX,cs=x.cells∧x.Ok:=by
 obtain⟨f',rfl,h⟩:=h.struct Tryz.underlying61;obtain⟨c0,_,rfl,-,r0,c1,_,rfl,-,r1,hn⟩:=h;obtain rfl:_=[]:=hn;obtain⟨A,rfl,hA⟩:=r0.int Tryz.underlying3;obtain⟨B',rfl,hB'⟩:=r1.int Tryz.underlying59;obtain⟨B,rfl,hB⟩:=wf_u64 hB';exact⟨⟨A,B⟩,rfl,⟨wf_i64 hA,hB⟩⟩
theorem tY{w:World}{f:Nat}{cs:List Value}(h:Rd Tryz.prog w f 63 cs):∃ x:kQ,cs=x.cells∧x.Ok:=by
 obtain⟨f',rfl,h⟩:=h.struct Tryz.underlying63;obtain⟨c0,_,rfl,-,r0,c1,_,rfl,-,r1,hn⟩:=h;obtain rfl:_=[]:=hn;obtain⟨A,rfl,hA⟩:=uj r0;obtain⟨B,rfl,hB⟩:=uj r1;exact⟨⟨A,B⟩,rfl,⟨hA,hB⟩⟩
theorem Ai{w:World}{f:Nat}{cs:List Value}(h:Rd Tryz.prog w f 65 cs):∃ x:mG,cs=x.cells∧x.Ok:=by
 obtain⟨f',rfl,h⟩:=h.struct Tryz.underlying65;obtain⟨c0,_,rfl,-,r0,c1,_,rfl,-,r1,c2,_,rfl,-,r2,c3,_,rfl,-,r3,hn⟩:=h;obtain rfl:_=[]:=hn;obtain⟨A,rfl,hA⟩:=r0.int Tryz.underlying3;obtain⟨B,rfl,hB⟩:=r1.int Tryz.underlying3;obtain⟨C,rfl,hC⟩:=r2.int Tryz.underlying3;obtain⟨D,rfl,hD⟩:=tY r3;exact⟨⟨A,B,C,D⟩,rfl,⟨wf_i64 hA,wf_i64 hB,wf_i64 hC,hD⟩⟩
theorem bW{α:Type}{Q:List Value→Prop}{R:List Value→α→Prop}(one:∀ cs,Q cs→∃ x,R cs x):∀ es:List (List Value),(∀ x∈es,Q x)→∃ l:List α,es.length=l.length∧(∀ (i:Nat) x y,es[i]?=some x→l[i]?=some y→R x y)
 | [],_=>⟨[],rfl,fun i x y h=>by simp at h⟩
 | e::es,h=>by
  obtain⟨x,hx⟩:=one e (h e (by simp));obtain⟨l,h1,h2⟩:=bW one es fun y hy=>h y (by simp[hy])
  refine⟨x::l,by simp[h1],fun i y z hy hz=>?_⟩
  cases i with
  | zero=>simp at hy hz;subst hy hz;exact hx
  | succ i=>exact h2 i y z (by simpa using hy) (by simpa using hz)
theorem cQ{α:Type}{R:List Value→α→Prop}{B:α→Prop}{es:List (List Value)}{l:List α}(hl:es.length=l.length)(h:∀ (i:Nat) x y,es[i]?=some x→l[i]?=some y→R x y∧B y):∀ y∈l,B y:=by
 intro y hy;obtain⟨i,hi⟩:=List.getElem?_of_mem hy;have hlt:=(ahP.1 hi).1;exact(h i _ y (ahM (by omega)) hi).2
theorem dJ{α:Type}{cells:α→List Value}:∀ {es:List (List Value)} {l:List α},es.length=l.length→(∀ (i:Nat) x y,es[i]?=some x→l[i]?=some y→x=cells y)→es.flatten=l.flatMap cells
 | [],[],_,_=>rfl
 | [],_::_,h,_=>by simp at h
 | _::_,[],h,_=>by simp at h
 | e::es,x::l,h,hr=>by
  rw[List.flatten_cons,List.flatMap_cons,hr 0 e x rfl rfl,dJ (es:=es) (l:=l) (by simpa using h) fun i a b ha hb=>hr (i+1) a b (by simpa using ha) (by simpa using hb)]
theorem IV{w:World}{f:Nat}{cs:List Value}(h:Rd Tryz.prog w f 9 cs):∃ x,cs=aO x∧cB x:=by
 obtain⟨s,rfl,hs⟩:=h.string Tryz.underlying9;exact⟨s,rfl,fS hs⟩
theorem nu{w:World}{f:Nat}{cs:List Value}(h:Rd Tryz.prog w f 28 cs):∃ v,∃ l:List ByteArray,cs=[v]∧SliceAt w v 1 l.length (l.flatMap aO)∧(∀ x∈l,cB x)∧kO l.length:=by
 obtain⟨f',v,rfl,rfl,es,h1,h2,h3⟩:=h.slice Tryz.underlying28;rw[show Tryz.prog.cellsOf 9=1 from by kernel_rfl] at h1;obtain⟨l,e1,e2⟩:=bW (R:=fun cs (x:ByteArray)=>cs=aO x∧cB x) (fun cs h=>IV h.2) es h2;rw[dJ e1 fun i x y hx hy=>(e2 i x y hx hy).1,e1] at h1;rw[e1] at h3;exact⟨v,l,rfl,h1,cQ e1 e2,bQ (of_decide_eq_true (by kernel_rfl)) h3⟩
theorem yC{w:World}:∀ (f:Nat) (cs:List Value),Rd Tryz.prog w f 84 cs→∃ e,bV w cs e∧e.Ok:=by
 intro f
 induction f using Nat.strongRecOn with
 | ind f ih=>
  intro cs h;obtain⟨f',rfl,h⟩:=h.struct Tryz.underlying84;obtain⟨c0,_,rfl,-,r0,c1,_,rfl,-,r1,c2,_,rfl,-,r2,c3,_,rfl,-,r3,c4,_,rfl,-,r4,c5,_,rfl,-,r5,c6,_,rfl,-,r6,hn⟩:=h;obtain rfl:_=[]:=hn;obtain⟨A,rfl,hA⟩:=r0.int Tryz.underlying3;obtain⟨B,rfl,hB⟩:=r1.int Tryz.underlying3;obtain⟨C,rfl,hC⟩:=r2.int Tryz.underlying3;obtain⟨D,rfl,hD⟩:=r3.int Tryz.underlying3;obtain⟨nv,ns,rfl,hns,hno,hnl⟩:=nu r4;obtain⟨s,rfl,hs⟩:=cM r5;obtain⟨f'',kv,rfl,rfl,es,h1,h2,h3⟩:=r6.slice Tryz.underlying29;rw[show Tryz.prog.cellsOf 84=10 from by kernel_rfl] at h1 h2;obtain⟨l,e1,e2⟩:=bW (R:=fun cs (x:aI)=>bV w cs x∧x.Ok) (fun cs h=>ih f'' (by omega) cs h.2) es h2;rw[e1] at h1 h3;exact⟨.node A B C D ns s l,.node hns e1 (fun x hx=>(h2 x hx).1) h1 fun i x y hx hy=>(e2 i x y hx hy).1,.node (wf_i64 hA) (wf_i64 hB) (wf_i64 hC) (wf_i64 hD) ⟨hnl,hno⟩ hs (bQ (of_decide_eq_true (by kernel_rfl)) h3) (cQ e1 e2)⟩
theorem Eb{w:World}{f:Nat}{cs:List Value}(h:Rd Tryz.prog w f 142 cs):∃ x:dz,cs=x.cells∧x.Au:=by
 obtain⟨f',rfl,h⟩:=h.struct Tryz.underlying142;obtain⟨c0,_,rfl,-,r0,c1,_,rfl,-,r1,c2,_,rfl,-,r2,c3,_,rfl,-,r3,c4,_,rfl,-,r4,c5,_,rfl,-,r5,c6,_,rfl,-,r6,hn⟩:=h;obtain rfl:_=[]:=hn;obtain⟨A,rfl,hA⟩:=r0.int Tryz.underlying3;obtain⟨B,rfl,hB⟩:=cM r1;obtain⟨C,rfl,hC⟩:=cM r2;obtain⟨D,rfl⟩:=r3.bool Tryz.underlying4;obtain⟨E,rfl,hE⟩:=r4.int Tryz.underlying3;obtain⟨F,rfl,hF⟩:=r5.int Tryz.underlying68;obtain⟨G,rfl,hG⟩:=r6.int Tryz.underlying3;exact⟨⟨A,B,C,D,E,F,G⟩,rfl,⟨wf_i64 hA,hB,hC,wf_i64 hE,wf_u32 hF,wf_i64 hG⟩⟩
theorem Gx{w:World}{f:Nat}{cs:List Value}(h:Rd Tryz.prog w f 30 cs):∃ v,∃ l:List dz,cs=[v]∧SliceAt w v 13 l.length (l.flatMap dz.cells)∧(∀ x∈l,dz.Au x)∧kO l.length:=by
 obtain⟨f',v,rfl,rfl,es,h1,h2,h3⟩:=h.slice Tryz.underlying30;rw[show Tryz.prog.cellsOf 142=13 from by kernel_rfl] at h1;obtain⟨l,e1,e2⟩:=bW (R:=fun cs (x:dz)=>cs=dz.cells x∧dz.Au x) (fun cs h=>Eb h.2) es h2;rw[dJ e1 fun i x y hx hy=>(e2 i x y hx hy).1,e1] at h1;rw[e1] at h3;exact⟨v,l,rfl,h1,cQ e1 e2,bQ (of_decide_eq_true (by kernel_rfl)) h3⟩
theorem GJ{w:World}{f:Nat}{cs:List Value}(h:Rd Tryz.prog w f 134 cs):∃ x:jG,cs=x.cells∧x.Ok:=by
 obtain⟨f',rfl,h⟩:=h.struct Tryz.underlying134;obtain⟨c0,_,rfl,-,r0,c1,_,rfl,-,r1,hn⟩:=h;obtain rfl:_=[]:=hn;obtain⟨A,rfl,hA⟩:=r0.string Tryz.underlying9;obtain⟨B,rfl,hB⟩:=cM r1;exact⟨⟨A,B⟩,rfl,⟨fS hA,hB⟩⟩
theorem Ky{w:World}{f:Nat}{cs:List Value}(h:Rd Tryz.prog w f 24 cs):∃ v,∃ l:List jG,cs=[v]∧SliceAt w v 5 l.length (l.flatMap jG.cells)∧(∀ x∈l,jG.Ok x)∧kO l.length:=by
 obtain⟨f',v,rfl,rfl,es,h1,h2,h3⟩:=h.slice Tryz.underlying24;rw[show Tryz.prog.cellsOf 134=5 from by kernel_rfl] at h1;obtain⟨l,e1,e2⟩:=bW (R:=fun cs (x:jG)=>cs=jG.cells x∧jG.Ok x) (fun cs h=>GJ h.2) es h2;rw[dJ e1 fun i x y hx hy=>(e2 i x y hx hy).1,e1] at h1;rw[e1] at h3;exact⟨v,l,rfl,h1,cQ e1 e2,bQ (of_decide_eq_true (by kernel_rfl)) h3⟩
theorem Gz{w:World}{f:Nat}{cs:List Value}(h:Rd Tryz.prog w f 136 cs):∃ x:eM,cs=x.cells∧x.Ok:=by
 obtain⟨f',rfl,h⟩:=h.struct Tryz.underlying136;obtain⟨c0,_,rfl,-,r0,c1,_,rfl,-,r1,c2,_,rfl,-,r2,hn⟩:=h;obtain rfl:_=[]:=hn;obtain⟨A,rfl,hA⟩:=r0.string Tryz.underlying9;obtain⟨B,rfl,hB⟩:=cM r1;obtain⟨C,rfl,hC⟩:=cM r2;exact⟨⟨A,B,C⟩,rfl,⟨fS hA,hB,hC⟩⟩
theorem Ks{w:World}{f:Nat}{cs:List Value}(h:Rd Tryz.prog w f 25 cs):∃ v,∃ l:List eM,cs=[v]∧SliceAt w v 9 l.length (l.flatMap eM.cells)∧(∀ x∈l,eM.Ok x)∧kO l.length:=by
 obtain⟨f',v,rfl,rfl,es,h1,h2,h3⟩:=h.slice Tryz.underlying25;rw[show Tryz.prog.cellsOf 136=9 from by kernel_rfl] at h1;obtain⟨l,e1,e2⟩:=bW (R:=fun cs (x:eM)=>cs=eM.cells x∧eM.Ok x) (fun cs h=>Gz h.2) es h2;rw[dJ e1 fun i x y hx hy=>(e2 i x y hx hy).1,e1] at h1;rw[e1] at h3;exact⟨v,l,rfl,h1,cQ e1 e2,bQ (of_decide_eq_true (by kernel_rfl)) h3⟩
theorem Gt{w:World}{f:Nat}{cs:List Value}(h:Rd Tryz.prog w f 138 cs):∃ x:jr,cs=x.cells∧x.Ok:=by
 obtain⟨f',rfl,h⟩:=h.struct Tryz.underlying138;obtain⟨c0,_,rfl,-,r0,c1,_,rfl,-,r1,c2,_,rfl,-,r2,c3,_,rfl,-,r3,hn⟩:=h;obtain rfl:_=[]:=hn;obtain⟨A,rfl,hA⟩:=r0.string Tryz.underlying9;obtain⟨B,rfl,hB⟩:=cM r1;obtain⟨C,rfl,hC⟩:=uj r2;obtain⟨D,rfl,hD⟩:=tY r3;exact⟨⟨A,B,C,D⟩,rfl,⟨fS hA,hB,hC,hD⟩⟩
theorem Km{w:World}{f:Nat}{cs:List Value}(h:Rd Tryz.prog w f 26 cs):∃ v,∃ l:List jr,cs=[v]∧SliceAt w v 11 l.length (l.flatMap jr.cells)∧(∀ x∈l,jr.Ok x)∧kO l.length:=by
 obtain⟨f',v,rfl,rfl,es,h1,h2,h3⟩:=h.slice Tryz.underlying26;rw[show Tryz.prog.cellsOf 138=11 from by kernel_rfl] at h1;obtain⟨l,e1,e2⟩:=bW (R:=fun cs (x:jr)=>cs=jr.cells x∧jr.Ok x) (fun cs h=>Gt h.2) es h2;rw[dJ e1 fun i x y hx hy=>(e2 i x y hx hy).1,e1] at h1;rw[e1] at h3;exact⟨v,l,rfl,h1,cQ e1 e2,bQ (of_decide_eq_true (by kernel_rfl)) h3⟩
theorem GI{w:World}{f:Nat}{cs:List Value}(h:Rd Tryz.prog w f 140 cs):∃ x:jV,cs=x.cells∧x.Ok:=by
 obtain⟨f',rfl,h⟩:=h.struct Tryz.underlying140;obtain⟨c0,_,rfl,-,r0,c1,_,rfl,-,r1,hn⟩:=h;obtain rfl:_=[]:=hn;obtain⟨A,rfl,hA⟩:=r0.string Tryz.underlying9;obtain⟨B,rfl⟩:=r1.bool Tryz.underlying4;exact⟨⟨A,B⟩,rfl,⟨fS hA⟩⟩
theorem Kx{w:World}{f:Nat}{cs:List Value}(h:Rd Tryz.prog w f 27 cs):∃ v,∃ l:List jV,cs=[v]∧SliceAt w v 2 l.length (l.flatMap jV.cells)∧(∀ x∈l,jV.Ok x)∧kO l.length:=by
 obtain⟨f',v,rfl,rfl,es,h1,h2,h3⟩:=h.slice Tryz.underlying27;rw[show Tryz.prog.cellsOf 140=2 from by kernel_rfl] at h1;obtain⟨l,e1,e2⟩:=bW (R:=fun cs (x:jV)=>cs=jV.cells x∧jV.Ok x) (fun cs h=>GI h.2) es h2;rw[dJ e1 fun i x y hx hy=>(e2 i x y hx hy).1,e1] at h1;rw[e1] at h3;exact⟨v,l,rfl,h1,cQ e1 e2,bQ (of_decide_eq_true (by kernel_rfl)) h3⟩
theorem Gv{w:World}{f:Nat}{cs:List Value}(h:Rd Tryz.prog w f 79 cs):∃ x:bG,cs=x.cells∧x.Ok:=by
 obtain⟨f',rfl,h⟩:=h.struct Tryz.underlying79;obtain⟨c0,_,rfl,-,r0,c1,_,rfl,-,r1,c2,_,rfl,-,r2,c3,_,rfl,-,r3,c4,_,rfl,-,r4,c5,_,rfl,-,r5,c6,_,rfl,-,r6,hn⟩:=h;obtain rfl:_=[]:=hn;obtain⟨A,rfl,hA⟩:=r0.int Tryz.underlying3;obtain⟨B,rfl,hB⟩:=cM r1;obtain⟨C,rfl,hC⟩:=cM r2;obtain⟨D,rfl,hD⟩:=r3.int Tryz.underlying3;obtain⟨E,rfl,hE⟩:=r4.string Tryz.underlying9;obtain⟨F,rfl,hF⟩:=r5.int Tryz.underlying3;obtain⟨G,rfl,hG⟩:=r6.int Tryz.underlying3;exact⟨⟨A,B,C,D,E,F,G⟩,rfl,⟨wf_i64 hA,hB,hC,wf_i64 hD,fS hE,wf_i64 hF,wf_i64 hG⟩⟩
theorem Kp{w:World}{f:Nat}{cs:List Value}(h:Rd Tryz.prog w f 31 cs):∃ v,∃ l:List bG,cs=[v]∧SliceAt w v 13 l.length (l.flatMap bG.cells)∧(∀ x∈l,bG.Ok x)∧kO l.length:=by
 obtain⟨f',v,rfl,rfl,es,h1,h2,h3⟩:=h.slice Tryz.underlying31;rw[show Tryz.prog.cellsOf 79=13 from by kernel_rfl] at h1;obtain⟨l,e1,e2⟩:=bW (R:=fun cs (x:bG)=>cs=bG.cells x∧bG.Ok x) (fun cs h=>Gv h.2) es h2;rw[dJ e1 fun i x y hx hy=>(e2 i x y hx hy).1,e1] at h1;rw[e1] at h3;exact⟨v,l,rfl,h1,cQ e1 e2,bQ (of_decide_eq_true (by kernel_rfl)) h3⟩
theorem Gy{w:World}{f:Nat}{cs:List Value}(h:Rd Tryz.prog w f 186 cs):∃ x:jD,cs=x.cells∧x.Ok:=by
 obtain⟨f',rfl,h⟩:=h.struct Tryz.underlying186;obtain⟨c0,_,rfl,-,r0,c1,_,rfl,-,r1,c2,_,rfl,-,r2,c3,_,rfl,-,r3,hn⟩:=h;obtain rfl:_=[]:=hn;obtain⟨A,rfl,hA⟩:=cM r0;obtain⟨B,rfl,hB⟩:=cM r1;obtain⟨C,rfl,hC⟩:=r2.int Tryz.underlying3;obtain⟨D,rfl,hD⟩:=r3.int Tryz.underlying3;exact⟨⟨A,B,C,D⟩,rfl,⟨hA,hB,wf_i64 hC,wf_i64 hD⟩⟩
theorem Kr{w:World}{f:Nat}{cs:List Value}(h:Rd Tryz.prog w f 32 cs):∃ v,∃ l:List jD,cs=[v]∧SliceAt w v 10 l.length (l.flatMap jD.cells)∧(∀ x∈l,jD.Ok x)∧kO l.length:=by
 obtain⟨f',v,rfl,rfl,es,h1,h2,h3⟩:=h.slice Tryz.underlying32;rw[show Tryz.prog.cellsOf 186=10 from by kernel_rfl] at h1;obtain⟨l,e1,e2⟩:=bW (R:=fun cs (x:jD)=>cs=jD.cells x∧jD.Ok x) (fun cs h=>Gy h.2) es h2;rw[dJ e1 fun i x y hx hy=>(e2 i x y hx hy).1,e1] at h1;rw[e1] at h3;exact⟨v,l,rfl,h1,cQ e1 e2,bQ (of_decide_eq_true (by kernel_rfl)) h3⟩
theorem GA{w:World}{f:Nat}{cs:List Value}(h:Rd Tryz.prog w f 190 cs):∃ x:jE,cs=x.cells∧x.Ok:=by
 obtain⟨f',rfl,h⟩:=h.struct Tryz.underlying190;obtain⟨c0,_,rfl,-,r0,c1,_,rfl,-,r1,c2,_,rfl,-,r2,c3,_,rfl,-,r3,hn⟩:=h;obtain rfl:_=[]:=hn;obtain⟨A,rfl,hA⟩:=cM r0;obtain⟨B,rfl,hB⟩:=cM r1;obtain⟨C,rfl,hC⟩:=r2.int Tryz.underlying3;obtain⟨D,rfl,hD⟩:=tY r3;exact⟨⟨A,B,C,D⟩,rfl,⟨hA,hB,wf_i64 hC,hD⟩⟩
theorem Kt{w:World}{f:Nat}{cs:List Value}(h:Rd Tryz.prog w f 33 cs):∃ v,∃ l:List jE,cs=[v]∧SliceAt w v 13 l.length (l.flatMap jE.cells)∧(∀ x∈l,jE.Ok x)∧kO l.length:=by
 obtain⟨f',v,rfl,rfl,es,h1,h2,h3⟩:=h.slice Tryz.underlying33;rw[show Tryz.prog.cellsOf 190=13 from by kernel_rfl] at h1;obtain⟨l,e1,e2⟩:=bW (R:=fun cs (x:jE)=>cs=jE.cells x∧jE.Ok x) (fun cs h=>GA h.2) es h2;rw[dJ e1 fun i x y hx hy=>(e2 i x y hx hy).1,e1] at h1;rw[e1] at h3;exact⟨v,l,rfl,h1,cQ e1 e2,bQ (of_decide_eq_true (by kernel_rfl)) h3⟩
theorem Gw{w:World}{f:Nat}{cs:List Value}(h:Rd Tryz.prog w f 145 cs):∃ x:iY,cs=x.cells∧x.Ok:=by
 obtain⟨f',rfl,h⟩:=h.struct Tryz.underlying145;obtain⟨c0,_,rfl,-,r0,c1,_,rfl,-,r1,hn⟩:=h;obtain rfl:_=[]:=hn;obtain⟨A,rfl,hA⟩:=r0.string Tryz.underlying9;obtain⟨B,rfl,hB⟩:=Ai r1;exact⟨⟨A,B⟩,rfl,⟨fS hA,hB⟩⟩
theorem Kq{w:World}{f:Nat}{cs:List Value}(h:Rd Tryz.prog w f 35 cs):∃ v,∃ l:List iY,cs=[v]∧SliceAt w v 8 l.length (l.flatMap iY.cells)∧(∀ x∈l,iY.Ok x)∧kO l.length:=by
 obtain⟨f',v,rfl,rfl,es,h1,h2,h3⟩:=h.slice Tryz.underlying35;rw[show Tryz.prog.cellsOf 145=8 from by kernel_rfl] at h1;obtain⟨l,e1,e2⟩:=bW (R:=fun cs (x:iY)=>cs=iY.cells x∧iY.Ok x) (fun cs h=>Gw h.2) es h2;rw[dJ e1 fun i x y hx hy=>(e2 i x y hx hy).1,e1] at h1;rw[e1] at h3;exact⟨v,l,rfl,h1,cQ e1 e2,bQ (of_decide_eq_true (by kernel_rfl)) h3⟩
theorem GD{w:World}{f:Nat}{cs:List Value}(h:Rd Tryz.prog w f 199 cs):∃ x:jF,cs=x.cells∧x.Ok:=by
 obtain⟨f',rfl,h⟩:=h.struct Tryz.underlying199;obtain⟨c0,_,rfl,-,r0,c1,_,rfl,-,r1,c2,_,rfl,-,r2,hn⟩:=h;obtain rfl:_=[]:=hn;obtain⟨A,rfl,hA⟩:=r0.string Tryz.underlying9;obtain⟨B,rfl,hB⟩:=r1.int Tryz.underlying3;obtain⟨C,rfl,hC⟩:=Ai r2;exact⟨⟨A,B,C⟩,rfl,⟨fS hA,wf_i64 hB,hC⟩⟩
theorem Ku{w:World}{f:Nat}{cs:List Value}(h:Rd Tryz.prog w f 36 cs):∃ v,∃ l:List jF,cs=[v]∧SliceAt w v 9 l.length (l.flatMap jF.cells)∧(∀ x∈l,jF.Ok x)∧kO l.length:=by
 obtain⟨f',v,rfl,rfl,es,h1,h2,h3⟩:=h.slice Tryz.underlying36;rw[show Tryz.prog.cellsOf 199=9 from by kernel_rfl] at h1;obtain⟨l,e1,e2⟩:=bW (R:=fun cs (x:jF)=>cs=jF.cells x∧jF.Ok x) (fun cs h=>GD h.2) es h2;rw[dJ e1 fun i x y hx hy=>(e2 i x y hx hy).1,e1] at h1;rw[e1] at h3;exact⟨v,l,rfl,h1,cQ e1 e2,bQ (of_decide_eq_true (by kernel_rfl)) h3⟩
theorem GK{w:World}{f:Nat}{cs:List Value}(h:Rd Tryz.prog w f 203 cs):∃ x:jt,cs=x.cells∧x.Ok:=by
 obtain⟨f',rfl,h⟩:=h.struct Tryz.underlying203;obtain⟨c0,_,rfl,-,r0,c1,_,rfl,-,r1,c2,_,rfl,-,r2,c3,_,rfl,-,r3,hn⟩:=h;obtain rfl:_=[]:=hn;obtain⟨A,rfl,hA⟩:=r0.string Tryz.underlying9;obtain⟨B,rfl,hB⟩:=r1.int Tryz.underlying3;obtain⟨C,rfl,hC⟩:=cM r2;obtain⟨D,rfl,hD⟩:=cM r3;exact⟨⟨A,B,C,D⟩,rfl,⟨fS hA,wf_i64 hB,hC,hD⟩⟩
theorem Kz{w:World}{f:Nat}{cs:List Value}(h:Rd Tryz.prog w f 37 cs):∃ v,∃ l:List jt,cs=[v]∧SliceAt w v 10 l.length (l.flatMap jt.cells)∧(∀ x∈l,jt.Ok x)∧kO l.length:=by
 obtain⟨f',v,rfl,rfl,es,h1,h2,h3⟩:=h.slice Tryz.underlying37;rw[show Tryz.prog.cellsOf 203=10 from by kernel_rfl] at h1;obtain⟨l,e1,e2⟩:=bW (R:=fun cs (x:jt)=>cs=jt.cells x∧jt.Ok x) (fun cs h=>GK h.2) es h2;rw[dJ e1 fun i x y hx hy=>(e2 i x y hx hy).1,e1] at h1;rw[e1] at h3;exact⟨v,l,rfl,h1,cQ e1 e2,bQ (of_decide_eq_true (by kernel_rfl)) h3⟩
theorem GH{w:World}{f:Nat}{cs:List Value}(h:Rd Tryz.prog w f 131 cs):∃ x:jU,qC w cs x∧x.Ok:=by
 obtain⟨f',rfl,h⟩:=h.struct Tryz.underlying131;obtain⟨c0,_,rfl,-,r0,c1,_,rfl,-,r1,hn⟩:=h;obtain rfl:_=[]:=hn;obtain⟨A,rfl,hA⟩:=r0.string Tryz.underlying9;obtain⟨vB,B,rfl,sB,aB,lB⟩:=nu r1;exact⟨⟨A,B⟩,⟨vB,rfl,sB⟩,⟨fS hA,⟨lB,aB⟩⟩⟩
theorem Kw{w:World}{f:Nat}{cs:List Value}(h:Rd Tryz.prog w f 22 cs):∃ v,∃ l:List jU,cs=[v]∧au 2 (qC w) w v l∧(∀ x∈l,jU.Ok x)∧kO l.length:=by
 obtain⟨f',v,rfl,rfl,es,h1,h2,h3⟩:=h.slice Tryz.underlying22;rw[show Tryz.prog.cellsOf 131=2 from by kernel_rfl] at h1 h2;obtain⟨l,e1,e2⟩:=bW (R:=fun cs (x:jU)=>qC w cs x∧jU.Ok x) (fun cs h=>GH h.2) es h2;rw[e1] at h1 h3;exact⟨v,l,rfl,⟨es,e1,fun x hx=>(h2 x hx).1,h1,fun i x y hx hy=>(e2 i x y hx hy).1⟩,cQ e1 e2,bQ (of_decide_eq_true (by kernel_rfl)) h3⟩
theorem Gu{w:World}{f:Nat}{cs:List Value}(h:Rd Tryz.prog w f 81 cs):∃ x:gE,jY w cs x∧x.Ok:=by
 obtain⟨f',rfl,h⟩:=h.struct Tryz.underlying81;obtain⟨c0,_,rfl,-,r0,c1,_,rfl,-,r1,c2,_,rfl,-,r2,hn⟩:=h;obtain rfl:_=[]:=hn;obtain⟨A,rfl,hA⟩:=r0.string Tryz.underlying9;obtain⟨vB,B,rfl,sB,aB,lB⟩:=nu r1;obtain⟨C,rfl⟩:=r2.bool Tryz.underlying4;exact⟨⟨A,B,C⟩,⟨vB,rfl,sB⟩,⟨fS hA,⟨lB,aB⟩⟩⟩
theorem Ko{w:World}{f:Nat}{cs:List Value}(h:Rd Tryz.prog w f 23 cs):∃ v,∃ l:List gE,cs=[v]∧au 3 (jY w) w v l∧(∀ x∈l,gE.Ok x)∧kO l.length:=by
 obtain⟨f',v,rfl,rfl,es,h1,h2,h3⟩:=h.slice Tryz.underlying23;rw[show Tryz.prog.cellsOf 81=3 from by kernel_rfl] at h1 h2;obtain⟨l,e1,e2⟩:=bW (R:=fun cs (x:gE)=>jY w cs x∧gE.Ok x) (fun cs h=>Gu h.2) es h2;rw[e1] at h1 h3;exact⟨v,l,rfl,⟨es,e1,fun x hx=>(h2 x hx).1,h1,fun i x y hx hy=>(e2 i x y hx hy).1⟩,cQ e1 e2,bQ (of_decide_eq_true (by kernel_rfl)) h3⟩
theorem GF{w:World}{f:Nat}{cs:List Value}(h:Rd Tryz.prog w f 86 cs):∃ x:lF,qB w cs x∧x.Ok:=by
 obtain⟨f',rfl,h⟩:=h.struct Tryz.underlying86;obtain⟨c0,_,rfl,-,r0,c1,_,rfl,-,r1,c2,_,rfl,-,r2,c3,_,rfl,-,r3,hn⟩:=h;obtain rfl:_=[]:=hn;obtain⟨A,rfl,hA⟩:=r0.int Tryz.underlying3;obtain⟨B,rfl,hB⟩:=r1.int Tryz.underlying68;obtain⟨C,rfl⟩:=r2.bool Tryz.underlying4;obtain⟨D,sD,hD⟩:=yC _ _ r3;exact⟨⟨A,B,C,D⟩,⟨_,by simp,sD⟩,⟨wf_i64 hA,wf_u32 hB,hD⟩⟩
theorem Kv{w:World}{f:Nat}{cs:List Value}(h:Rd Tryz.prog w f 34 cs):∃ v,∃ l:List lF,cs=[v]∧au 13 (qB w) w v l∧(∀ x∈l,lF.Ok x)∧kO l.length:=by
 obtain⟨f',v,rfl,rfl,es,h1,h2,h3⟩:=h.slice Tryz.underlying34;rw[show Tryz.prog.cellsOf 86=13 from by kernel_rfl] at h1 h2;obtain⟨l,e1,e2⟩:=bW (R:=fun cs (x:lF)=>qB w cs x∧lF.Ok x) (fun cs h=>GF h.2) es h2;rw[e1] at h1 h3;exact⟨v,l,rfl,⟨es,e1,fun x hx=>(h2 x hx).1,h1,fun i x y hx hy=>(e2 i x y hx hy).1⟩,cQ e1 e2,bQ (of_decide_eq_true (by kernel_rfl)) h3⟩
theorem J2{w:World}{f:Nat}{cs:List Value}(h:Rd Tryz.prog w f 29 cs):∃ v,∃ l:List aI,cs=[v]∧au 10 (bV w) w v l∧(∀ x∈l,aI.Ok x)∧kO l.length:=by
 obtain⟨f',v,rfl,rfl,es,h1,h2,h3⟩:=h.slice Tryz.underlying29;rw[show Tryz.prog.cellsOf 84=10 from by kernel_rfl] at h1 h2;obtain⟨l,e1,e2⟩:=bW (R:=fun cs (x:aI)=>bV w cs x∧aI.Ok x) (fun cs h=>yC _ _ h.2) es h2;rw[e1] at h1 h3;exact⟨v,l,rfl,⟨es,e1,fun x hx=>(h2 x hx).1,h1,fun i x y hx hy=>(e2 i x y hx hy).1⟩,cQ e1 e2,bQ (of_decide_eq_true (by kernel_rfl)) h3⟩
theorem LX{w:World}{u:Value}(h:Arg Tryz.prog w 39 u):∃ c0 c1 c2 c3 c4 c5 c6 c7 c8 c9 c10 c11 c12 c13 c14 c15 c16:Value,∃ p:aA,u=.agg #[c0,c1,c2,c3,c4,c5,c6,c7,c8,c9,c10,c11,c12,c13,c14,c15,c16]∧aD w c0 c1 c2 c3 c4 c5 c6 c7 c8 c9 c10 c11 c12 c13 c14 c15 c16 p∧p.Ok:=by
 obtain⟨f,cs,h,rfl⟩:=h;rw[Tryz.underlying39];obtain⟨f',rfl,h⟩:=h.struct Tryz.underlying39;obtain⟨c0,_,rfl,-,r0,c1,_,rfl,-,r1,c2,_,rfl,-,r2,c3,_,rfl,-,r3,c4,_,rfl,-,r4,c5,_,rfl,-,r5,c6,_,rfl,-,r6,c7,_,rfl,-,r7,c8,_,rfl,-,r8,c9,_,rfl,-,r9,c10,_,rfl,-,r10,c11,_,rfl,-,r11,c12,_,rfl,-,r12,c13,_,rfl,-,r13,c14,_,rfl,-,r14,c15,_,rfl,-,r15,c16,_,rfl,-,r16,hn⟩:=h;obtain rfl:_=[]:=hn;obtain⟨v0,l0,rfl,s0,o0,b0⟩:=Kw r0;obtain⟨v1,l1,rfl,s1,o1,b1⟩:=Ko r1;obtain⟨v2,l2,rfl,s2,o2,b2⟩:=Ky r2;obtain⟨v3,l3,rfl,s3,o3,b3⟩:=Ks r3;obtain⟨v4,l4,rfl,s4,o4,b4⟩:=Km r4;obtain⟨v5,l5,rfl,s5,o5,b5⟩:=Kx r5;obtain⟨v6,l6,rfl,s6,o6,b6⟩:=nu r6;obtain⟨v7,l7,rfl,s7,o7,b7⟩:=nu r7;obtain⟨v8,l8,rfl,s8,o8,b8⟩:=J2 r8;obtain⟨v9,l9,rfl,s9,o9,b9⟩:=Gx r9;obtain⟨v10,l10,rfl,s10,o10,b10⟩:=Kp r10;obtain⟨v11,l11,rfl,Ou,o11,b11⟩:=Kr r11;obtain⟨v12,l12,rfl,s12,o12,b12⟩:=Kt r12;obtain⟨UO,Zb,rfl,Ot,o13,b13⟩:=Kv r13;obtain⟨QL,Za,rfl,Oq,o14,b14⟩:=Kq r14;obtain⟨UN,Y_,rfl,LB,o15,b15⟩:=Ku r15;obtain⟨QK,Y9,rfl,VQ,o16,b16⟩:=Kz r16;exact⟨v0,v1,v2,v3,v4,v5,v6,v7,v8,v9,v10,v11,v12,UO,QL,UN,QK,⟨l0,l1,l2,l3,l4,l5,l6,l7,l8,l9,l10,l11,l12,Zb,Za,Y_,Y9⟩,rfl,⟨s0,s1,s2,s3,s4,s5,s6,s7,s8,s9,s10,Ou,s12,Ot,Oq,LB,VQ⟩,⟨o0,b0,o1,b1,o2,b2,o3,b3,o4,b4,o5,b5,o6,b6,o7,b7,o8,b8,o9,b9,o10,b10,o11,b11,o12,b12,o13,b13,o14,b14,o15,b15,o16,b16⟩⟩
end Go.Proofs.YtkkmjdceiocnbaaGreatDoor

import Derived.Below
import Derived.BigQuiet
import Derived.ChangeKeysEq
import Derived.Deep.DeepCutAuto
import Derived.Deep.MidRow
import Derived.DeepKeys4
import Derived.Handy
import Derived.Laws.Bits64b
import Derived.Laws.Rows
import Derived.Laws.StructEq
import Derived.Lib.Hide
import Derived.OpenShut
import Derived.Orders
import Derived.ProofKit
import Derived.Shelf.SlSortCmp.Insertion
import Derived.SizedLaws
import Derived.Sort.Grow
import Derived.Sort.LotA
import Derived.Tactics
import Derived.Test.YtkkmjdceiocnbaaGreatDoorRows
import Derived.WalkKit
import Derived.WalkSmall
import Derived.WalkSpells
open Array renaming getD_eq_getD_getElem?→aji
open Bool renaming and_eq_true→ai3
open Go.Sem renaming run_bind→ai7
open Int renaming toNat_of_nonneg→ajj
open List renaming getElem?_append_left→ai4,getElem?_append_right→ai5,getElem?_eq_getElem→ai6,mem_append→ai8,getElem?_eq_some_iff→ai9,mem_cons→ai_,length_take→aja,mem_cons_of_mem→ajb,getElem?_map→ajc,mem_of_getElem?→aje,all_eq_true→ajg
open Nat renaming mul_le_mul_right→ajf,lt_of_lt_of_le→ajh
open Option.some renaming inj→ajd
set_option maxRecDepth 100000
set_option maxHeartbeats 8000000
set_option linter.unusedSectionVars false
set_option linter.unusedSimpArgs false
set_option linter.unusedVariables false
namespace Go.Proofs.YtkkmjdceiocnbaaGreatDoor
open Go.RowKit
def B_(o:Option TypeInfo)(k b:Nat):Bool:=
 match o with
 | some i=>(match i.zero with|some z=>z.cells.size == k|none=>false)&&i.size == k&&i.bytes == b
 | none=>false
theorem zo{o:Option TypeInfo}{k b:Nat}(h:B_ o k b=true):∃ i z,o=some i∧i.zero=some z∧i.size=k∧i.bytes=b∧z.cells.size=k:=by
 unfold B_ at h;split at h
 ·rename_i i;split at h
  ·rename_i z hz;simp only[ai3,beq_iff_eq] at h;exact⟨i,z,rfl,hz,h.1.2,h.2,h.1.1⟩
  ·simp at h
 ·simp at h
theorem cE{α}{l:List α}{k:Nat}{t:α}(h:l[k]?=some t):l.take (k+1)=l.take k++[t]:=by
 rw[List.take_add_one,h];rfl
theorem Lz{α}{f:α→List Value}{k:Nat}(hf:∀ x,(f x).length=k){l:List α}{i:Nat}{t:α}(h:l[i]?=some t)(j:Nat)(hj:j<k):(l.flatMap f)[i*k+j]?=(f t)[j]?:=by
 induction l generalizing i with
 | nil=>simp at h
 | cons x l ih=>
  have hl:=hf x
  cases i with
  | zero=>
   simp at h;subst h;rw[List.flatMap_cons,Nat.zero_mul,Nat.zero_add,ai4 (by omega)]
  | succ i=>
   have:=ih (i:=i) (by simpa using h);rw[List.flatMap_cons,ai5 (by rw[hl,Nat.add_mul];omega),← this];congr 1;rw[hl,Nat.add_mul];omega
def SliceAt(w:World)(v:Value)(k n:Nat)(cs:List Value):Prop:=
 cs.length=n*k∧n≤maxLen∧(∀ u∈cs,u.oneCell'=true) ∧
  ((v=.slice none 0 0∧n=0)∨∃ a c,v=.slice (some a) n c∧n≤c∧∀ j u,cs[j]?=some u→w.cell? (a.add j)=some u)
theorem block_add(a:Addr)(n:Nat):(a.add n).block=a.block:=by unfold Addr.add;split<;>rfl
theorem SliceAt.keep{w w':World}{v:Value}{k n:Nat}{cs:List Value}(h:SliceAt w v k n cs)(hb:Below w.heap.size w w'):SliceAt w' v k n cs:=
 ⟨h.1,h.2.1,h.2.2.1,h.2.2.2.imp id fun⟨a,c,hv,hn,hc⟩=>⟨a,c,hv,hn,fun j u hu=>cell_later hb (hc j u hu)⟩⟩
theorem SliceAt.nil(w:World)(k:Nat):SliceAt w (.slice none 0 0) k 0 []:=⟨by simp,by simp[maxLen],by simp,.inl ⟨rfl,rfl⟩⟩
theorem Mh{w:World}{a:Addr}{u:Value}(h:w.cell? (a.add 0)=some u):∃ b off,a=⟨b,off,none⟩:=by
 obtain⟨b,off,s⟩:=a;refine⟨b,off,?_⟩
 cases s with
 | none=>rfl
 | some x=>
  exfalso;unfold World.cell? Addr.add at h;split at h<;>simp at h
theorem SliceAt.form{w:World}{v:Value}{k n:Nat}{cs:List Value}(h:SliceAt w v k n cs)(hk:0<k):
 ∃ a c,v=.slice a n c∧n≤c∧n≤9223372036854775807∧∀ i,i<n→∃ b off,a=some ⟨b,off,none⟩∧∀ j u,cs[i*k+j]?=some u→w.cell? ⟨b,off+i*k+j,none⟩=some u:=by
 have hm:=h.2.1;unfold maxLen at hm;rcases h.2.2.2 with⟨rfl,rfl⟩|⟨a,c,rfl,hn,hc⟩
 ·exact⟨none,0,rfl,Nat.le_refl _,by omega,fun i hi=>by omega⟩
 ·refine⟨_,c,rfl,hn,by omega,fun i hi=>?_⟩;have hlt:i*k<cs.length:=by rw[h.1];exact Nat.mul_lt_mul_of_pos_right hi hk
  obtain⟨b,off,rfl⟩:=Mh (hc 0 _ (ai6 (by omega)));exact⟨b,off,rfl,fun j u hu=>by have:=hc _ u hu;rwa [Addr.add_mid,← Nat.add_assoc] at this⟩
theorem SliceAt.r_{w:World}{base:Nat}{e:TypeId}{k n:Nat}{v:Value}{cs:List Value}(h:w.ownsRow base e k v n cs)(h1:∀ u∈cs,u.oneCell'=true):SliceAt w v k n cs:=by
 refine⟨h.1,?_,h1,?_⟩
 ·rcases h.2 with⟨_,rfl⟩|⟨g,cap,cur,_,_,_,hn,hc,_⟩
  ·simp[maxLen]
  ·omega
 ·rcases h.2 with h2|⟨g,cap,cur,rfl,_,hg,hn,hc,hs,ht⟩
  ·exact .inl h2
  ·exact .inr ⟨_,cap,rfl,hn,World.ownsRow.cells h (g:=g) rfl⟩
def Whole(w:World)(g:Nat)(t:TypeId)(cs:Array Value):Prop:=w.heap[g]?=some (.cells cs t (0,0))
section
variable {w w':World} {g:Nat} {t:TypeId} {cs:Array Value}
theorem Whole.lt(h:Whole w g t cs):g<w.heap.size:=by
 rcases Nat.lt_or_ge g w.heap.size with hlt|hge
 ·exact hlt
 ·unfold Whole at h;rw[Array.getElem?_eq_none hge] at h;cases h
theorem Whole.cell(h:Whole w g t cs)(i:Nat):w.cell? ⟨g,i,none⟩=cs[i]?:=cell_of_row w g i cs t (0,0) h
theorem Whole.frozen(h:Whole w g t cs)(i:Nat):w.frozen? ⟨g,i,none⟩=false:=frozen_of_row w g i cs t h
theorem Whole.new(w:World)(t:TypeId)(cs:Array Value):Whole (w.alloc (.cells cs t)) w.heap.size t cs:=heap_alloc_new w _
theorem Whole.alloc(h:Whole w g t cs)(o:Obj):Whole (w.alloc o) g t cs:=(Below.heap_alloc w o g h.lt).trans h
theorem Whole.drewN(h:Whole w g t cs)(n:Nat):Whole (w.drewN n) g t cs:=h
theorem Whole.below{B:Nat}(h:Whole w g t cs)(hb:Below B w w')(hg:g<B):Whole w' g t cs:=(hb.block g hg).trans h
theorem Whole.under{B:Nat}(hb:Below B w w')(h:Whole w g t cs)(hg:g<B):Whole w' g t cs:=h.below hb hg
theorem Whole.grown{row:Option Nat}(h:Whole w g t cs)(hb:w.grownBy w' row)(hg:some g≠row):Whole w' g t cs:=(hb.block g h.lt hg).trans h
end
structure zG (w w':World) (g:Nat):Prop where
 os:w'.os=w.os
 tape:w'.tape=w.tape
 output:w'.output=w.output
 size:w'.heap.size=w.heap.size
 block:∀ k,k≠g→w'.heap[k]?=w.heap[k]?
theorem zG.refl(w:World)(g:Nat):zG w w g:=⟨rfl,rfl,rfl,rfl,fun _ _=>rfl⟩
theorem zG.trans{a b c:World}{g:Nat}(h:zG a b g)(k:zG b c g):zG a c g:=
 ⟨k.os.trans h.os,k.tape.trans h.tape,k.output.trans h.output,k.size.trans h.size,fun i hi=>(k.block i hi).trans (h.block i hi)⟩
theorem zG.cell(w:World)(g i:Nat)(v:Value):zG w (w.setCell ⟨g,i,none⟩ v) g:=
 ⟨rfl,rfl,rfl,by simp[World.setCell],fun k hk=>heap_setCell_other w _ k v hk⟩
theorem zG.below{w w':World}{g B:Nat}(h:zG w w' g)(hg:B≤g):Below B w w':=
 ⟨h.os,h.tape,h.output,by rw[h.size];exact Nat.le_refl _,fun k hk=>h.block k (by omega)⟩
theorem zG.whole{w w':World}{g g':Nat}{t:TypeId}{cs:Array Value}(h:zG w w' g)(hw:Whole w g' t cs)(hne:g'≠g):Whole w' g' t cs:=(h.block g' hne).trans hw
theorem zG.grown{w w':World}{g:Nat}(h:zG w w' g):w.grownBy w' (some g):=
 ⟨h.os,h.tape,h.output,by rw[h.size];exact Nat.le_refl _,fun k _ hk=>h.block k fun e=>hk (by rw[e])⟩
theorem zG.own{w w':World}{g base:Nat}{e:TypeId}{size n:Nat}{v:Value}{xs:List Value}(h:zG w w' g)(ho:w.ownsRow base e size v n xs)(hne:v.ownBlock≠some g):w'.ownsRow base e size v n xs:=
 ho.kept h.grown (.inr hne)
theorem zG.cell'{w w':World}{g:Nat}(h:zG w w' g){a:Addr}(ha:a.block≠g):w'.cell? a=w.cell? a:=World.cell?_of_block (h.block _ ha)
theorem zG.slice{w w':World}{g:Nat}{v:Value}{k n:Nat}{cs:List Value}(h:zG w w' g)(hs:SliceAt w v k n cs)(hne:v.ownBlock≠some g):SliceAt w' v k n cs:=
 ⟨hs.1,hs.2.1,hs.2.2.1,hs.2.2.2.imp id fun⟨a,c,hv,hn,hc⟩=>⟨a,c,hv,hn,fun j u hu=>(h.cell' (by rw[block_add];intro e;exact hne (by rw[hv];exact congrArg some e))).trans (hc j u hu)⟩⟩
theorem AF{w:World}{base base':Nat}{e:TypeId}{size n:Nat}{v:Value}{xs:List Value}(h:w.ownsRow base e size v n xs)(hb:base'≤base):w.ownsRow base' e size v n xs:=
 ⟨h.1,h.2.imp id fun⟨g,cap,cur,hv,hg,r⟩=>⟨g,cap,cur,hv,Nat.le_trans hb hg,r⟩⟩
def splice(cs:Array Value)(o:Nat):List Value→Array Value
 | []=>cs
 | v::r=>splice (cs.setIfInBounds o v) (o+1) r
theorem zO(cs:Array Value)(o:Nat)(l:List Value):(splice cs o l).size=cs.size:=by
 induction l generalizing cs o with
 | nil=>rfl
 | cons v r ih=>rw[splice,ih];simp
theorem rZ(cs:Array Value)(o:Nat)(l:List Value)(h:o+l.length≤cs.size):(splice cs o l).toList=cs.toList.take o++l++cs.toList.drop (o+l.length):=by
 induction l generalizing cs o with
 | nil=>simp[splice]
 | cons v r ih=>
  simp only[List.length_cons] at h;rw[splice,ih _ _ (by rw[Array.size_setIfInBounds];omega)];rw[Array.toList_setIfInBounds,List.length_cons,List.drop_set_of_lt (by omega),List.take_succ_eq_append_getElem (by rw[List.length_set,Array.length_toList];omega)];rw[List.getElem_set_self,List.take_set_of_le (Nat.le_refl _)];simp only[List.append_assoc,List.cons_append,List.nil_append];rw[show o+1+r.length=o+(r.length+1) by omega]
theorem xQ{g:Nat}{t:TypeId}:∀ (l:List Value) (o:Nat) (cs:Array Value) (w:World),Whole w g t cs→zG w (w.setCells g o l) g∧Whole (w.setCells g o l) g t (splice cs o l)
 | [],_,_,w,h=>⟨zG.refl w g,h⟩
 | v::r,o,cs,w,h=>by
  have h1:Whole (w.setCell ⟨g,o,none⟩ v) g t (cs.setIfInBounds o v):=heap_setCell_same w g o cs t v h;have:=xQ r (o+1) _ _ h1;exact⟨(zG.cell w g o v).trans this.1,this.2⟩
theorem Pu{w:World}{base:Nat}{e:TypeId}{k n:Nat}{v:Value}{cs:List Value}(h:w.ownsRow base e k v n cs)(hn:0<n):
 ∃ g cap cur,v=.slice (some ⟨g,0,none⟩) n cap∧base≤g∧Whole w g e cur∧n≤cap∧cap≤maxLen∧cur.size=cap*k∧cur.toList.take (n*k)=cs:=by
 rcases h.2 with⟨_,rfl⟩|⟨g,cap,cur,hv,hg,hh,h1,h2,h3,h4⟩
 ·omega
 ·exact⟨g,cap,cur,hv,hg,hh,h1,h2,h3,h4⟩
theorem G7{k:Nat}{xs:List (List Value)}(hx:∀ x∈xs,x.length=k){i:Nat}{x:List Value}(h:xs[i]?=some x)(j:Nat)(hj:j<k):xs.flatten[i*k+j]?=x[j]?:=by
 induction xs generalizing i with
 | nil=>simp at h
 | cons y xs ih=>
  have hy:=hx y (by simp)
  cases i with
  | zero=>
   simp at h;subst h;rw[List.flatten_cons,Nat.zero_mul,Nat.zero_add,ai4 (by omega)]
  | succ i=>
   have:=ih (fun z hz=>hx z (by simp[hz])) (i:=i) (by simpa using h);rw[List.flatten_cons,ai5 (by rw[hy,Nat.add_mul];omega),← this];congr 1;rw[hy,Nat.add_mul];omega
section
variable {P:Program}
theorem sG(w:World)(b o:Nat)(ty:TypeId)(v:Value)(ht:w.there b o v.cells.size)(hi:(P.info? ty).map (·.size)=some v.cells.size)(h1:v.cells.toList.all (·.oneCell')=true):
 (storeVar ty ⟨b,o,none⟩ v).run P w=.ok () (w.setCells b o v.cells.toList):=by
 have h:=run_storeVar_mid (P:=P) w b o ty v.cells ht hi (by rw[← Array.all_toList];exact h1);have e:(Value.agg v.cells).cells=v.cells:=rfl;unfold storeVar at h ⊢;rw[e] at h;exact h
theorem Whole.there{w:World}{g:Nat}{t:TypeId}{cs:Array Value}(h:Whole w g t cs)(o n:Nat)(hn:o+n≤cs.size):w.there g o n:=fun j hj=>by
 refine⟨?_,h.frozen _⟩;rw[h.cell,Array.getElem?_eq_getElem (by omega)];rfl
theorem DZ{op:Oper}{a:Act}{w:World}{K:Act→World→Prop}{Q:Exit→Act→World→Prop}(ty:TypeId)(x y:Operand)(ho:op.op=.store ty x y)
 (g o:Nat) (v:Value) (hx:a.eval x=.pointer (some ⟨g,o,none⟩)) (hy:a.eval y=v) (t:TypeId) (cs:Array Value) (hw:Whole w g t cs) (hfit:o+v.cells.size≤cs.size)
 (hi:(P.info? ty).map (·.size)=some v.cells.size) (h1:v.cells.toList.all (·.oneCell')=true)
 (h:∀ w',zG w w' g→Whole w' g t (splice cs o v.cells.toList)→K (a.put op.dst undef) w'):op.wp P a w K Q:=by
 unfold Oper.wp execOp;simp only[ho,hx,hy,Instr.storeAt,Instr.sureAddr,ai7,Sem.run_pure,Result.andThen_ok,sG w g o ty v (hw.there o _ hfit) hi h1];have:=xQ v.cells.toList o cs w hw;exact h _ this.1 this.2
end
end Go.Proofs.YtkkmjdceiocnbaaGreatDoor
namespace Go.Proofs.YtkkmjdceiocnbaaGreatDoor
open Go.ChangeAt Go.ChangeShapes Go.RowKit Go.WideShapes
def rW(P:Program)(p:TypeId→List Value→Prop):List TypeId→List Value→Prop
 | [],cs=>cs=[]
 | t::ts,cs=>∃ a b,cs=a++b∧a.length=P.cellsOf t∧p t a∧rW P p ts b
def Rd(P:Program)(w:World):Nat→TypeId→List Value→Prop
 | 0,_,_=>False
 | f+1,t,cs=>
  match P.underlying t with
  | some .bool=>∃ b,cs=[.bool b]
  | some (.int k)=>∃ n,cs=[.int k n]∧(Lit.int k n).wf=true
  | some .string=>∃ s,cs=[.string s]∧s.size≤reachBytes
  | some (.slice e)=>∃ v,cs=[v]∧∃ es:List (List Value),SliceAt w v (P.cellsOf e) es.length es.flatten∧(∀ x∈es,x.length=P.cellsOf e∧Rd P w f e x)∧es.length*P.bytesOf e≤reachBytes
  | some (.struct fs)=>rW P (Rd P w f) (fs.toList.map (·.type)) cs
  | some (.array n e)=>∃ es:List (List Value),cs=es.flatten∧es.length=n∧∀ x∈es,x.length=P.cellsOf e∧Rd P w f e x
  | _=>∃ v,cs=[v]∧v.oneCell'=true
theorem rW.mono{P:Program}{p q:TypeId→List Value→Prop}(h:∀ t cs,p t cs→q t cs):∀ {ts:List TypeId} {cs:List Value},rW P p ts cs→rW P q ts cs
 | [],_,hp=>hp
 | _::_,_,⟨a,b,e,hl,ha,hb⟩=>⟨a,b,e,hl,h _ _ ha,rW.mono h hb⟩
theorem rW.one{P:Program}{p:TypeId→List Value→Prop}(h:∀ t cs,p t cs→∀ u∈cs,u.oneCell'=true):∀ {ts:List TypeId} {cs:List Value},rW P p ts cs→∀ u∈cs,u.oneCell'=true
 | [],_,hp,u,hu=>by rw[show _=[] from hp] at hu;cases hu
 | _::_,_,⟨a,b,e,hl,ha,hb⟩,u,hu=>by
  subst e;rcases ai8.1 hu with h1|h1
  ·exact h _ _ ha u h1
  ·exact rW.one h hb u h1
theorem Rd.one{P:Program}{w:World}:∀ {f:Nat} {t:TypeId} {cs:List Value},Rd P w f t cs→∀ u∈cs,u.oneCell'=true
 | 0,_,_,h,_,_=>h.elim
 | f+1,t,cs,h,u,hu=>by
  unfold Rd at h;split at h
  ·obtain⟨b,rfl⟩:=h;simp at hu;subst hu;rfl
  ·obtain⟨b,rfl,_⟩:=h;simp at hu;subst hu;rfl
  ·obtain⟨b,rfl,_⟩:=h;simp at hu;subst hu;rfl
  ·obtain⟨v,rfl,es,hs,_⟩:=h;simp at hu;subst hu;rcases hs.2.2.2 with⟨rfl,_⟩|⟨a,c,rfl,_⟩<;>rfl
  ·exact rW.one (fun t cs h=>Rd.one h) h u hu
  ·obtain⟨es,rfl,_,hx⟩:=h;obtain⟨x,hx1,hx2⟩:=List.mem_flatten.1 hu;exact Rd.one (hx x hx1).2 u hx2
  ·obtain⟨v,rfl,hv⟩:=h;simp at hu;subst hu;exact hv
theorem Rd.keep{P:Program}{w w':World}(hb:Below w.heap.size w w'):∀ {f:Nat} {t:TypeId} {cs:List Value},Rd P w f t cs→Rd P w' f t cs
 | 0,_,_,h=>h
 | f+1,t,cs,h=>by
  unfold Rd at h ⊢;split at h
  ·exact h
  ·exact h
  ·exact h
  ·obtain⟨v,rfl,es,hs,hx,hr⟩:=h;exact⟨v,rfl,es,hs.keep hb,fun x hx1=>⟨(hx x hx1).1,Rd.keep hb (hx x hx1).2⟩,hr⟩
  ·exact rW.mono (fun t cs h=>Rd.keep hb h) h
  ·obtain⟨es,rfl,hn,hx⟩:=h;exact⟨es,rfl,hn,fun x hx1=>⟨(hx x hx1).1,Rd.keep hb (hx x hx1).2⟩⟩
  ·exact h
section
variable {P:Program} {w:World} {f:Nat} {t:TypeId} {cs:List Value}
theorem Rd.bool(h:Rd P w f t cs)(hu:P.underlying t=some .bool):∃ b,cs=[.bool b]:=by
 cases f with
 | zero=>exact h.elim
 | succ f=>unfold Rd at h;rw[hu] at h;exact h
theorem Rd.int{k:IntKind}(h:Rd P w f t cs)(hu:P.underlying t=some (.int k)):∃ n,cs=[.int k n]∧(Lit.int k n).wf=true:=by
 cases f with
 | zero=>exact h.elim
 | succ f=>unfold Rd at h;rw[hu] at h;exact h
theorem Rd.string(h:Rd P w f t cs)(hu:P.underlying t=some .string):∃ s,cs=[.string s]∧s.size≤reachBytes:=by
 cases f with
 | zero=>exact h.elim
 | succ f=>unfold Rd at h;rw[hu] at h;exact h
theorem Rd.slice{e:TypeId}(h:Rd P w f t cs)(hu:P.underlying t=some (.slice e)):
 ∃ f' v,f=f'+1∧cs=[v]∧∃ es:List (List Value),SliceAt w v (P.cellsOf e) es.length es.flatten∧(∀ x∈es,x.length=P.cellsOf e∧Rd P w f' e x)∧es.length*P.bytesOf e≤reachBytes:=by
 cases f with
 | zero=>exact h.elim
 | succ f=>unfold Rd at h;rw[hu] at h;obtain⟨v,hv,es,hes⟩:=h;exact⟨f,v,rfl,hv,es,hes⟩
theorem Rd.struct{fs:Array Field}(h:Rd P w f t cs)(hu:P.underlying t=some (.struct fs)):∃ f',f=f'+1∧rW P (Rd P w f') (fs.toList.map (·.type)) cs:=by
 cases f with
 | zero=>exact h.elim
 | succ f=>unfold Rd at h;rw[hu] at h;exact⟨f,rfl,h⟩
theorem Rd.array{n:Nat}{e:TypeId}(h:Rd P w f t cs)(hu:P.underlying t=some (.array n e)):∃ f',f=f'+1∧∃ es:List (List Value),cs=es.flatten∧es.length=n∧∀ x∈es,x.length=P.cellsOf e∧Rd P w f' e x:=by
 cases f with
 | zero=>exact h.elim
 | succ f=>unfold Rd at h;rw[hu] at h;exact⟨f,rfl,h⟩
end
section
variable {H:Type} {enc:TypeId×Value→H} {P:Program} {w:World} {spare:Nat→Bool}
theorem DP{a:Addr}{n:Nat}{cs:List Value}(h:w.cells? 0 a n=some cs):cs.length=n∧∀ j u,cs[j]?=some u→w.cell? (a.add j)=some u:=by
 obtain⟨_,hl,hc⟩:=World.cells?_some h;refine⟨hl,fun j u hu=>?_⟩;have hj:=(ai9.1 hu).1;rw[hc j (by omega),hu]
theorem JN{es:List (List Value)}{k:Nat}(hk:∀ x∈es,x.length=k)(j:Nat)(u:Value)(h:es.flatten[j]?=some u):∃ i x r,es[i]?=some x∧r<k∧j=i*k+r∧x[r]?=some u:=by
 induction es generalizing j with
 | nil=>simp at h
 | cons x es ih=>
  have hx:=hk x (by simp);rw[List.flatten_cons] at h;by_cases hj:j<k
  ·rw[ai4 (by omega)] at h;exact⟨0,x,j,rfl,hj,by omega,h⟩
  ·rw[ai5 (by omega)] at h;obtain⟨i,y,r,h1,h2,h3,h4⟩:=ih (fun y hy=>hk y (by simp[hy])) _ h;exact⟨i+1,y,r,by simpa using h1,h2,by rw[Nat.add_mul];omega,h4⟩
theorem add_add(a:Addr)(i j:Nat):(a.add i).add j=a.add (i+j):=by
 unfold Addr.add;by_cases hi:i=0<;>by_cases hj:j=0<;>simp[hi,hj,Nat.add_assoc]
theorem zI{e:TypeId}{l:List (DataW H)}{d:DataW H}(hd:d∈l){n:Nat}(hn:n∈d.weights P e):n∈DataW.weightsAll P e l:=by
 induction l with
 | nil=>cases hd
 | cons x l ih=>
  simp only[DataW.weightsAll,ai8];rcases ai_.1 hd with rfl|h
  ·exact .inl hn
  ·exact .inr (ih h)
theorem Gj{p:TypeId→List Value→Prop}:∀ (ts:List TypeId) (cs:List Value),cs.length=(ts.map fun t=>P.cellsOf t).sum →
 (∀ (j:Nat) (t:TypeId),ts[j]?=some t→p t ((cs.drop ((ts.take j).map fun t=>P.cellsOf t).sum).take (P.cellsOf t)))→rW P p ts cs
 | [],cs,hl,_=>by simpa[rW] using hl
 | t::ts,cs,hl,h=>by
  simp only[List.map_cons,List.sum_cons] at hl;refine⟨cs.take (P.cellsOf t),cs.drop (P.cellsOf t),(List.take_append_drop _ _).symm,by rw[aja];omega,by simpa using h 0 t rfl,Gj ts _ (by rw[List.length_drop];omega) fun j u hu=>?_⟩;have:=h (j+1) u (by simpa using hu);rw[List.drop_drop];simpa[List.take_succ_cons] using this
theorem Rd.AK{held:Bool}(hl:laidOutB P=true):∀ (f:Nat) (t:TypeId) (cs:List Value) (d:DataW H) (ps:List MemPlace),isVar P t=true →
 DataW.trod enc P w 0 (fun _=>true) held f t cs=some (d,ps)→(∀ n∈d.weights P t,n≤reachBytes)→Rd P w f t cs
 | 0,t,cs,d,ps,_,h,_=>by simp[DataW.trod] at h
 | f+1,t,cs,d,ps,hv,h,hw=>by
  have hlt:t<P.types.size:=by
   unfold isVar at hv;simp only[ai3,decide_eq_true_eq] at hv;exact hv.1
  have hrow:=rowFine_of_laidOut hl hlt;unfold rowFine at hrow;rw[hv] at hrow;simp only[Bool.not_true,Bool.false_or] at hrow;unfold Rd;split
  ·rename_i hu;obtain⟨b,rfl,_⟩:=DataW.trod_bool hu h;exact⟨b,rfl⟩
  ·rename_i k hu;obtain⟨n,rfl,_,hwf⟩:=DataW.trod_int hu h;exact⟨n,rfl,hwf⟩
  ·rename_i hu;obtain⟨s,rfl,hx,_⟩:=DataW.trod_string hu h;refine⟨s,rfl,?_⟩;simp only[Prod.mk.injEq] at hx;obtain⟨rfl,_⟩:=hx;have:=hw s.data.toList.length (by simp[DataW.weights])
   rwa [Array.length_toList] at this
  ·rename_i e hu;rw[hu] at hrow;simp only[ai3,beq_iff_eq] at hrow;rcases DataW.trod_slice hu h with⟨rfl,_⟩|⟨a,len,cap,elems,rest,n,hf,rfl,hx,_,hlc,hcm,hel,hcell,hrest,_⟩
   ·exact⟨_,rfl,[],SliceAt.nil _ _,by simp,by simp⟩
   ·obtain rfl:f=n:=by omega
    simp only[Prod.mk.injEq] at hx;obtain⟨rfl,_⟩:=hx;have hw1:=hw ((elems.length+rest.length)*P.bytesOf e) (by rw[DataW.weights,hu];simp)
    have hw2:∀ x∈elems,∀ n∈x.1.weights P e,n≤reachBytes:=fun x hx n hn=>hw n (by
     rw[DataW.weights,hu];exact ajb _ (List.mem_append_left _ (zI (List.mem_map_of_mem hx) hn)))
    have each:∀ i,i<len→∃ es x,w.cells? 0 (a.add (i*P.cellsOf e)) (P.cellsOf e)=some es∧elems[i]?=some x∧DataW.trod enc P w 0 (fun _=>true) held f e es=some x:=fun i hi=>by
     have hi':i<elems.length:=by omega
     have:=hcell i hi;rw[ai6 hi'] at this;obtain⟨es,h1,h2⟩:=Option.bind_eq_some_iff.1 this;exact⟨es,_,h1,ai6 hi',h2⟩
    let es:List (List Value):=(List.range len).map fun i=>(w.cells? 0 (a.add (i*P.cellsOf e)) (P.cellsOf e)).getD []
    have hes:∀ i x,es[i]?=some x→i<len∧w.cells? 0 (a.add (i*P.cellsOf e)) (P.cellsOf e)=some x:=fun i x hx=>by
     have hi:i<len:=by have:=(ai9.1 hx).1;simpa[es] using this
     obtain⟨y,_,h1,_⟩:=each i hi;simp only[es,ajc,List.getElem?_range hi,Option.map_some,h1,Option.getD_some,Option.some.injEq] at hx;exact⟨hi,by rw[h1,hx]⟩
    have hlen:es.length=len:=by simp[es]
    have hk:∀ x∈es,x.length=P.cellsOf e:=fun x hx=>by
     obtain⟨i,hi⟩:=List.getElem?_of_mem hx;exact(DP (hes i x hi).2).1
    have hrd:∀ x∈es,Rd P w f e x:=fun x hx=>by
     obtain⟨i,hi⟩:=List.getElem?_of_mem hx;obtain⟨ET,hc⟩:=hes i x hi;obtain⟨y,z,h1,h2,h3⟩:=each i ET;obtain rfl:y=x:=ajd (h1.symm.trans hc);exact Rd.AK hl f e y z.1 z.2 hrow.1 h3 (hw2 z (aje h2))
    refine⟨_,rfl,es,⟨?_,by rw[hlen];omega,?_,.inr ⟨a,cap,by rw[hlen],by rw[hlen];exact hlc,?_⟩⟩,fun x hx=>⟨hk x hx,hrd x hx⟩,?_⟩
    ·have:∀ l:List (List Value),(∀ x∈l,x.length=P.cellsOf e)→l.flatten.length=l.length*P.cellsOf e:=fun l=>by
      induction l with
      | nil=>simp
      | cons x l ih=>intro h;rw[List.flatten_cons,List.length_append,ih (fun y hy=>h y (by simp[hy])),h x (by simp),List.length_cons,Nat.add_mul];omega
     exact this es hk
    ·intro u hu;obtain⟨x,hx1,hx2⟩:=List.mem_flatten.1 hu;exact(hrd x hx1).one u hx2
    ·intro j u hj;obtain⟨i,x,r,h1,h2,rfl,h4⟩:=JN hk j u hj;have:=(DP (hes i x h1).2).2 r u h4
     rwa [add_add] at this
    ·rw[hlen];refine Nat.le_trans (ajf _ ?_) hw1;omega
  ·rename_i fs hu;rw[hu] at hrow;simp only[ai3,beq_iff_eq,ajg,List.mem_range] at hrow;obtain⟨⟨acj,hsum⟩,hoff⟩:=hrow;obtain⟨xs,n,hf,hx,hcl,hxl,Wm⟩:=DataW.trod_struct hu h;obtain rfl:f=n:=by omega
   simp only[Prod.mk.injEq] at hx;obtain⟨rfl,_⟩:=hx;refine Gj _ cs (by rw[hcl,hsum,List.map_map];rfl) fun j t' hj=>?_
   rw[ajc] at hj;obtain⟨fl,hfl,rfl⟩:=Option.map_eq_some_iff.1 hj;have hjl:j<fs.toList.length:=(ai9.1 hfl).1;have ho:=hoff j hjl;rw[hfl] at ho;simp only[beq_iff_eq] at ho;have hxj:=Wm j fl (by rw[← hfl,Array.getElem?_toList]);have hjx:j<xs.length:=by rw[hxl];simpa using hjl
   rw[ai6 hjx,ho] at hxj;rw[List.map_take] at hxj;rw[← List.map_take,List.map_map,List.map_take];refine Rd.AK hl f _ _ xs[j].1 xs[j].2 (acj fl (aje hfl)) hxj fun n hn=>hw n ?_
   rw[DataW.weights,hu];exact DataW.weights_mem_each (j:=j) (by rw[ajc,hfl];rfl) (by rw[ajc,ai6 hjx];rfl) n hn
  ·rename_i n e hu;rw[hu] at hrow;simp only[ai3,beq_iff_eq] at hrow;obtain⟨xs,m,hf,hx,hcl,hxl,hel⟩:=DataW.trod_array hu h;obtain rfl:f=m:=by omega
   simp only[Prod.mk.injEq] at hx;obtain⟨rfl,_⟩:=hx
   have hsp:∀ (n:Nat) (cs:List Value),cs.length=n*P.cellsOf e→(∀ i,i<n→Rd P w f e ((cs.drop (i*P.cellsOf e)).take (P.cellsOf e))) →
    ∃ es:List (List Value),cs=es.flatten∧es.length=n∧∀ x∈es,x.length=P.cellsOf e∧Rd P w f e x:=fun n=>by
    induction n with
    | zero=>intro cs h _;exact⟨[],by simpa using h,rfl,by simp⟩
    | succ n ih=>
     intro cs h hr;rw[Nat.add_mul] at h
     obtain⟨es,h1,h2,h3⟩:=ih (cs.drop (P.cellsOf e)) (by rw[List.length_drop];omega) fun i hi=>by
      have:=hr (i+1) (by omega);rw[List.drop_drop]
      rwa [show P.cellsOf e+i*P.cellsOf e=(i+1)*P.cellsOf e by rw[Nat.add_mul];omega]
     refine⟨cs.take (P.cellsOf e)::es,by rw[List.flatten_cons,← h1,List.take_append_drop],by simp[h2],fun x hx=>?_⟩;rcases ai_.1 hx with rfl|hx
     ·exact⟨by rw[aja];omega,by simpa using hr 0 (by omega)⟩
     ·exact h3 x hx
   refine hsp n cs (by rw[hcl,hrow.2]) fun i hi=>?_
   have hxi:=hel i hi;have YX:i<xs.length:=by omega
   rw[ai6 YX] at hxi;refine Rd.AK hl f _ _ xs[i].1 xs[i].2 hrow.1 hxi fun n hn=>hw n ?_
   rw[DataW.weights,hu];exact zI (List.mem_map_of_mem (List.getElem_mem YX)) hn
  ·unfold DataW.trod at h;split at h<;>first|(simp_all;done)|exact⟨_,rfl,rfl⟩
def Arg(P:Program)(w:World)(t:TypeId)(v:Value):Prop:=
 ∃ f cs,Rd P w f t cs∧v=match P.underlying t with
  | some (.struct _)|some (.array _ _)=>.agg cs.toArray
  | _=>cs.headD undef
def Args(P:Program)(w:World):List TypeId→List Value→Prop
 | [],[]=>True
 | t::ts,v::vs=>Arg P w t v∧Args P w ts vs
 | _,_=>False
theorem W4{held:Bool}{r:Reach}{base:Nat}(hl:laidOutB P=true){t:TypeId}{v:Value}{d:DataW H}{ps:List MemPlace}(hv:isVar P t=true)(hok:Value.okWide P w r base t v)
 (h:DataW.Trod enc P w 0 (fun _=>true) held t v d ps) (hw:∀ n∈d.weights P t,n≤reachBytes):Arg P w t v:=by
 obtain⟨f,h⟩:=h;refine⟨f,_,Rd.AK hl f t _ d ps hv h hw,?_⟩;unfold Value.okWide at hok;split at hok
 ·obtain⟨cs,rfl,_⟩:=hok
  simp_all [Value.cells]
 ·obtain⟨cs,rfl,_⟩:=hok
  simp_all [Value.cells]
 ·split
  ·simp_all
  ·simp_all
  ·cases v<;>simp_all [Value.cells,Cell.okWide,Cell.ok]
theorem LY{r:Reach}{base:Nat}(hl:laidOutB P=true):∀ {ts:List TypeId} {vs:List Value} {ds:List (DataW H)} {ps:List MemPlace},(∀ t∈ts,isVar P t=true) →
 (∀ (j:Nat) t v,ts[j]?=some t→vs[j]?=some v→Value.okWide P w r base t v)→DataW.TrodAll enc P w 0 (fun _=>true) true ts vs ds ps→(∀ n∈DataW.weightsEach P ts ds,n≤reachBytes)→Args P w ts vs
 | [],[],[],_,_,_,_,_=>trivial
 | t::ts,v::vs,d::ds,ps,hv,hok,⟨p,q,h1,h2,_⟩,hw=>by
  simp only[DataW.weightsEach,ai8] at hw
  exact⟨W4 hl (hv t (by simp)) (hok 0 t v rfl rfl) h1 fun n hn=>hw n (.inl hn),
   LY hl (fun t ht=>hv t (by simp[ht])) (fun j t v h1 h2=>hok (j+1) t v (by simpa using h1) (by simpa using h2)) h2 fun n hn=>hw n (.inr hn)⟩
theorem uQ:∀ {ts:List TypeId} {vs:List Value} {ds:List (DataW H)} {ps:List MemPlace},DataW.TrodAll enc P w 0 spare true ts vs ds ps→ds.length=ts.length
 | [],[],[],_,_=>rfl
 | _::_,_::_,_::_,_,⟨_,_,_,h2,_⟩=>by simp[uQ h2]
theorem xL{w':World}(hl:laidOutB P=true)(hb:Below w.heap.size w w'):∀ {ts:List TypeId} {vs:List Value} {ds:List (DataW H)} {ps:List MemPlace},
 (∀ t∈ts,isVar P t=true∧P.readableRec t=true)→DataW.TrodAll enc P w 0 (fun _=>true) true ts vs ds ps→(∀ x∈ps,x.block<w.heap.size)→DataW.TrodAll enc P w' 0 (fun b=>decide (b<w.heap.size)) true ts vs ds ps
 | [],[],[],_,_,h,_=>h
 | t::ts,v::vs,d::ds,_,hr,⟨p,q,h1,h2,rfl⟩,hlt=>by
  have hv:=(hr t (by simp)).1;unfold isVar at hv;simp only[ai3,decide_eq_true_eq] at hv
  exact⟨p,q,Below.trod hl (hr t (by simp)).2 hv.1 h1 hb fun x hx=>hlt x (List.mem_append_left _ hx),
   xL hl hb (fun t ht=>hr t (by simp[ht])) h2 fun x hx=>hlt x (List.mem_append_right _ hx),rfl⟩
end
section
variable {H:Type} {enc:TypeId×Value→H}
theorem PU{P:Program}{fn:Func}{s:ChangeSpec}(laid:laidOutB P=true)(hv:s.vars=[])(tb:TypeId)(hres:fn.resultTypes=#[tb])(hb:P.underlying tb=some .bool)
 (hpar:fn.params.toList.all (fun t=>isVar P t&&P.readableRec t)=true)
 (hspec:∀ ds:List (DataW H),ds.length=fn.params.toList.length→s.fn H ds={ results:=[.lit (.bool true)],args:=ds })
 {W W':World} {args:Array Value} {ds gs:List (DataW H)} {before:List MemPlace} (hW:DataW.Whole enc P fn.params.toList s.vars false W args.toList ds gs before) (hB:Below W.heap.size W W') :
 s.post enc P fn false true false false W args (.bool true) W':=by
 have hW':=hW;have hlt:=hW.lt;obtain⟨p,q,hA,hV,rfl,_,_⟩:=hW;rw[hv] at hV;obtain⟨rfl,rfl⟩:=trodVars_none hV;rw[List.append_nil] at hlt
 have hp:∀ t∈fn.params.toList,isVar P t=true∧P.readableRec t=true:=fun t ht=>by
  have:=ajg.1 hpar t ht;simpa using this
 have hs:=hspec ds (uQ hA);refine⟨ds,[],_,[],p,[],hW',?_,?_,?_,hB.frame _,fun h=>by cases h⟩
 ·rw[List.append_nil,hs,hres];exact trodAll_mk1 (shut_bool hb true)
 ·rw[List.append_nil,hs];exact xL laid hB hp hA hlt
 ·rw[hv,List.append_nil,hs];exact rfl
end
end Go.Proofs.YtkkmjdceiocnbaaGreatDoor
namespace Go.Proofs.YtkkmjdceiocnbaaGreatDoor
open Go.RowKit
theorem Gl{w w':World}{B base:Nat}{e:TypeId}{size n:Nat}{v:Value}{xs:List Value}(hb:Below B w w')(h:w.ownsRow base e size v n xs)(hB:w.heap.size≤B):w'.ownsRow base e size v n xs:=
 ⟨h.1,h.2.imp id fun⟨g,cap,cur,hv,hg,hh,r⟩=>⟨g,cap,cur,hv,hg,(hb.block g (ajh (Array.getElem?_eq_some_iff.1 hh).1 hB)).trans hh,r⟩⟩
theorem Gm{w:World}{base g:Nat}{e t:TypeId}{size n:Nat}{v:Value}{xs:List Value}{cs:Array Value}(h:w.ownsRow base e size v n xs)(hg:Whole w g t cs)(hne:e≠t):v.ownBlock≠some g:=by
 rcases h.2 with⟨rfl,_⟩|⟨g',cap,cur,rfl,_,hh,_⟩
 ·simp[Value.ownBlock]
 ·intro he;have hgg:g'=g:=by simpa[Value.ownBlock] using he
  subst hgg;unfold Whole at hg;rw[hh] at hg;simp only[Option.some.injEq,Obj.cells.injEq] at hg;exact hne hg.2.1
end Go.Proofs.YtkkmjdceiocnbaaGreatDoor
namespace Go.Proofs.YtkkmjdceiocnbaaGreatDoor
def upd(L:Nat→Bool)(i:Nat):Nat→Bool:=fun j=>j == i||L j
def tE(P:Program)(ops:Array Oper)(I:(Nat→Bool)→Act→World→Prop):Nat→List Oper→Prop
 | _,[]=>True
 | i,o::r=>(∀ (L:Nat→Bool) (a:Act) (w:World) (Q':Exit→Act→World→Prop),I L a w→L i=false→(∀ e∈o.after.toList,Region.binds .any e=true→L e.on=true) →
  (∀ a w,I (upd L i) a w→Q' .normal a w)→wpList P ops Q' [o] a w)∧tE P ops I (i+1) r
def ordered:Nat→List Oper→Bool
 | _,[]=>true
 | i,o::r=>o.after.toList.all (fun e=>!Region.binds .any e||decide (e.on<i))&&ordered (i+1) r
theorem mL:∀ (k:Nat) (l:List Oper),ordered k l=true→∀ i o,l[i]?=some o→∀ e∈o.after.toList,Region.binds .any e=true→e.on<k+i
 | _,[],_,i,o,h,_,_,_=>by simp at h
 | k,x::r,h,0,o,ho,e,he,hb=>by
  simp only[ordered,ai3,ajg] at h;simp at ho;subst ho;have:=h.1 e he;rw[hb] at this;simpa using this
 | k,x::r,h,i+1,o,ho,e,he,hb=>by
  simp only[ordered,ai3] at h;have:=mL (k+1) r h.2 i o (by simpa using ho) e he hb;omega
theorem FY{P:Program}{ops:Array Oper}{I:(Nat→Bool)→Act→World→Prop}:∀ (k:Nat) (l:List Oper),tE P ops I k l→∀ i o,l[i]?=some o →
 ∀ (L:Nat→Bool) (a:Act) (w:World) (Q':Exit→Act→World→Prop),I L a w→L (k+i)=false→(∀ e∈o.after.toList,Region.binds .any e=true→L e.on=true) →
  (∀ a w,I (upd L (k+i)) a w→Q' .normal a w)→wpList P ops Q' [o] a w
 | _,[],_,i,o,h=>by simp at h
 | k,x::r,h,0,o,ho=>by
  simp at ho;subst ho;exact h.1
 | k,x::r,h,i+1,o,ho=>by
  have:=FY (k+1) r h.2 i o (by simpa using ho)
  rwa [show k+1+i=k+(i+1) by omega] at this
section
variable {P:Program} {ops:Array Oper} {Q:Exit→Act→World→Prop}
theorem CG{listed:Array Bool}(hs:listed.size=ops.size)(jQ:∀ (i:Nat) (o:Oper),ops[i]?=some o→∀ e∈o.after.toList,Region.binds .any e=true→e.on<i)(hr:Region.ready .any ops listed=[]):
 ∀ i,i<ops.size→listed.getD i false=true:=by
 intro i
 induction i using Nat.strongRecOn with
 | ind i ih=>
  intro hi;refine Classical.byContradiction fun hn=>?_
  have hm:i∈Region.ready .any ops listed:=mem_ready.2 ⟨by
   rw[aji,Array.getElem?_eq_getElem (by omega)] at hn ⊢;simpa using hn,ops[i],Array.getElem?_eq_getElem hi,fun e he hb=>ih e.on (jQ i _ (Array.getElem?_eq_getElem hi) e (by simpa using he) hb) (Nat.lt_trans (jQ i _ (Array.getElem?_eq_getElem hi) e (by simpa using he) hb) hi)⟩
  rw[hr] at hm;cases hm
theorem D3{i:Nat}{o:Oper}{a:Act}{w:World}{K:Act→World→Prop}(ho:ops[i]?=some o)
 (h:∀ Q':Exit→Act→World→Prop,(∀ a w,K a w→Q' .normal a w)→wpList P ops Q' [o] a w):wpOp P ops Q i K a w:=by
 have h1:=h (fun e a w=>match e with|.normal=>K a w|e=>Q e a w) (fun _ _ h=>h);unfold wpOp;rw[ho];simp only[wpList] at h1;dsimp only;split
 ·rename_i hw;rw[if_pos hw] at h1;refine h1.imp (fun h2=>?_) (fun h2=>⟨h2.1,h2.2⟩);unfold Oper.wp at *;generalize (execOp a.eval o).run P w=r at *
  cases r with
  | ok n w'=>
   cases n<;>simp only[Oper.upon] at h2 ⊢<;>first|exact h2|exact Calls.mono h2 (fun e w'' he=>by cases e<;>exact he)
  | halt x w'=>cases x<;>simp only[Oper.upon] at h2 ⊢<;>exact h2
 ·rename_i hw;rw[if_neg hw] at h1;exact h1
theorem Df(I:(Nat→Bool)→Act→World→Prop)(jQ:∀ (i:Nat) (o:Oper),ops[i]?=some o→∀ e∈o.after.toList,Region.binds .any e=true→e.on<i)
 (hstep:∀ (i:Nat) (o:Oper),ops[i]?=some o→∀ (L:Nat→Bool) (a:Act) (w:World),I L a w→L i=false→(∀ e∈o.after.toList,Region.binds .any e=true→L e.on=true)→wpOp P ops Q i (I (upd L i)) a w)
 (hend:∀ (L:Nat→Bool) (a:Act) (w:World),I L a w→(∀ i,i<ops.size→L i=true)→Q .normal a w) :
 ∀ (fuel:Nat) (listed:Array Bool) (a:Act) (w:World),listed.size=ops.size→listed.toList.count false≤fuel→I (fun j=>listed.getD j false) a w→wpAny P .any ops Q fuel listed a w:=by
 intro fuel
 induction fuel with
 | zero=>
  intro listed a w hs hc hI
  have hr:Region.ready .any ops listed=[]:=by
   refine List.eq_nil_iff_forall_not_mem.2 fun j hj=>?_
   have h:=mem_ready.1 hj;obtain⟨h0,o,ho,_⟩:=h;have hlt:j<ops.size:=(Array.getElem?_eq_some_iff.1 ho).1
   have hmem:false∈listed.toList:=by
    rw[aji,Array.getElem?_eq_getElem (by omega)] at h0;simp only[Option.getD_some] at h0;rw[← h0];simp
   have:=List.count_pos_iff.2 hmem;omega
  exact⟨hr,hend _ a w hI (CG hs jQ hr)⟩
 | succ fuel ih=>
  intro listed a w hs hc hI;refine⟨fun hr=>hend _ a w hI (CG hs jQ hr),fun j hj=>?_⟩;have h:=mem_ready.1 hj;obtain⟨h0,o,ho,ha⟩:=h;have hlt:j<ops.size:=(Array.getElem?_eq_some_iff.1 ho).1;have hjl:j<listed.size:=by omega
  have h0':listed[j]=false:=by
   rw[aji,Array.getElem?_eq_getElem hjl] at h0;simpa using h0
  refine wpOp_mono (fun a' w' hI'=>ih (listed.setIfInBounds j true) a' w' (by simpa using hs) ?_ ?_) (hstep j o ho _ a w hI ?_ (fun e he hb=>ha e (by simpa using he) hb))
  ·rw[Array.toList_setIfInBounds,List.count_set (by simpa using hjl)]
   have hmem:false∈listed.toList:=by
    rw[← h0'];simp
   have:=List.count_pos_iff.2 hmem;have hb:(listed.toList[j] == false)=true:=by simpa using h0'
   rw[if_pos hb,if_neg (by simp)];omega
  ·have:(fun k=>(listed.setIfInBounds j true).getD k false)=upd (fun k=>listed.getD k false) j:=by
    funext k
    unfold upd;by_cases hk:k=j
    ·subst hk;simp[aji,hjl]
    ·have:(k == j)=false:=by simpa using hk
     simp only[this,Bool.false_or];rw[aji,aji,Array.getElem?_setIfInBounds_ne (Ne.symm hk)]
   rw[this];exact hI'
  ·rw[aji,Array.getElem?_eq_getElem hjl,Option.getD_some,h0']
theorem rX{id:Nat}{l:List Oper}{a:Act}{w:World}(hm:P.follows .mixedOrders=true)(jQ:ordered 0 l=true)(I:(Nat→Bool)→Act→World→Prop)
 (h0:I (fun _=>false) a w.drew) (hstep:tE P l.toArray I 0 l) (hend:∀ (L:Nat→Bool) (a:Act) (w:World),I L a w→(∀ i,i<l.length→L i=true)→Q .normal a w) :
 (Code.region id l.toArray true).wp P Q a w:=by
 refine wp_region_any hm (Df I (fun i o ho e he hb=>?_) (fun i o ho L a w hI hL ha=>?_) (fun L a w hI hL=>hend L a w hI (by simpa using hL)) _ _ a _ (by simp) ?_ ?_)
 ·have:=mL 0 l jQ i o (by simpa using ho) e he hb;omega
 ·refine D3 ho fun Q' hQ'=>?_
  have:=FY 0 l hstep i o (by simpa using ho) L a w Q' hI (by simpa using hL) ha (by simpa using hQ');exact this
 ·exact Nat.le_trans (List.count_le_length ..) (by simp)
 ·have:(fun j=>(Array.replicate l.toArray.size false).getD j false)=fun _=>false:=by
   funext j
   rw[aji,Array.getElem?_replicate];split<;>rfl
  rw[this];exact h0
end
end Go.Proofs.YtkkmjdceiocnbaaGreatDoor
namespace Go.Proofs.YtkkmjdceiocnbaaGreatDoor
open Go.RowKit
structure Fq (slots:List Nat) (cF:List (Value→World→Prop)) (inv:World→Prop) (t:Array Value) (d:List Deferred) (L:Nat→Bool) (a:Act) (w:World):Prop where
 defers:a.defers=d
 inv:inv w
 done:∀ i,L i=true→∀ s g,slots[i]?=some s→cF[i]?=some g→∃ v,a.tmps[s]?=some v∧g v w
 rest:∀ j,slots.contains j=false→a.tmps[j]?=t[j]?
 size:a.tmps.size=t.size
def qg(g:Value→World→Prop):Prop:=∀ v w w',g v w→Below w.heap.size w w'→g v w'
def tD:List (Value→World→Prop)→Prop
 | []=>True
 | g::r=>qg g∧tD r
theorem DB:∀ {l:List (Value→World→Prop)},tD l→∀ g∈l,qg g
 | [],_,_,h=>by cases h
 | x::r,h,g,hg=>by
  rcases ai_.1 hg with rfl|hg
  ·exact h.1
  ·exact DB h.2 g hg
def S2(x:Value):Value→World→Prop:=fun v _=>x=v
theorem GD(x:Value):qg (S2 x):=fun _ _ _ h _=>h
theorem vh{l:List Nat}(h:l.Nodup){i j s:Nat}(hi:l[i]?=some s)(hj:l[j]?=some s):i=j:=by
 obtain⟨hi1,hi2⟩:=ai9.1 hi;obtain⟨hj1,hj2⟩:=ai9.1 hj;have hp:=List.pairwise_iff_getElem.1 h;rcases Nat.lt_trichotomy i j with hlt|he|hlt
 ·exact absurd (hi2.trans hj2.symm) (hp i j hi1 hj1 hlt)
 ·exact he
 ·exact absurd (hj2.trans hi2.symm) (hp j i hj1 hi1 hlt)
def Laid(d:List Deferred)(w:World)(a:Act):List (Option Nat)→List (Value→World→Prop)→Array Value→Prop
 | some s::ss,g::gs,t=>∃ u,g u w∧Laid d w a ss gs (t.setIfInBounds s u)
 | none::ss,g::gs,t=>∃ u,g u w∧Laid d w a ss gs t
 | _,_,t=>a=⟨t,d⟩
structure Hy (slots:List (Option Nat)) (cF:List (Value→World→Prop)) (inv:World→Prop) (t:Array Value) (d:List Deferred) (L:Nat→Bool) (a:Act) (w:World):Prop where
 defers:a.defers=d
 inv:inv w
 done:∀ i,L i=true→∀ g,cF[i]?=some g→∃ v,(∀ s,slots[i]?=some (some s)→a.tmps[s]?=some v)∧g v w
 rest:∀ j,slots.contains (some j)=false→a.tmps[j]?=t[j]?
 size:a.tmps.size=t.size
theorem AP{d:List Deferred}{w:World}{a:Act}(hd:a.defers=d):∀ (slots:List (Option Nat)) (cF:List (Value→World→Prop)) (t:Array Value),slots.length=cF.length →
 (∀ (i:Nat) (g:Value→World→Prop),cF[i]?=some g→∃ v,(∀ s,slots[i]?=some (some s)→a.tmps[s]?=some v)∧g v w)→(∀ j,slots.contains (some j)=false→a.tmps[j]?=t[j]?)→a.tmps.size=t.size→Laid d w a slots cF t
 | [],[],t,_,_,hr,_=>by
  show a=⟨t,d⟩;obtain⟨at',ad⟩:=a;have e1:at'=t:=Array.ext_getElem? fun j=>hr j rfl
  have e2:ad=d:=hd;rw[e1,e2]
 | none::ss,g::gs,t,hl,hg,hr,hs=>by
  obtain⟨u,_,Cd⟩:=hg 0 g rfl;refine⟨u,Cd,AP hd ss gs _ (by simpa using hl) (fun i g' h2=>?_) (fun j hj=>hr j ?_) hs⟩
  ·obtain⟨v,h3,h4⟩:=hg (i+1) g' (by simpa using h2);exact⟨v,fun s' h1=>h3 s' (by simpa using h1),h4⟩
  ·simp only[List.contains_cons,hj,Bool.or_false];rfl
 | some s::ss,g::gs,t,hl,hg,hr,hs=>by
  obtain⟨u,hu,Cd⟩:=hg 0 g rfl;have hu:=hu s rfl;refine⟨u,Cd,AP hd ss gs _ (by simpa using hl) (fun i g' h2=>?_) (fun j hj=>?_) (by rw[Array.size_setIfInBounds];exact hs)⟩
  ·obtain⟨v,h3,h4⟩:=hg (i+1) g' (by simpa using h2);exact⟨v,fun s' h1=>h3 s' (by simpa using h1),h4⟩
  ·by_cases h:s=j
   ·subst h;have hlt:s<a.tmps.size:=(Array.getElem?_eq_some_iff.1 hu).1;rw[hu,Array.getElem?_setIfInBounds_self_of_lt (by omega)]
   ·rw[Array.getElem?_setIfInBounds_ne h];refine hr j ?_;have h1:¬ j=s:=fun e=>h e.symm
    simp only[List.contains_cons,hj,Bool.or_false];simpa using h1
 | [],_::_,_,hl,_,_,_=>by simp at hl
 | _::_,[],_,hl,_,_,_=>by simp at hl
theorem Hy.laid{slots:List (Option Nat)}{cF:List (Value→World→Prop)}{inv:World→Prop}{t:Array Value}{d:List Deferred}{L:Nat→Bool}{a:Act}{w:World}(h:Hy slots cF inv t d L a w)(hl:slots.length=cF.length)
 (hL:∀ i,i<slots.length→L i=true):Laid d w a slots cF t:=
 AP h.defers slots cF t hl (fun i g h2=>h.done i (hL i (by rw[hl];exact(ai9.1 h2).1)) g h2) h.rest h.size
theorem BM{l:List (Option Nat)}(h:(l.filterMap fun x=>x).Nodup):∀ {i j s:Nat},l[i]?=some (some s)→l[j]?=some (some s)→i=j:=by
 induction l with
 | nil=>intro i j s hi;simp at hi
 | cons x l ih=>
  have key:∀ {j s:Nat},x=some s→l[j]?=some (some s)→False:=by
   intro j s hx hj;subst hx;simp only[List.filterMap_cons,List.nodup_cons] at h;exact h.1 (List.mem_filterMap.2 ⟨some s,aje hj,rfl⟩)
  have h':(l.filterMap fun x=>x).Nodup:=by
   cases x with
   | none=>simpa[List.filterMap_cons] using h
   | some s=>simp only[List.filterMap_cons,List.nodup_cons] at h;exact h.2
  intro i j s hi hj
  cases i with
  | zero=>
   cases j with
   | zero=>rfl
   | succ j=>exact(key (by simpa using hi) (by simpa using hj)).elim
  | succ i=>
   cases j with
   | zero=>exact(key (by simpa using hj) (by simpa using hi)).elim
   | succ j=>exact congrArg (·+1) (ih h' (by simpa using hi) (by simpa using hj))
theorem Hy.put{slots:List (Option Nat)}{cF:List (Value→World→Prop)}{inv:World→Prop}{t:Array Value}{d:List Deferred}{L:Nat→Bool}{a:Act}{w w':World}{i:Nat}{s:Option Nat}{v:Value}(h:Hy slots cF inv t d L a w)
 (hnd:(slots.filterMap fun x=>x).Nodup) (hbd:slots.all (fun s=>decide (s.getD 0<t.size))=true) (hst:∀ (j:Nat) (g:Value→World→Prop),cF[j]?=some g→j≠i→∀ v,g v w→g v w') {Qp:World→Prop} (hinv:Qp w') (hs:slots[i]?=some s) (hg:∀ g:Value→World→Prop,cF[i]?=some g→g v w')
 {L':Nat→Bool} (hL:∀ j,L' j=true→j=i∨L j=true):Hy slots cF Qp t d L' (a.put s v) w':=by
 cases s with
 | none=>
  refine⟨h.defers,hinv,?_,h.rest,h.size⟩;intro j hj g' hg';by_cases hji:j=i
  ·subst hji;exact⟨v,fun s' hs'=>(by rw[hs] at hs';cases hs'),hg g' hg'⟩
  ·obtain⟨u,hu,Cd⟩:=h.done j ((hL j hj).resolve_left hji) g' hg';exact⟨u,hu,hst j g' hg' hji u Cd⟩
 | some s=>
  refine⟨h.defers,hinv,?_,?_,?_⟩
  ·intro j hj g' hg';by_cases hji:j=i
   ·subst hji;refine⟨v,fun s' hs'=>?_,hg g' hg'⟩;obtain rfl:s=s':=ajd (ajd (hs.symm.trans hs'))
    have hlt:s<a.tmps.size:=by
     rw[h.size];have:=ajg.1 hbd (some s) (aje hs);simpa using this
    show(a.tmps.setIfInBounds s v)[s]?=some v;rw[Array.getElem?_setIfInBounds_self_of_lt hlt]
   ·obtain⟨u,hu,Cd⟩:=h.done j ((hL j hj).resolve_left hji) g' hg';refine⟨u,fun s' hs'=>?_,hst j g' hg' hji u Cd⟩;have hne:s≠s':=fun e=>hji (BM hnd (e▸hs') hs)
    show(a.tmps.setIfInBounds s v)[s']?=some u;rw[Array.getElem?_setIfInBounds_ne hne];exact hu s' hs'
  ·intro j hj
   have hne:s≠j:=fun e=>by
    have hm:some j∈slots:=e▸aje hs;have:slots.contains (some j)=true:=by simpa using hm
    rw[this] at hj;cases hj
   show(a.tmps.setIfInBounds s v)[j]?=t[j]?;rw[Array.getElem?_setIfInBounds_ne hne];exact h.rest j hj
  ·show(a.tmps.setIfInBounds s v).size=t.size;rw[Array.size_setIfInBounds];exact h.size
def consumed(l:List Oper):Bool:=(List.range (l.length-1)).all fun i=>l.any fun o=>o.after.toList.any fun e=>e.on == i&&Region.binds .any e
theorem Ko{l:List Oper}(jQ:ordered 0 l=true)(hc:consumed l=true)(L:Nat→Bool){n:Nat}(hn:l.length=n+1)
 (hcl:∀ j o,l[j]?=some o→j<n→L j=true→∀ e∈o.after.toList,Region.binds .any e=true→L e.on=true) (hlast:∀ o,l[n]?=some o→∀ e∈o.after.toList,Region.binds .any e=true→L e.on=true) :
 ∀ i,i<n→L i=true:=by
 have key:∀ m i,i<n→n-i=m→L i=true:=by
  intro m
  induction m using Nat.strongRecOn with
  | ind m ih=>
   intro i hi hm;have h1:=ajg.1 hc i (by simp;omega);obtain⟨o,ho,h2⟩:=List.any_eq_true.1 h1;obtain⟨e,he,h3⟩:=List.any_eq_true.1 h2;simp only[ai3,beq_iff_eq] at h3;obtain⟨rfl,hb⟩:=h3;obtain⟨j,hj⟩:=List.getElem?_of_mem ho;have hlt:=mL 0 l jQ j o hj e he hb;have hjn:j<n+1:=by rw[← hn];exact(ai9.1 hj).1
   by_cases hje:j=n
   ·subst hje;exact hlast o hj e he hb
   ·exact hcl j o hj (by omega) (ih (n-j) (by omega) j (by omega) rfl) e he hb
 exact fun i hi=>key _ i hi rfl
abbrev Gd:=(Nat→Bool)→Value→World→Prop
def LZ(L:Nat→Bool)(d:List Deferred)(w:World)(a:Act):List (Option Nat)→List Gd→Array Value→Prop
 | some s::ss,g::gs,t=>∃ u,g L u w∧LZ L d w a ss gs (t.setIfInBounds s u)
 | none::ss,g::gs,t=>∃ u,g L u w∧LZ L d w a ss gs t
 | _,_,t=>a=⟨t,d⟩
structure Hx (slots:List (Option Nat)) (cF:List Gd) (inv:World→Prop) (t:Array Value) (d:List Deferred) (L:Nat→Bool) (a:Act) (w:World):Prop where
 defers:a.defers=d
 inv:inv w
 done:∀ i,L i=true→i<slots.length→∀ g,cF[i]?=some g→∃ v,(∀ s,slots[i]?=some (some s)→a.tmps[s]?=some v)∧g L v w
 rest:∀ j,slots.contains (some j)=false→a.tmps[j]?=t[j]?
 size:a.tmps.size=t.size
theorem BS{L:Nat→Bool}{d:List Deferred}{w:World}{a:Act}(hd:a.defers=d):∀ (slots:List (Option Nat)) (cF:List Gd) (t:Array Value),slots.length=cF.length →
 (∀ (i:Nat) (g:Gd),cF[i]?=some g→∃ v,(∀ s,slots[i]?=some (some s)→a.tmps[s]?=some v)∧g L v w)→(∀ j,slots.contains (some j)=false→a.tmps[j]?=t[j]?)→a.tmps.size=t.size→LZ L d w a slots cF t
 | [],[],t,_,_,hr,_=>by
  show a=⟨t,d⟩;obtain⟨at',ad⟩:=a;have e1:at'=t:=Array.ext_getElem? fun j=>hr j rfl
  have e2:ad=d:=hd;rw[e1,e2]
 | none::ss,g::gs,t,hl,hg,hr,hs=>by
  obtain⟨u,_,Cd⟩:=hg 0 g rfl;refine⟨u,Cd,BS hd ss gs _ (by simpa using hl) (fun i g' h2=>?_) (fun j hj=>hr j ?_) hs⟩
  ·obtain⟨v,h3,h4⟩:=hg (i+1) g' (by simpa using h2);exact⟨v,fun s' h1=>h3 s' (by simpa using h1),h4⟩
  ·simp only[List.contains_cons,hj,Bool.or_false];rfl
 | some s::ss,g::gs,t,hl,hg,hr,hs=>by
  obtain⟨u,hu,Cd⟩:=hg 0 g rfl;have hu:=hu s rfl;refine⟨u,Cd,BS hd ss gs _ (by simpa using hl) (fun i g' h2=>?_) (fun j hj=>?_) (by rw[Array.size_setIfInBounds];exact hs)⟩
  ·obtain⟨v,h3,h4⟩:=hg (i+1) g' (by simpa using h2);exact⟨v,fun s' h1=>h3 s' (by simpa using h1),h4⟩
  ·by_cases h:s=j
   ·subst h;have hlt:s<a.tmps.size:=(Array.getElem?_eq_some_iff.1 hu).1;rw[hu,Array.getElem?_setIfInBounds_self_of_lt (by omega)]
   ·rw[Array.getElem?_setIfInBounds_ne h];refine hr j ?_;have h1:¬ j=s:=fun e=>h e.symm
    simp only[List.contains_cons,hj,Bool.or_false];simpa using h1
 | [],_::_,_,hl,_,_,_=>by simp at hl
 | _::_,[],_,hl,_,_,_=>by simp at hl
theorem Hx.laid{slots:List (Option Nat)}{cF:List Gd}{inv:World→Prop}{t:Array Value}{d:List Deferred}{L:Nat→Bool}{a:Act}{w:World}(h:Hx slots cF inv t d L a w)(hl:slots.length=cF.length)
 (hL:∀ i,i<slots.length→L i=true):LZ L d w a slots cF t:=
 BS h.defers slots cF t hl (fun i g h2=>h.done i (hL i (by rw[hl];exact(ai9.1 h2).1)) (by rw[hl];exact(ai9.1 h2).1) g h2) h.rest h.size
theorem Hx.put{slots:List (Option Nat)}{cF:List Gd}{inv:World→Prop}{t:Array Value}{d:List Deferred}{L:Nat→Bool}{a:Act}{w w':World}{i:Nat}{s:Option Nat}{v:Value}{L':Nat→Bool}(h:Hx slots cF inv t d L a w)
 (hnd:(slots.filterMap fun x=>x).Nodup) (hbd:slots.all (fun s=>decide (s.getD 0<t.size))=true) (hst:∀ (j:Nat) (g:Gd),cF[j]?=some g→j≠i→L j=true→∀ v,(∀ s,slots[j]?=some (some s)→a.tmps[s]?=some v)→g L v w→g L' v w') {Qp:World→Prop} (hinv:Qp w') (hs:slots[i]?=some s) (hg:∀ g:Gd,cF[i]?=some g→g L' v w')
 (hL:∀ j,L' j=true→j=i∨L j=true):Hx slots cF Qp t d L' (a.put s v) w':=by
 cases s with
 | none=>
  refine⟨h.defers,hinv,?_,h.rest,h.size⟩;intro j hj hjl g' hg';by_cases hji:j=i
  ·subst hji;exact⟨v,fun s' hs'=>(by rw[hs] at hs';cases hs'),hg g' hg'⟩
  ·obtain⟨u,hu,Cd⟩:=h.done j ((hL j hj).resolve_left hji) hjl g' hg';exact⟨u,hu,hst j g' hg' hji ((hL j hj).resolve_left hji) u hu Cd⟩
 | some s=>
  refine⟨h.defers,hinv,?_,?_,?_⟩
  ·intro j hj hjl g' hg';by_cases hji:j=i
   ·subst hji;refine⟨v,fun s' hs'=>?_,hg g' hg'⟩;obtain rfl:s=s':=ajd (ajd (hs.symm.trans hs'))
    have hlt:s<a.tmps.size:=by
     rw[h.size];have:=ajg.1 hbd (some s) (aje hs);simpa using this
    show(a.tmps.setIfInBounds s v)[s]?=some v;rw[Array.getElem?_setIfInBounds_self_of_lt hlt]
   ·obtain⟨u,hu,Cd⟩:=h.done j ((hL j hj).resolve_left hji) hjl g' hg';refine⟨u,fun s' hs'=>?_,hst j g' hg' hji ((hL j hj).resolve_left hji) u hu Cd⟩;have hne:s≠s':=fun e=>hji (BM hnd (e▸hs') hs)
    show(a.tmps.setIfInBounds s v)[s']?=some u;rw[Array.getElem?_setIfInBounds_ne hne];exact hu s' hs'
  ·intro j hj
   have hne:s≠j:=fun e=>by
    have hm:some j∈slots:=e▸aje hs;have:slots.contains (some j)=true:=by simpa using hm
    rw[this] at hj;cases hj
   show(a.tmps.setIfInBounds s v)[j]?=t[j]?;rw[Array.getElem?_setIfInBounds_ne hne];exact h.rest j hj
  ·show(a.tmps.setIfInBounds s v).size=t.size;rw[Array.size_setIfInBounds];exact h.size
end Go.Proofs.YtkkmjdceiocnbaaGreatDoor
namespace Go.Proofs.YtkkmjdceiocnbaaGreatDoor
open Go Go.RowKit
def fA(n:Nat):Prop:=n<18446744073709551616
structure aE where
 a:Nat
 b:Nat
 c:Nat
 d:Nat
deriving DecidableEq
def aE.cells(s:aE):List Value:=[.int .u64 s.a,.int .u64 s.b,.int .u64 s.c,.int .u64 s.d]
structure aE.Ok (s:aE):Prop where
 a:fA s.a
 b:fA s.b
 c:fA s.c
 d:fA s.d
def aE.word(s:aE)(i:Nat):Nat:=if i=0 then s.a else if i=1 then s.b else if i=2 then s.c else s.d
def aE.put(s:aE)(i x:Nat):aE:=if i=0 then ⟨x,s.b,s.c,s.d⟩ else if i=1 then ⟨s.a,x,s.c,s.d⟩ else if i=2 then ⟨s.a,s.b,x,s.d⟩ else ⟨s.a,s.b,s.c,x⟩
def aE.has(s:aE)(n:Nat):Bool:=(s.word (n/64)).testBit (n%64)
def aE.mem(s:aE)(n:Int):Bool:=decide (0≤n∧n<256)&&s.has n.toNat
def aE.add(s:aE)(n:Nat):aE:=s.put (n/64) (s.word (n/64)|||2^(n%64))
def aE.with(s:aE)(n:Int):aE:=if 0≤n∧n<256 then s.add n.toNat else s
def aE.zero:aE:=⟨0,0,0,0⟩
theorem aE.Ak{s:aE}(h:s.Ok)(i:Nat):fA (s.word i):=by
 unfold aE.word;split
 ·exact h.a
 ·split
  ·exact h.b
  ·split
   ·exact h.c
   ·exact h.d
theorem aE.Ve{s:aE}(h:s.Ok)(i:Nat){x:Nat}(hx:fA x):(s.put i x).Ok:=by
 unfold aE.put;split
 ·exact⟨hx,h.b,h.c,h.d⟩
 ·split
  ·exact⟨h.a,hx,h.c,h.d⟩
  ·split
   ·exact⟨h.a,h.b,hx,h.d⟩
   ·exact⟨h.a,h.b,h.c,hx⟩
theorem ze{j:Nat}(h:j<64):fA (2^j):=Nat.pow_lt_pow_right (by decide) h
theorem Yg{x y:Nat}(hx:fA x)(hy:fA y):fA (x|||y):=Nat.or_lt_two_pow (n:=64) hx hy
theorem aE.W7{s:aE}(h:s.Ok)(n:Nat):(s.add n).Ok:=aE.Ve h _ (Yg (aE.Ak h _) (ze (Nat.mod_lt _ (by decide))))
theorem aE.RS{s:aE}(h:s.Ok)(n:Int):(s.with n).Ok:=by
 unfold aE.with
 split
 ·exact aE.W7 h _
 ·exact h
theorem xI{x y:Nat}(hx:fA x)(hy:fA y)(h:∀ j,j<64→x.testBit j=y.testBit j):x=y:=by
 refine Nat.eq_of_testBit_eq fun j=>?_
 by_cases hj:j<64
 ·exact h j hj
 ·have e:∀ {z:Nat},fA z→z.testBit j=false:=fun {z} hz=>Nat.testBit_lt_two_pow (ajh hz (Nat.pow_le_pow_right (n:=2) (by decide) (by omega:64≤j)))
  rw[e hx,e hy]
theorem aE.ext{s t:aE}(hs:s.Ok)(ht:t.Ok)(h:∀ n,n<256→s.has n=t.has n):s=t:=by
 have key:∀ i,i<4→s.word i=t.word i:=fun i hi=>xI (aE.Ak hs i) (aE.Ak ht i) fun j hj=>by
  have:=h (i*64+j) (by omega);unfold aE.has at this
  rwa [show(i*64+j)/64=i by omega,show(i*64+j)%64=j by omega] at this
 have h0:=key 0 (by decide);have h1:=key 1 (by decide);have h2:=key 2 (by decide);have h3:=key 3 (by decide);obtain⟨a,b,c,d⟩:=s;obtain⟨a',b',c',d'⟩:=t;simp[aE.word] at h0 h1 h2 h3;subst h0 h1 h2 h3;rfl
theorem R7{x j:Nat}(hx:fA x):(bits BinOp.and IntKind.u64 ((x:Int)/2^j) 1 == 1)=x.testBit j:=by
 have e:(x:Int)/2^j=((x/2^j:Nat):Int):=by simp
 have hlt:x/2^j<18446744073709551616:=Nat.lt_of_le_of_lt (Nat.div_le_self _ _) hx;rw[e];have h:=bits_and_u64_nat (x/2^j) 1 hlt (by decide);rw[show((1:Nat):Int)=1 from rfl] at h;rw[h];rw[Nat.testBit_eq_decide_div_mod_eq,Nat.and_one_is_mod];rcases Nat.mod_two_eq_zero_or_one (x/2^j) with h|h<;>rw[h]<;>rfl
theorem uO{j:Nat}(h:j<64):IntKind.u64.wrap (2^j)=((2^j:Nat):Int):=by
 have h1:=ze h;unfold fA at h1;rw[show(2:Int)^j=((2^j:Nat):Int) by simp,IntKind.wrap_u64];generalize 2^j=y at h1 ⊢;omega
theorem Nf(w:World)(n:Int)(hn:¬ 0≤n):Calls Tryz.prog 330 #[.int .i64 n] w fun e w'=>e=.returned (.bool false)∧w=w':=by
 go_enter Tryz.func330,Tryz.ntmps330
 go_wp2
 go_ret
 exact⟨rfl,rfl⟩
theorem Ng(w:World)(n:Int)(h0:0≤n)(hn:¬ n<256):Calls Tryz.prog 330 #[.int .i64 n] w fun e w'=>e=.returned (.bool false)∧w=w':=by
 go_enter Tryz.func330,Tryz.ntmps330
 go_wp2
 go_ret
 exact⟨rfl,rfl⟩
theorem Jz(w:World)(n:Int)(h0:0≤n)(hn:n<256):Calls Tryz.prog 330 #[.int .i64 n] w fun e w'=>e=.returned (.bool true)∧w=w':=by
 go_enter Tryz.func330,Tryz.ntmps330
 go_wp2
 go_ret
 exact⟨rfl,rfl⟩
def Tl(s:aE)(k:Nat):List Nat:=(List.range k).filter s.has
def elems(s:aE):List Nat:=Tl s 256
structure bY where
 kind:Int
 src:aE
 tgt:aE
 self:Bool
 cls:Int
 perms:Int
 cond:Int
structure bY.Ok (r:bY):Prop where
 src:r.src.Ok
 tgt:r.tgt.Ok
def bY.cells(r:bY):List Value:=[.int .i64 r.kind,.int .u64 r.src.a,.int .u64 r.src.b,.int .u64 r.src.c,.int .u64 r.src.d,.int .u64 r.tgt.a,.int .u64 r.tgt.b,.int .u64 r.tgt.c,.int .u64 r.tgt.d,.bool r.self,.int .i64 r.cls,.int .u32 r.perms,.int .i64 r.cond]
end Go.Proofs.YtkkmjdceiocnbaaGreatDoor
namespace Go.Proofs.YtkkmjdceiocnbaaGreatDoor
open Go Go.RowKit Go.WideMaps
structure ot where
 src:Int
 tgt:Int
 cls:Int
 cond:Int
 allow:Int
 wK:Int
 dont:Int
deriving DecidableEq
def ot.cells(x:ot):List Value:=[.int .i64 x.src,.int .i64 x.tgt,.int .i64 x.cls,.int .i64 x.cond,.int .u32 x.allow,.int .u32 x.wK,.int .u32 x.dont]
theorem VW:B_ (Tryz.prog.info? 59) 1 8=true:=by kernel_rfl
theorem ZT:Tryz.prog.cellsOf 59=1:=by kernel_rfl
theorem eqw(d:Nat)(a b:Int)(w:World):(Op.equalIn (d+1) 59 (.int .u64 a) (.int .u64 b)).run Tryz.prog w=.ok (decide (a=b)) w:=by
 by_cases h:a=b<;>simp[Op.equalIn,run_underlying Tryz.underlying59,h]
theorem Zn(a b:Int)(w:World):(Op.equalIn 9999 59 (.int .u64 a) (.int .u64 b)).run Tryz.prog w=.ok (decide (a=b)) w:=eqw 9998 a b w
theorem WC(x0 x1 x2 x3 y0 y1 y2 y3:Int)(w:World):(Op.equalIn 10000 77 (.agg #[.int .u64 x0,.int .u64 x1,.int .u64 x2,.int .u64 x3]) (.agg #[.int .u64 y0,.int .u64 y1,.int .u64 y2,.int .u64 y3])).run Tryz.prog w=.ok (decide (x0=y0∧x1=y1∧x2=y2∧x3=y3)) w:=by
 obtain⟨i0,z,hi,_⟩:=zo VW;rw[show(10000:Nat)=9999+1 from rfl,run_equalIn_array w 9999 _ _ Tryz.underlying77 hi,ZT];have p0:∀ x0 x1 x2 x3:Int,(part 59 #[.int .u64 x0,.int .u64 x1,.int .u64 x2,.int .u64 x3] (0*1)).run Tryz.prog w=.ok (.int .u64 x0) w:=fun x0 x1 x2 x3=>by kernel_rfl
 have p1:∀ x0 x1 x2 x3:Int,(part 59 #[.int .u64 x0,.int .u64 x1,.int .u64 x2,.int .u64 x3] (1*1)).run Tryz.prog w=.ok (.int .u64 x1) w:=fun x0 x1 x2 x3=>by kernel_rfl
 have p2:∀ x0 x1 x2 x3:Int,(part 59 #[.int .u64 x0,.int .u64 x1,.int .u64 x2,.int .u64 x3] (2*1)).run Tryz.prog w=.ok (.int .u64 x2) w:=fun x0 x1 x2 x3=>by kernel_rfl
 have p3:∀ x0 x1 x2 x3:Int,(part 59 #[.int .u64 x0,.int .u64 x1,.int .u64 x2,.int .u64 x3] (3*1)).run Tryz.prog w=.ok (.int .u64 x3) w:=fun x0 x1 x2 x3=>by kernel_rfl
 rw[show List.range 4=[0,1,2,3] from rfl];simp only[Op.eqItems,ai7,p0,Result.andThen_ok,Zn];by_cases h0:x0=y0<;>by_cases h1:x1=y1<;>by_cases h2:x2=y2<;>by_cases h3:x3=y3<;>simp[h0,h1,h2,h3,ai7,p1,p2,p3,Zn]
theorem zA{xs ys:Array Value}{W:World}{d:Nat}:∀ (fs:List Field) (rs:List Bool),fs.length=rs.length→(fs.all fun f=>f.name != "_")=true→(∀ (i:Nat) (f:Field) (r:Bool),fs[i]?=some f→rs[i]?=some r→∃ x y,(part f.type xs f.offset).run Tryz.prog W=.ok x W∧(part f.type ys f.offset).run Tryz.prog W=.ok y W∧(Op.equalIn d f.type x y).run Tryz.prog W=.ok r W)→(Op.eqFields d xs ys fs).run Tryz.prog W=.ok (rs.all id) W
 | [],[],_,_,_=>rfl
 | f::fs,r::rs,hl,hn,h=>by
  obtain⟨x,y,h1,h2,h3⟩:=h 0 f r rfl rfl;have ih:=zA fs rs (by simpa using hl) (by simp at hn;simpa using hn.2) fun i g s hg hs=>h (i+1) g s (by simpa using hg) (by simpa using hs)
  unfold Op.eqFields;have hne:f.name≠ "_":=by simp at hn;exact hn.1
  rw[if_pos hne];simp only[ai7,h1,h2,h3,Result.andThen_ok]
  cases r with
  | false=>simp
  | true=>simpa using ih
 | [],_::_,h,_,_=>by simp at h
 | _::_,[],h,_,_=>by simp at h
end Go.Proofs.YtkkmjdceiocnbaaGreatDoor
namespace Go.Proofs.YtkkmjdceiocnbaaGreatDoor
open Go Go.RowKit
def Ho(a b:Int):Int:=if a<b then -1 else if b<a then 1 else 0
theorem NH{a b:Int}:Ho a b=0↔a=b:=by
 unfold Ho;split
 ·constructor<;>intro h<;>omega
 ·split
  ·constructor<;>intro h<;>omega
  ·constructor<;>intro h<;>omega
theorem yQ{a b:Int}:Ho a b<0↔a<b:=by
 unfold Ho;split
 ·constructor<;>intro h<;>omega
 ·split
  ·constructor<;>intro h<;>omega
  ·constructor<;>intro h<;>omega
def orI:List Int→Int
 | []=>0
 | x::l=>if x=0 then orI l else x
def pP(w w':World):Prop:=∃ q os,w'=Sort.grow (w.drewN q) os
theorem pP.refl(w:World):pP w w:=⟨0,#[],by rw[Sort.grow_empty];rfl⟩
theorem pP.drewN{w w':World}(h:pP w w')(n:Nat):pP w (w'.drewN n):=by
 obtain⟨q,os,rfl⟩:=h;exact⟨q+n,os,by simp[Sort.grow,World.drewN,Nat.add_assoc]⟩
theorem pP.drew{w w':World}(h:pP w w'):pP w w'.drew:=h.drewN 1
theorem pP.alloc{w w':World}(h:pP w w')(o:Obj):pP w (w'.alloc o):=by
 obtain⟨q,os,rfl⟩:=h;exact⟨q,os++#[o],by rw[Sort.alloc_eq_grow,Sort.grow_grow]⟩
theorem pP.trans{a b c:World}(h:pP a b)(k:pP b c):pP a c:=by
 obtain⟨q,os,rfl⟩:=k;obtain⟨q',os',h'⟩:=h.drewN q;exact⟨q',os'++os,by rw[h',Sort.grow_grow]⟩
theorem pP.below{w w':World}(h:pP w w'):Below w.heap.size w w':=by
 obtain⟨q,os,rfl⟩:=h;refine⟨rfl,rfl,rfl,by simp[Sort.grow,World.drewN],fun k hk=>?_⟩;show(w.heap++os)[k]?=w.heap[k]?;exact Array.getElem?_append_left hk
def A9(x y:ot):Int:=orI [Ho x.src y.src,Ho x.tgt y.tgt,Ho x.cls y.cls,Ho x.cond y.cond]
def aE.least(s:aE):Int:=match (elems s).head? with
 | some n=>(n:Int)
 | none=>-1
theorem Kv:aE.zero.Ok:=by constructor<;>(show(0:Nat)<18446744073709551616;decide)
structure tH where
 allow:Int
 wK:Int
 dont:Int
deriving DecidableEq
def tH.or(u v:tH):tH:=⟨bits .or .u32 u.allow v.allow,bits .or .u32 u.wK v.wK,bits .or .u32 u.dont v.dont⟩
end Go.Proofs.YtkkmjdceiocnbaaGreatDoor
namespace Go.Proofs.YtkkmjdceiocnbaaGreatDoor
open Go Go.Sort
instance:Inhabited ot:=⟨⟨0,0,0,0,0,0,0⟩⟩
theorem zk(x y:ot):ltOf A9 x y=decide (x.src<y.src∨x.src=y.src∧(x.tgt<y.tgt∨x.tgt=y.tgt∧(x.cls<y.cls∨x.cls=y.cls∧x.cond<y.cond))):=by
 unfold ltOf A9;simp only[orI,NH];by_cases h0:x.src=y.src
 ·by_cases h1:x.tgt=y.tgt
  ·by_cases h2:x.cls=y.cls
   ·by_cases h3:x.cond=y.cond
    ·simp[h0,h1,h2,h3]
    ·simp[h0,h1,h2,h3,yQ]
   ·simp[h0,h1,h2,yQ]
  ·simp[h0,h1,yQ]
 ·simp[h0,yQ]
theorem Bs:SWO (ltOf A9) where
 irrefl x:=by rw[zk];simp
 trans x y z h1 h2:=by rw[zk] at *;simp at *;omega
 ntrans x y z h1 h2:=by rw[zk] at *;simp at *;omega
theorem Bz{α:Type}(lt:α→α→Prop)(hi:∀ x,¬ lt x x)(ht:∀ x y z,lt x y→lt y z→lt x z):∀ {a b:List α},a.Pairwise lt→b.Pairwise lt→(∀ x,x∈a↔x∈b)→a=b
 | [],[],_,_,_=>rfl
 | [],y::b,_,_,h=>by have:=(h y).2 (by simp);cases this
 | x::a,[],_,_,h=>by have:=(h x).1 (by simp);cases this
 | x::a,y::b,ha,hb,h=>by
  have ha':=List.pairwise_cons.1 ha;have hb':=List.pairwise_cons.1 hb
  have hxy:x=y:=by
   rcases ai_.1 ((h x).1 (by simp)) with e|e
   ·exact e
   ·rcases ai_.1 ((h y).2 (by simp)) with e'|e'
    ·exact e'.symm
    ·exact absurd (ht _ _ _ (ha'.1 _ e') (hb'.1 _ e)) (hi _)
  subst hxy;congr 1;refine Bz lt hi ht ha'.2 hb'.2 fun z=>⟨fun hz=>?_,fun hz=>?_⟩
  ·rcases ai_.1 ((h z).1 (ajb _ hz)) with e|e
   ·subst e;exact absurd (ha'.1 _ hz) (hi _)
   ·exact e
  ·rcases ai_.1 ((h z).2 (ajb _ hz)) with e|e
   ·subst e;exact absurd (hb'.1 _ hz) (hi _)
   ·exact e
structure Rt where
 src:Int
 tgt:Int
 cls:Int
 cond:Int
deriving DecidableEq
def ot.key(e:ot):Rt:=⟨e.src,e.tgt,e.cls,e.cond⟩
def ot.aa4(e:ot):tH:=⟨e.allow,e.wK,e.dont⟩
def tH.zero:tH:=⟨0,0,0⟩
instance:DecidableEq tH:=fun a b=>decidable_of_iff (a.allow=b.allow∧a.wK=b.wK∧a.dont=b.dont) (by cases a;cases b;simp)
def gA(a:Int):Prop:=-9223372036854775808≤a∧a<9223372036854775808
def z_(a:Int):Prop:=0≤a∧a<4294967296
structure Rt.Ok (k:Rt):Prop where
 src:gA k.src
 tgt:gA k.tgt
 cls:gA k.cls
 cond:gA k.cond
structure tH.Ok (v:tH):Prop where
 allow:z_ v.allow
 wK:z_ v.wK
 dont:z_ v.dont
def Rv(x y:ot):Prop:=ltOf A9 x y=true
theorem Rv.irrefl(x:ot):¬ Rv x x:=by unfold Rv;rw[Bs.irrefl];simp
theorem Rv.trans(x y z:ot):Rv x y→Rv y z→Rv x z:=Bs.trans x y z
structure Canon (f:Rt→tH) (l:List ot):Prop where
 ord:l.Pairwise Rv
 mem:∀ e,e∈l↔e.aa4=f e.key∧f e.key≠tH.zero
theorem Canon.uniq{f:Rt→tH}{a b:List ot}(ha:Canon f a)(hb:Canon f b):a=b:=
 Bz Rv Rv.irrefl Rv.trans ha.ord hb.ord fun x=>(ha.mem x).trans (hb.mem x).symm
theorem wrap32(n:Int):IntKind.u32.wrap n=n%4294967296:=by simp[IntKind.wrap,IntKind.signed,IntKind.bits]
theorem Gn(a b:Int):bits .or .u32 a b=((BitVec.ofInt 32 a|||BitVec.ofInt 32 b).toNat:Int):=by
 show IntKind.u32.wrap ((BitVec.ofInt 32 a|||BitVec.ofInt 32 b).toNat:Int)=_;have h:=(BitVec.ofInt 32 a|||BitVec.ofInt 32 b).isLt;rw[wrap32];omega
theorem UC(a b:Int):BitVec.ofInt 32 (bits .or .u32 a b)=BitVec.ofInt 32 a|||BitVec.ofInt 32 b:=by rw[Gn,BitVec.ofInt_natCast,BitVec.ofNat_toNat];simp
theorem zj(a b:Int):bits .or .u32 a b=bits .or .u32 b a:=by rw[Gn,Gn,BitVec.or_comm]
theorem Jh(a b c:Int):bits .or .u32 (bits .or .u32 a b) c=bits .or .u32 a (bits .or .u32 b c):=by rw[Gn,Gn a (bits .or .u32 b c),UC,UC,BitVec.or_assoc]
theorem tH.or_comm(u v:tH):u.or v=v.or u:=by simp only[tH.or,zj u.allow,zj u.wK,zj u.dont]
theorem tH.or_assoc(u v x:tH):(u.or v).or x=u.or (v.or x):=by simp only[tH.or,Jh]
theorem tH.Kv:tH.zero.Ok:=by constructor<;>exact⟨by decide,by decide⟩
end Go.Proofs.YtkkmjdceiocnbaaGreatDoor
namespace Go.Proofs.YtkkmjdceiocnbaaGreatDoor
open Go Go.ChangeAt Go.ChangeShapes Go.RowKit Go.WideShapes
def bW(s:ByteArray):Prop:=s.size≤140737488355328
def fU(n:Nat):Prop:=n≤140737488355328
structure CJ (l:List ByteArray):Prop where
 len:fU l.length
 all:∀ s∈l,bW s
structure iL where
 ak:Int
 cats:Nat
deriving DecidableEq
structure iL.Ok (x:iL):Prop where
 ak:gA x.ak
 cats:fA x.cats
def iL.cells(x:iL):List Value:=[.int .i64 x.ak,.int .u64 x.cats]
structure mS where
 low:iL
 high:iL
deriving DecidableEq
structure mS.Ok (x:mS):Prop where
 low:x.low.Ok
 high:x.high.Ok
def mS.cells(x:mS):List Value:=[.int .i64 x.low.ak,.int .u64 x.low.cats,.int .i64 x.high.ak,.int .u64 x.high.cats]
structure eG where
 user:Int
 role:Int
 typ:Int
 rng:mS
deriving DecidableEq
structure eG.Ok (x:eG):Prop where
 user:gA x.user
 role:gA x.role
 typ:gA x.typ
 rng:x.rng.Ok
def eG.cells(x:eG):List Value:=[.int .i64 x.user,.int .i64 x.role,.int .i64 x.typ,.int .i64 x.rng.low.ak,.int .u64 x.rng.low.cats,.int .i64 x.rng.high.ak,.int .u64 x.rng.high.cats]
inductive aS where
 | node (op a rel b:Int) (names:List ByteArray) (set:aE) (kids:List aS)
def aS.op:aS→Int|.node o _ _ _ _ _ _=>o
def aS.a:aS→Int|.node _ a _ _ _ _ _=>a
def aS.rel:aS→Int|.node _ _ r _ _ _ _=>r
def aS.b:aS→Int|.node _ _ _ b _ _ _=>b
def aS.names:aS→List ByteArray|.node _ _ _ _ n _ _=>n
def aS.set:aS→aE|.node _ _ _ _ _ s _=>s
def aS.kids:aS→List aS|.node _ _ _ _ _ _ k=>k
inductive aS.Ok:aS→Prop
 | node {op a rel b:Int} {names:List ByteArray} {set:aE} {kids:List aS}:gA op→gA a→gA rel→gA b→CJ names→set.Ok→fU kids.length→(∀ k∈kids,aS.Ok k)→aS.Ok (.node op a rel b names set kids)
structure bY.oo (x:bY):Prop where
 kind:gA x.kind
 src:x.src.Ok
 tgt:x.tgt.Ok
 cls:gA x.cls
 perms:z_ x.perms
 cond:gA x.cond
structure fH where
 name:ByteArray
 types:aE
deriving DecidableEq
structure fH.Ok (x:fH):Prop where
 name:bW x.name
 types:x.types.Ok
def fH.cells(x:fH):List Value:=[.string x.name,.int .u64 x.types.a,.int .u64 x.types.b,.int .u64 x.types.c,.int .u64 x.types.d]
structure dI where
 name:ByteArray
 types:aE
 next:aE
deriving DecidableEq
structure dI.Ok (x:dI):Prop where
 name:bW x.name
 types:x.types.Ok
 next:x.next.Ok
def dI.cells(x:dI):List Value:=[.string x.name,.int .u64 x.types.a,.int .u64 x.types.b,.int .u64 x.types.c,.int .u64 x.types.d,.int .u64 x.next.a,.int .u64 x.next.b,.int .u64 x.next.c,.int .u64 x.next.d]
structure fq where
 name:ByteArray
 roles:aE
 dflt:iL
 rng:mS
deriving DecidableEq
structure fq.Ok (x:fq):Prop where
 name:bW x.name
 roles:x.roles.Ok
 dflt:x.dflt.Ok
 rng:x.rng.Ok
def fq.cells(x:fq):List Value:=[.string x.name,.int .u64 x.roles.a,.int .u64 x.roles.b,.int .u64 x.roles.c,.int .u64 x.roles.d,.int .i64 x.dflt.ak,.int .u64 x.dflt.cats,.int .i64 x.rng.low.ak,.int .u64 x.rng.low.cats,.int .i64 x.rng.high.ak,.int .u64 x.rng.high.cats]
structure fN where
 name:ByteArray
 val:Bool
deriving DecidableEq
structure fN.Ok (x:fN):Prop where
 name:bW x.name
def fN.cells(x:fN):List Value:=[.string x.name,.bool x.val]
structure dH where
 kind:Int
 src:aE
 tgt:aE
 cls:Int
 name:ByteArray
 res:Int
 cond:Int
deriving DecidableEq
structure dH.Ok (x:dH):Prop where
 kind:gA x.kind
 src:x.src.Ok
 tgt:x.tgt.Ok
 cls:gA x.cls
 name:bW x.name
 res:gA x.res
 cond:gA x.cond
def dH.cells(x:dH):List Value:=[.int .i64 x.kind,.int .u64 x.src.a,.int .u64 x.src.b,.int .u64 x.src.c,.int .u64 x.src.d,.int .u64 x.tgt.a,.int .u64 x.tgt.b,.int .u64 x.tgt.c,.int .u64 x.tgt.d,.int .i64 x.cls,.string x.name,.int .i64 x.res,.int .i64 x.cond]
structure fE where
 roles:aE
 types:aE
 cls:Int
 res:Int
deriving DecidableEq
structure fE.Ok (x:fE):Prop where
 roles:x.roles.Ok
 types:x.types.Ok
 cls:gA x.cls
 res:gA x.res
def fE.cells(x:fE):List Value:=[.int .u64 x.roles.a,.int .u64 x.roles.b,.int .u64 x.roles.c,.int .u64 x.roles.d,.int .u64 x.types.a,.int .u64 x.types.b,.int .u64 x.types.c,.int .u64 x.types.d,.int .i64 x.cls,.int .i64 x.res]
structure fF where
 src:aE
 tgt:aE
 cls:Int
 rng:mS
deriving DecidableEq
structure fF.Ok (x:fF):Prop where
 src:x.src.Ok
 tgt:x.tgt.Ok
 cls:gA x.cls
 rng:x.rng.Ok
def fF.cells(x:fF):List Value:=[.int .u64 x.src.a,.int .u64 x.src.b,.int .u64 x.src.c,.int .u64 x.src.d,.int .u64 x.tgt.a,.int .u64 x.tgt.b,.int .u64 x.tgt.c,.int .u64 x.tgt.d,.int .i64 x.cls,.int .i64 x.rng.low.ak,.int .u64 x.rng.low.cats,.int .i64 x.rng.high.ak,.int .u64 x.rng.high.cats]
structure fC where
 name:ByteArray
 ctx:eG
deriving DecidableEq
structure fC.Ok (x:fC):Prop where
 name:bW x.name
 ctx:x.ctx.Ok
def fC.cells(x:fC):List Value:=[.string x.name,.int .i64 x.ctx.user,.int .i64 x.ctx.role,.int .i64 x.ctx.typ,.int .i64 x.ctx.rng.low.ak,.int .u64 x.ctx.rng.low.cats,.int .i64 x.ctx.rng.high.ak,.int .u64 x.ctx.rng.high.cats]
structure fG where
 pat:ByteArray
 kind:Int
 ctx:eG
deriving DecidableEq
structure fG.Ok (x:fG):Prop where
 pat:bW x.pat
 kind:gA x.kind
 ctx:x.ctx.Ok
def fG.cells(x:fG):List Value:=[.string x.pat,.int .i64 x.kind,.int .i64 x.ctx.user,.int .i64 x.ctx.role,.int .i64 x.ctx.typ,.int .i64 x.ctx.rng.low.ak,.int .u64 x.ctx.rng.low.cats,.int .i64 x.ctx.rng.high.ak,.int .u64 x.ctx.rng.high.cats]
structure fI where
 name:ByteArray
 kind:Int
 src:aE
 tgt:aE
deriving DecidableEq
structure fI.Ok (x:fI):Prop where
 name:bW x.name
 kind:gA x.kind
 src:x.src.Ok
 tgt:x.tgt.Ok
def fI.cells(x:fI):List Value:=[.string x.name,.int .i64 x.kind,.int .u64 x.src.a,.int .u64 x.src.b,.int .u64 x.src.c,.int .u64 x.src.d,.int .u64 x.tgt.a,.int .u64 x.tgt.b,.int .u64 x.tgt.c,.int .u64 x.tgt.d]
structure gi where
 name:ByteArray
 perms:List ByteArray
deriving DecidableEq
structure gi.Ok (x:gi):Prop where
 name:bW x.name
 perms:CJ x.perms
structure gh where
 name:ByteArray
 jg:List ByteArray
 perm:Bool
deriving DecidableEq
structure gh.Ok (x:gh):Prop where
 name:bW x.name
 jg:CJ x.jg
structure ij where
 cls:Int
 perms:Int
 val:Bool
 expr:aS
structure ij.Ok (x:ij):Prop where
 cls:gA x.cls
 perms:z_ x.perms
 expr:x.expr.Ok
structure aD where
 classes:List gi
 types:List gh
 attrs:List fH
 roles:List dI
 users:List fq
 bools:List fN
 ak:List ByteArray
 cats:List ByteArray
 conds:List aS
 rules:List bY
 trans:List dH
 ay:List fE
 ranges:List fF
 cons:List ij
 bg:List fC
 files:List fG
 asserts:List fI
structure aD.Ok (p:aD):Prop where
 classes:∀ x∈p.classes,gi.Ok x
 Rm:fU p.classes.length
 types:∀ x∈p.types,gh.Ok x
 jm:fU p.types.length
 attrs:∀ x∈p.attrs,fH.Ok x
 W2:fU p.attrs.length
 roles:∀ x∈p.roles,dI.Ok x
 wU:fU p.roles.length
 users:∀ x∈p.users,fq.Ok x
 Eb:fU p.users.length
 bools:∀ x∈p.bools,fN.Ok x
 WY:fU p.bools.length
 ak:∀ x∈p.ak,bW x
 Ya:fU p.ak.length
 cats:∀ x∈p.cats,bW x
 ZS:fU p.cats.length
 conds:∀ x∈p.conds,aS.Ok x
 WV:fU p.conds.length
 rules:∀ x∈p.rules,bY.oo x
 U_:fU p.rules.length
 trans:∀ x∈p.trans,dH.Ok x
 UW:fU p.trans.length
 ay:∀ x∈p.ay,fE.Ok x
 Sg:fU p.ay.length
 ranges:∀ x∈p.ranges,fF.Ok x
 Sn:fU p.ranges.length
 cons:∀ x∈p.cons,ij.Ok x
 ZP:fU p.cons.length
 bg:∀ x∈p.bg,fC.Ok x
 X9:fU p.bg.length
 files:∀ x∈p.files,fG.Ok x
 WB:fU p.files.length
 asserts:∀ x∈p.asserts,fI.Ok x
 Rs:fU p.asserts.length
def aR(s:ByteArray):List Value:=[.string s]
theorem FW(s:ByteArray):(aR s).length=1:=rfl
def aN(w:World)(v:Value)(l:List ByteArray):Prop:=SliceAt w v 1 l.length (l.flatMap aR)
theorem aN.keep{w w':World}{v:Value}{l:List ByteArray}(h:aN w v l)(hb:Below w.heap.size w w'):aN w' v l:=SliceAt.keep h hb
def aj{α:Type}(k:Nat)(R:List Value→α→Prop)(w:World)(v:Value)(l:List α):Prop:=
 ∃ es:List (List Value),es.length=l.length∧(∀ x∈es,x.length=k)∧SliceAt w v k l.length es.flatten∧∀ (i:Nat) x y,es[i]?=some x→l[i]?=some y→R x y
theorem aj.slice{α:Type}{k:Nat}{R:List Value→α→Prop}{w:World}{v:Value}{l:List α}(h:aj k R w v l):∃ cs,SliceAt w v k l.length cs:=by
 obtain⟨es,_,_,h,_⟩:=h;exact⟨_,h⟩
theorem aj.form{α:Type}{k:Nat}{R:List Value→α→Prop}{w:World}{v:Value}{l:List α}(h:aj k R w v l)(hk:0<k):
 ∃ a c,v=.slice a l.length c∧l.length≤c∧l.length≤9223372036854775807∧∀ i y,l[i]?=some y→∃ b off x,a=some ⟨b,off,none⟩∧R x y∧x.length=k∧∀ j u,x[j]?=some u→w.cell? ⟨b,off+i*k+j,none⟩=some u:=by
 obtain⟨es,h1,h2,h3,h4⟩:=h;obtain⟨a,c,hv,hc,hm,hcell⟩:=h3.form hk;refine⟨a,c,hv,hc,hm,fun i y hy=>?_⟩;have hi:=(ai9.1 hy).1;obtain⟨b,off,ha,hcl⟩:=hcell i hi;obtain⟨x,hx⟩:∃ x,es[i]?=some x:=⟨_,ai6 (by omega)⟩;refine⟨b,off,x,ha,h4 i x y hx hy,h2 x (aje hx),fun j u hu=>hcl j u ?_⟩;rw[G7 h2 hx j (by rw[← h2 x (aje hx)];exact(ai9.1 hu).1)];exact hu
theorem aj.mono{α:Type}{k:Nat}{R R':List Value→α→Prop}{w w':World}{v:Value}{l:List α}(h:aj k R w v l)(hb:Below w.heap.size w w')(hr:∀ x y,R x y→R' x y):aj k R' w' v l:=by
 obtain⟨es,h1,h2,h3,h4⟩:=h;exact⟨es,h1,h2,h3.keep hb,fun i x y hx hy=>hr x y (h4 i x y hx hy)⟩
inductive bq (w:World):List Value→aS→Prop
 | node {op a rel b:Int} {names:List ByteArray} {set:aE} {kids:List aS} {nv kv:Value} {es:List (List Value)}:aN w nv names→es.length=kids.length→(∀ x∈es,x.length=10)→SliceAt w kv 10 kids.length es.flatten →
  (∀ (i:Nat) x y,es[i]?=some x→kids[i]?=some y→bq w x y) →
  bq w [.int .i64 op,.int .i64 a,.int .i64 rel,.int .i64 b,nv,.int .u64 set.a,.int .u64 set.b,.int .u64 set.c,.int .u64 set.d,kv] (.node op a rel b names set kids)
theorem bq.keep{w w':World}(hb:Below w.heap.size w w'){cs:List Value}{e:aS}(h:bq w cs e):bq w' cs e:=by
 induction h with
 | node h1 h2 h3 h4 _ ih=>exact .node (h1.keep hb) h2 h3 (h4.keep hb) ih
theorem bq.open{w:World}{cs:List Value}{e:aS}(h:bq w cs e):∃ nv kv,cs=[.int .i64 e.op,.int .i64 e.a,.int .i64 e.rel,.int .i64 e.b,nv,.int .u64 e.set.a,.int .u64 e.set.b,.int .u64 e.set.c,.int .u64 e.set.d,kv]∧aN w nv e.names∧aj 10 (bq w) w kv e.kids:=by
 cases h with
 | node h1 h2 h3 h4 h5=>exact⟨_,_,rfl,h1,_,h2,h3,h4,h5⟩
def Fv(w:World)(v:Value)(l:List aS):Prop:=aj 10 (bq w) w v l
theorem Fv.keep{w w':World}{v:Value}{l:List aS}(h:Fv w v l)(hb:Below w.heap.size w w'):Fv w' v l:=aj.mono h hb fun _ _ h=>bq.keep hb h
def kW(w:World)(cs:List Value)(x:gi):Prop:=∃ v,cs=[.string x.name,v]∧aN w v x.perms
def jk(w:World)(cs:List Value)(x:gh):Prop:=∃ v,cs=[.string x.name,v,.bool x.perm]∧aN w v x.jg
def kV(w:World)(cs:List Value)(x:ij):Prop:=∃ es,cs=[.int .i64 x.cls,.int .u32 x.perms,.bool x.val]++es∧bq w es x.expr
theorem kW.keep{w w':World}(hb:Below w.heap.size w w'){cs:List Value}{x:gi}(h:kW w cs x):kW w' cs x:=by
 obtain⟨v,e,h⟩:=h;exact⟨v,e,h.keep hb⟩
theorem jk.keep{w w':World}(hb:Below w.heap.size w w'){cs:List Value}{x:gh}(h:jk w cs x):jk w' cs x:=by
 obtain⟨v,e,h⟩:=h;exact⟨v,e,h.keep hb⟩
theorem kV.keep{w w':World}(hb:Below w.heap.size w w'){cs:List Value}{x:ij}(h:kV w cs x):kV w' cs x:=by
 obtain⟨v,e,h⟩:=h;exact⟨v,e,h.keep hb⟩
structure aA (w:World) (c0 c1 c2 c3 c4 c5 c6 c7 c8 c9 c10 c11 c12 c13 c14 c15 c16:Value) (p:aD):Prop where
 classes:aj 2 (kW w) w c0 p.classes
 types:aj 3 (jk w) w c1 p.types
 attrs:SliceAt w c2 5 p.attrs.length (p.attrs.flatMap fH.cells)
 roles:SliceAt w c3 9 p.roles.length (p.roles.flatMap dI.cells)
 users:SliceAt w c4 11 p.users.length (p.users.flatMap fq.cells)
 bools:SliceAt w c5 2 p.bools.length (p.bools.flatMap fN.cells)
 ak:aN w c6 p.ak
 cats:aN w c7 p.cats
 conds:Fv w c8 p.conds
 rules:SliceAt w c9 13 p.rules.length (p.rules.flatMap bY.cells)
 trans:SliceAt w c10 13 p.trans.length (p.trans.flatMap dH.cells)
 ay:SliceAt w c11 10 p.ay.length (p.ay.flatMap fE.cells)
 ranges:SliceAt w c12 13 p.ranges.length (p.ranges.flatMap fF.cells)
 cons:aj 13 (kV w) w c13 p.cons
 bg:SliceAt w c14 8 p.bg.length (p.bg.flatMap fC.cells)
 files:SliceAt w c15 9 p.files.length (p.files.flatMap fG.cells)
 asserts:SliceAt w c16 10 p.asserts.length (p.asserts.flatMap fI.cells)
theorem aA.keep{w w':World}{c0 c1 c2 c3 c4 c5 c6 c7 c8 c9 c10 c11 c12 c13 c14 c15 c16:Value}{p:aD}(h:aA w c0 c1 c2 c3 c4 c5 c6 c7 c8 c9 c10 c11 c12 c13 c14 c15 c16 p)(hb:Below w.heap.size w w'):aA w' c0 c1 c2 c3 c4 c5 c6 c7 c8 c9 c10 c11 c12 c13 c14 c15 c16 p:=
 ⟨aj.mono h.classes hb fun _ _ h=>kW.keep hb h,aj.mono h.types hb fun _ _ h=>jk.keep hb h,h.attrs.keep hb,h.roles.keep hb,h.users.keep hb,h.bools.keep hb,h.ak.keep hb,h.cats.keep hb,h.conds.keep hb,h.rules.keep hb,h.trans.keep hb,h.ay.keep hb,h.ranges.keep hb,aj.mono h.cons hb fun _ _ h=>kV.keep hb h,h.bg.keep hb,h.files.keep hb,h.asserts.keep hb⟩
end Go.Proofs.YtkkmjdceiocnbaaGreatDoor
namespace Go.Proofs.YtkkmjdceiocnbaaGreatDoor
open Go Go.RowKit
def byteCells(l:List Nat):List Value:=l.map fun(x:Nat)=>Value.int .u8 (x:Int)
def Bytes(l:List Nat):Prop:=∀ x∈l,x<256
def aq(w:World)(v:Value)(l:List Nat):Prop:=SliceAt w v 1 l.length (byteCells l)∧Bytes l
theorem kQ(l:List Nat):∀ u∈byteCells l,u.oneCell'=true:=fun u hu=>by
 obtain⟨x,_,rfl⟩:=List.mem_map.1 hu;rfl
theorem byteCells_append(a b:List Nat):byteCells (a++b)=byteCells a++byteCells b:=by simp[byteCells]
theorem Bytes.append{a b:List Nat}(ha:Bytes a)(hb:Bytes b):Bytes (a++b):=fun x hx=>(ai8.1 hx).elim (ha x) (hb x)
theorem Bytes.drop{l:List Nat}(h:Bytes l)(i:Nat):Bytes (l.drop i):=fun x hx=>h x (List.mem_of_mem_drop hx)
theorem Bytes.take{l:List Nat}(h:Bytes l)(i:Nat):Bytes (l.take i):=fun x hx=>h x (List.mem_of_mem_take hx)
theorem aq.keep{w w':World}{v:Value}{l:List Nat}(h:aq w v l)(hb:Below w.heap.size w w'):aq w' v l:=⟨h.1.keep hb,h.2⟩
theorem aq.nil(w:World):aq w (.slice none 0 0) []:=⟨SliceAt.nil w 1,by intro x hx;cases hx⟩
theorem jU{w:World}{v:Value}{l:List Nat}(h:aq w v l):
 ∃ a c,v=.slice a l.length c∧l.length≤c∧l.length≤9223372036854775807∧∀ k:Nat,k<l.length→∃ (y b off:Nat),a=some ⟨b,off,none⟩∧l[k]?=some y∧y<256∧w.cell? ⟨b,off+k,none⟩=some (.int .u8 y):=by
 obtain⟨a,c,rfl,hc0,hm,ha⟩:=h.1.form (by omega);refine⟨a,c,rfl,hc0,hm,fun k hk=>?_⟩;obtain⟨b,off,rfl,hc⟩:=ha k hk;exact⟨l[k],b,off,rfl,ai6 hk,h.2 _ (List.getElem_mem hk),by simpa using hc 0 _ (by simp[byteCells,hk])⟩
theorem aq.part{w:World}{a:Addr}{c:Nat}{l:List Nat}(h:aq w (.slice (some a) l.length c) l){i j c':Nat}(hi:i≤j)(hj:j≤l.length)(hc:j-i≤c'):
 aq w (.slice (some (a.add i)) (j-i) c') ((l.take j).drop i):=by
 have hm:=h.1.2.1;have hl:((l.take j).drop i).length=j-i:=by rw[List.length_drop,aja];omega
 refine⟨⟨by simp[byteCells],by omega,kQ _,.inr ⟨_,c',by rw[hl],by omega,fun k u hk=>?_⟩⟩,(h.2.take j).drop i⟩;rcases h.1.2.2.2 with⟨h1,_⟩|⟨a',c1,h1,_,hc1⟩
 ·cases h1
 ·simp only[Value.slice.injEq,Option.some.injEq] at h1;obtain⟨rfl,-,rfl⟩:=h1
  have:=hc1 (i+k) u (by
   rw[byteCells,ajc] at hk ⊢;obtain⟨y,hy,rfl⟩:=Option.map_eq_some_iff.1 hk;rw[List.getElem?_drop] at hy;rw[List.getElem?_take] at hy;split at hy
   ·rw[hy];rfl
   ·cases hy)
  unfold Addr.add at this ⊢;by_cases hi0:i=0<;>by_cases hk0:k=0<;>simp_all [Nat.add_assoc]
theorem aq.zero(w:World)(a:Option Addr):aq w (.slice a 0 0) []∨a=none:=by
 cases a with
 | none=>exact .inr rfl
 | some a=>exact .inl ⟨⟨by simp[byteCells],by simp[maxLen],kQ _,.inr ⟨a,0,rfl,Nat.le_refl _,fun j u h=>by simp[byteCells] at h⟩⟩,by intro x hx;cases hx⟩
theorem aq.empty(w:World)(a:Option Addr):aq w (.slice a 0 0) []:=by
 rcases aq.zero w a with h|rfl
 ·exact h
 ·exact aq.nil w
def gT(n:Int)(c:Nat):Int:=bits .xor .u32 n (c:Int)*16777619%4294967296
def gW(l:List Nat):Int:=l.foldl gT 2166136261
theorem Dj(l:List Nat)(c:Nat):gW (l++[c])=gT (gW l) c:=by simp[gW]
theorem KL(l:List Nat):∀ n:Int,0≤n→n<4294967296→0≤l.foldl gT n∧l.foldl gT n<4294967296:=by
 induction l with
 | nil=>intro n h0 h1;exact⟨h0,h1⟩
 | cons c l ih=>intro n _ _;exact ih _ (by unfold gT;omega) (by unfold gT;omega)
theorem zf(l:List Nat):0≤gW l∧gW l<4294967296:=KL l _ (by omega) (by omega)
theorem aq.new{w w':World}{g:Nat}{l:List Nat}(h:Whole w g 5 (byteCells l).toArray)(hb:Below w.heap.size w w')(hl:l.length≤100000)(hx:Bytes l):aq w' (.slice (some ⟨g,0,none⟩) l.length l.length) l:=by
 refine aq.keep ⟨⟨by simp[byteCells],by unfold maxLen;omega,kQ l,.inr ⟨_,_,rfl,Nat.le_refl _,fun j u hu=>?_⟩⟩,hx⟩ hb;rw[Addr.add_lit,Nat.zero_add,h.cell];simpa using hu
def cM(n:Int):List Nat:=[(n%256).toNat,(n/256%256).toNat,(n/65536%256).toNat,(n/16777216).toNat]
theorem uS{n:Int}(h0:0≤n)(h1:n<4294967296):Bytes (cM n):=fun x hx=>by
 simp only[cM,ai_,List.not_mem_nil,or_false] at hx;rcases hx with rfl|rfl|rfl|rfl<;>omega
theorem uT{n:Int}(h0:0≤n):(byteCells (cM n)).toArray=#[.int .u8 (n%256),.int .u8 (n/256%256),.int .u8 (n/65536%256),.int .u8 (n/16777216)]:=by
 have e1:((n%256).toNat:Int)=n%256:=ajj (by omega);have e2:((n/256%256).toNat:Int)=n/256%256:=ajj (by omega);have e3:((n/65536%256).toNat:Int)=n/65536%256:=ajj (by omega);have e4:((n/16777216).toNat:Int)=n/16777216:=ajj (by omega);simp only[byteCells,cM,List.map_cons,List.map_nil,e1,e2,e3,e4]
def gZ(l:List Nat):List Nat×Int:=
 if l.length<4 then ([],5) else if l.drop (l.length-4)=cM (gW (l.take (l.length-4))) then (l.take (l.length-4),0) else ([],7)
theorem FU(n:Int)(h0:0≤n)(h1:n<4294967296)(k:Nat)(hk:k<4):∃ m:Nat,(cM n)[k]?=some m∧(m:Int)=n/256^k%256:=by
 match k,hk with
 | 0,_=>exact⟨_,rfl,by simp;omega⟩
 | 1,_=>exact⟨_,rfl,by simp;omega⟩
 | 2,_=>exact⟨_,rfl,by simp;omega⟩
 | 3,_=>exact⟨_,rfl,by simp;omega⟩
def bn(n:Nat):List Nat:=if n<128 then [n] else (n%128+128)::bn (n/128)
 termination_by n
 decreasing_by omega
theorem iT(n:Nat):Bytes (bn n):=by
 induction n using Nat.strongRecOn with
 | ind n ih=>
  rw[bn];split
  ·intro x hx;simp at hx;omega
  ·intro x hx;rcases ai_.1 hx with rfl|hx
   ·omega
   ·exact ih (n/128) (by omega) x hx
theorem IL(k:Nat):∀ n:Nat,n<128^(k+1)→(bn n).length≤k+1:=by
 induction k with
 | zero=>intro n h;rw[bn,if_pos (by simpa using h)];simp
 | succ k ih=>
  intro n h;rw[bn];split
  ·simp
  ·have:=ih (n/128) (by rw[Nat.pow_succ] at h;omega);simp only[List.length_cons];omega
theorem bG{n:Nat}(h:n<18446744073709551616):(bn n).length≤10:=IL 9 n (ajh h (by decide))
theorem Yh:∀ x:Nat,x<256→bits .or .u8 (x:Int) 128=((x%128+128:Nat):Int):=by decide +kernel
def Fy(m:Int):Nat:=if 0≤m then (2*m).toNat else (-2*m-1).toNat
theorem Bf{m:Int}(h:gA m):Fy m<18446744073709551616:=by
 unfold Fy gA at *;split<;>omega
theorem Oh(a:Nat)(h:a<18446744073709551616):bits .xor .u64 (a:Int) ((18446744073709551615:Nat):Int)=((18446744073709551615-a:Nat):Int):=by
 rw[bits_xor_u64_nat _ _ h (by omega)];have h1:=congrArg BitVec.toNat (BitVec.xor_allOnes (x:=BitVec.ofNat 64 a));rw[BitVec.toNat_xor,BitVec.toNat_not,BitVec.toNat_allOnes,BitVec.toNat_ofNat,Nat.mod_eq_of_lt h] at h1;exact congrArg (fun n:Nat=>(n:Int)) h1
theorem Og{m:Int}(h:gA m):bits .xor .u64 (IntKind.u64.wrap (IntKind.u64.wrap m*2)) (IntKind.u64.wrap (m/9223372036854775808))=(Fy m:Int):=by
 unfold gA at h;rw[IntKind.wrap_u64,IntKind.wrap_u64,IntKind.wrap_u64];unfold Fy;by_cases h0:0≤m
 ·rw[if_pos h0];have e1:m%18446744073709551616*2%18446744073709551616=(((2*m).toNat:Nat):Int):=by omega
  have e2:m/9223372036854775808%18446744073709551616=((0:Nat):Int):=by omega
  rw[e1,e2,bits_xor_u64_nat _ _ (by omega) (by omega),Nat.xor_zero]
 ·rw[if_neg h0];have e1:m%18446744073709551616*2%18446744073709551616=(((2*m+18446744073709551616).toNat:Nat):Int):=by omega
  have e2:m/9223372036854775808%18446744073709551616=((18446744073709551615:Nat):Int):=by omega
  rw[e1,e2,Oh _ (by omega)];omega
def cN(s:ByteArray):List Nat:=s.data.toList.map UInt8.toNat
theorem uV(s:ByteArray):Bytes (cN s):=fun x hx=>by
 obtain⟨y,_,rfl⟩:=List.mem_map.1 hx;exact y.toNat_lt
theorem gD(s:ByteArray):(cN s).length=s.size:=by simp[cN]
def dw(a b c d:Nat):Nat:=if d≠0 then 4 else if c≠0 then 3 else if b≠0 then 2 else if a≠0 then 1 else 0
def mh(a b c d:Nat):List Nat:=bn (dw a b c d)++(([a,b,c,d]:List Nat).take (dw a b c d)).flatMap bn
theorem sE(a b c d:Nat):dw a b c d≤4:=by
 unfold dw
 repeat' split
 all_goals omega
theorem Dp{a b c d j y:Nat}(h:([a,b,c,d]:List Nat)[j]?=some y)(hy:y≠0):j+1≤dw a b c d:=by
 match j,h with
 | 0,h=>simp at h;subst h;unfold dw;repeat' split
        all_goals omega
 | 1,h=>simp at h;subst h;unfold dw;repeat' split
        all_goals omega
 | 2,h=>simp at h;subst h;unfold dw;repeat' split
        all_goals omega
 | 3,h=>simp at h;subst h;unfold dw;repeat' split
        all_goals omega
 | j+4,h=>simp at h
theorem Dn{a b c d j:Nat}(h:([a,b,c,d]:List Nat)[j]?=some 0)(hs:dw a b c d≤j+1):dw a b c d≤j:=by
 match j,h with
 | 0,h=>simp at h;subst h;unfold dw at *;repeat' split at hs
        all_goals simp_all
 | 1,h=>simp at h;subst h;unfold dw at *;repeat' split at hs
        all_goals simp_all
 | 2,h=>simp at h;subst h;unfold dw at *;repeat' split at hs
        all_goals simp_all
 | 3,h=>simp at h;subst h;unfold dw at *;repeat' split at hs
        all_goals simp_all
 | j+4,h=>simp at h
theorem AA{a b c d:Nat}(ha:fA a)(hb:fA b)(hc:fA c)(hd:fA d){j:Nat}(hj:j<4):∃ y,([a,b,c,d]:List Nat)[j]?=some y∧fA y:=by
 match j,hj with
 | 0,_=>exact⟨a,rfl,ha⟩
 | 1,_=>exact⟨b,rfl,hb⟩
 | 2,_=>exact⟨c,rfl,hc⟩
 | 3,_=>exact⟨d,rfl,hd⟩
theorem vQ{a b c d j y:Nat}(h:([a,b,c,d]:List Nat)[j]?=some y):(#[.int .u64 (a:Int),.int .u64 (b:Int),.int .u64 (c:Int),.int .u64 (d:Int)]:Array Value)[j]?=some (.int .u64 (y:Int)):=by
 match j,h with
 | 0,h=>simp at h;subst h;rfl
 | 1,h=>simp at h;subst h;rfl
 | 2,h=>simp at h;subst h;rfl
 | 3,h=>simp at h;subst h;rfl
 | j+4,h=>simp at h
theorem Cm{a b c d j:Nat}(hj:j≤4)(ha:fA a)(hb:fA b)(hc:fA c)(hd:fA d):((([a,b,c,d]:List Nat).take j).flatMap bn).length≤40:=by
 have h1:=bG ha;have h2:=bG hb;have h3:=bG hc;have h4:=bG hd
 match j,hj with
 | 0,_=>simp
 | 1,_=>simp;omega
 | 2,_=>simp;omega
 | 3,_=>simp;omega
 | 4,_=>simp;omega
def mE(i n:Nat):List Nat→Nat×List Nat×Int
 | []=>(0,[],if i<10 then 5 else 6)
 | c::r=>if 10≤i then (0,[],6) else if (i=9∧1<c)∨(0<i∧c=0) then (0,[],6) else if c<128 then (n+c%128*128^i,r,0) else mE (i+1) (n+c%128*128^i) r
def number(l:List Nat):Nat×List Nat×Int:=mE 0 0 l
theorem MF(n:Nat)(l:List Nat):mE 10 n l=(0,[],6):=by cases l<;>simp[mE]
theorem LP{l:List Nat}{k y:Nat}(h:l[k]?=some y):l.drop k=y::l.drop (k+1):=by
 obtain⟨hk,he⟩:=ai9.1 h;rw[List.drop_eq_getElem_cons hk,he]
theorem NR:∀ y:Nat,y<256→bits .andNot .u8 (y:Int) 128=((y%128:Nat):Int):=by decide +kernel
theorem bits_or_u64_nat(a b:Nat)(ha:a<18446744073709551616)(hb:b<18446744073709551616):bits .or .u64 (a:Int) (b:Int)=((a|||b:Nat):Int):=by
 have hx:a|||b<2^64:=Nat.or_lt_two_pow (by omega) (by omega)
 have h1:(BitVec.ofInt 64 (a:Int)).toNat=a:=by
  rw[BitVec.ofInt_natCast,BitVec.toNat_ofNat];exact Nat.mod_eq_of_lt (by omega)
 have h2:(BitVec.ofInt 64 (b:Int)).toNat=b:=by
  rw[BitVec.ofInt_natCast,BitVec.toNat_ofNat];exact Nat.mod_eq_of_lt (by omega)
 show IntKind.u64.wrap ((BitVec.ofInt 64 (a:Int)|||BitVec.ofInt 64 (b:Int)).toNat:Int)=_;rw[BitVec.toNat_or,h1,h2,IntKind.wrap_u64];omega
theorem IQ{k x:Nat}(hk:k≤9)(hx:x<128)(h9:k=9→x≤1):x*128^k<18446744073709551616:=by
 obtain rfl|rfl|rfl|rfl|rfl|rfl|rfl|rfl|rfl|rfl:k=0∨k=1∨k=2∨k=3∨k=4∨k=5∨k=6∨k=7∨k=8∨k=9:=by omega
 all_goals simp at h9 ⊢;omega
theorem Sq{k m:Nat}(hk:k≤9)(hm:m<128^k):m<18446744073709551616:=by
 have:=IQ (k:=k) (x:=1) hk (by omega) (by omega);omega
theorem Vw(k m y P:Nat)(hP:P=128^k)(hk:k≤9)(hm:m<128^k)(hy:y<256)(h9:k=9→y%128≤1):
 bits .or .u64 (m:Int) (IntKind.u64.wrap (IntKind.u64.wrap (bits .andNot .u8 (y:Int) 128)*(P:Int)))=((m+y%128*128^k:Nat):Int):=by
 have hb:=IQ hk (Nat.mod_lt y (by omega)) h9;have hm':=Sq hk hm;rw[NR y hy,IntKind.wrap_u64,IntKind.wrap_u64];have e1:((y%128:Nat):Int)%18446744073709551616=((y%128:Nat):Int):=by omega
 rw[e1,← Int.natCast_mul,hP]
 have e2:((y%128*128^k:Nat):Int)%18446744073709551616=((y%128*128^k:Nat):Int):=by
  generalize y%128*128^k=z at hb;omega
 rw[e2,bits_or_u64_nat _ _ hm' hb];have e3:(128:Nat)^k=2^(7*k):=by rw[Nat.pow_mul]
 rw[Nat.or_comm,Nat.add_comm m,Nat.mul_comm (y%128),e3,← Nat.two_pow_add_eq_or_of_lt (by rw[← e3];exact hm)]
theorem Jo{k m y:Nat}(hm:m<128^k):m+y%128*128^k<128^(k+1):=by
 rw[Nat.pow_succ];have h1:y%128*128^k≤127*128^k:=ajf _ (by omega);omega
theorem Gt:∀ (l:List Nat) (i n:Nat),i≤10→n<128^i→(mE i n l).1<18446744073709551616
 | [],i,n,_,_=>by simp[mE]
 | c::r,i,n,hi,hn=>by
  unfold mE;split
  ·simp
  ·split
   ·simp
   ·rename_i h1 h2;split
    ·rename_i h3;have h9:i=9→c%128≤1:=fun h=>by omega
     have hb:=IQ (k:=i) (x:=c%128) (by omega) (by omega) h9;by_cases h8:i=9
     ·subst h8;have:c%128*128^9≤1*128^9:=ajf _ (h9 rfl);simp at this hn ⊢;omega
     ·have h4:=Jo (y:=c) hn;have h5:(128:Nat)^(i+1)≤128^9:=Nat.pow_le_pow_right (by omega) (by omega);simp at h5 ⊢;omega
    ·exact Gt r (i+1) _ (by omega) (Jo hn)
theorem oC(l:List Nat):(number l).1<18446744073709551616:=Gt l 0 0 (by omega) Nat.one_pos
theorem mV:∀ (l:List Nat) (i n:Nat),Bytes l→Bytes (mE i n l).2.1∧(mE i n l).2.1.length≤l.length
 | [],i,n,h=>⟨h,Nat.le_refl _⟩
 | c::r,i,n,h=>by
  have hr:Bytes r:=fun x hx=>h x (by simp[hx])
  have h0:Bytes ([]:List Nat):=fun x hx=>nomatch hx
  unfold mE;split
  ·exact⟨h0,Nat.zero_le _⟩
  ·split
   ·exact⟨h0,Nat.zero_le _⟩
   ·split
    ·exact⟨hr,by simp⟩
    ·have:=mV r (i+1) (n+c%128*128^i) hr;exact⟨this.1,by simp;omega⟩
theorem Jl{l:List Nat}(h:Bytes l):(number l).2.1.length≤l.length:=(mV l 0 0 h).2
def RO(n:Nat):Int:=if n%2=0 then ((n/2:Nat):Int) else -((n/2:Nat):Int)-1
theorem DX{a:Int}(h0:0≤a)(h1:a<9223372036854775808):bits .xor .i64 a 0=a:=by
 show IntKind.i64.wrap ((BitVec.ofInt 64 a ^^^ BitVec.ofInt 64 0).toNat:Int)=a;rw[show BitVec.ofInt 64 0=0#64 from rfl,BitVec.xor_zero,BitVec.toNat_ofInt,IntKind.wrap_i64];omega
theorem DY{a:Int}(h0:0≤a)(h1:a<9223372036854775808):bits .xor .i64 a (-1)=-a-1:=by
 show IntKind.i64.wrap ((BitVec.ofInt 64 a ^^^ BitVec.ofInt 64 (-1)).toNat:Int)=-a-1;rw[show BitVec.ofInt 64 (-1)=BitVec.allOnes 64 from rfl,BitVec.xor_allOnes,BitVec.toNat_not,BitVec.toNat_ofInt,IntKind.wrap_i64];omega
theorem TJ(n:Nat)(h:n<18446744073709551616):bits .and .u64 (n:Int) 1=((n%2:Nat):Int):=by
 have h1:(BitVec.ofInt 64 (n:Int)).toNat=n:=by
  rw[BitVec.ofInt_natCast,BitVec.toNat_ofNat];exact Nat.mod_eq_of_lt (by omega)
 show IntKind.u64.wrap ((BitVec.ofInt 64 (n:Int)&&&BitVec.ofInt 64 1).toNat:Int)=_;rw[BitVec.toNat_and,h1,show(BitVec.ofInt 64 1).toNat=1 from rfl,Nat.and_one_is_mod,IntKind.wrap_u64];omega
def eA(l:List Nat):Int×List Nat×Int:=if (number l).2.2=0 then (RO (number l).1,(number l).2.1,0) else (0,[],(number l).2.2)
def pY(l:List Nat)(most:Int):List Nat×List Nat×Int:=
 if (number l).2.2≠0 then ([],[],(number l).2.2) else if most<0∨most<(number l).1 then ([],[],4) else if (number l).2.1.length<(number l).1 then ([],[],5)
 else ((number l).2.1.take (number l).1,(number l).2.1.drop (number l).1,0)
def strOf(l:List Nat):ByteArray:=⟨(l.map UInt8.ofNat).toArray⟩
theorem Dt{w:World}{a:Option Addr}{c n:Nat}{l:List Nat}(h:aq w (.slice a l.length c) l)(hn:n≤l.length):aq w (.slice a n c) (l.take n):=by
 cases a with
 | none=>
  rcases h.1.2.2.2 with⟨h1,h2⟩|⟨a',c',h1,_⟩
  ·simp only[Value.slice.injEq,true_and] at h1;obtain⟨h1,rfl⟩:=h1;obtain rfl:l=[]:=List.eq_nil_of_length_eq_zero h1;obtain rfl:n=0:=by simpa using hn
   exact aq.nil w
  ·cases h1
 | some a=>
  have h1:=h.part (i:=0) (j:=n) (c':=c) (Nat.zero_le _) hn (by
   rcases h.1.2.2.2 with⟨h1,_⟩|⟨a',c',h1,h2,_⟩
   ·cases h1
   ·simp only[Value.slice.injEq] at h1;omega)
  have e:a.add 0=a:=by simp[Addr.add]
  rw[e] at h1;simpa using h1
def cL:Nat→List Nat→List Nat×List Nat×Int
 | 0,l=>([],l,0)
 | k+1,l=>if (number l).2.2≠0 then ([],[],(number l).2.2) else ((number l).1::(cL k (number l).2.1).1,(cL k (number l).2.1).2.1,(cL k (number l).2.1).2.2)
def rH(l:List Nat):List Nat×List Nat×Int:=
 if (number l).2.2≠0 then ([0,0,0,0],[],(number l).2.2) else if 4<(number l).1 then ([0,0,0,0],[],6)
 else if (cL (number l).1 (number l).2.1).2.2≠0 then ([0,0,0,0],[],(cL (number l).1 (number l).2.1).2.2)
 else if 0<(number l).1∧(cL (number l).1 (number l).2.1).1[(number l).1-1]?=some 0 then ([0,0,0,0],[],6)
 else ((cL (number l).1 (number l).2.1).1++List.replicate (4-(number l).1) 0,(cL (number l).1 (number l).2.1).2.1,0)
theorem Gs:∀ (l:List Nat) (i n v:Nat) (r:List Nat),Bytes l→mE i n l=(v,r,0)→∃ m,v=n+m*128^i∧bn m++r=l∧(0<i→0<m)
 | [],i,n,v,r,_,h=>by
  simp only[mE,Prod.mk.injEq] at h;have h3:=h.2.2;split at h3<;>simp at h3
 | c::t,i,n,v,r,hb,h=>by
  have hc:=hb c (by simp);have ht:Bytes t:=fun x hx=>hb x (by simp[hx])
  unfold mE at h;split at h
  ·simp at h
  ·split at h
   ·simp at h
   ·rename_i h1 h2;split at h
    ·rename_i h3;simp only[Prod.mk.injEq,and_true] at h;obtain⟨rfl,rfl⟩:=h;refine⟨c,by rw[Nat.mod_eq_of_lt h3],by rw[bn,if_pos h3];rfl,fun hi=>?_⟩;omega
    ·rename_i h3;obtain⟨m,hv,hp,hm⟩:=Gs t (i+1) _ v r ht h;have hm0:=hm (by omega);refine⟨c%128+128*m,?_,?_,fun _=>by omega⟩
     ·rw[hv,Nat.pow_succ,Nat.add_mul,Nat.add_assoc];congr 2;rw[Nat.mul_comm 128 m,Nat.mul_assoc,Nat.mul_comm 128]
     ·rw[bn,if_neg (by omega),show(c%128+128*m)%128+128=c by omega,show(c%128+128*m)/128=m by omega];simp[hp]
theorem qu{l:List Nat}{n:Nat}{r:List Nat}(hb:Bytes l)(h:number l=(n,r,0)):bn n++r=l:=by
 obtain⟨m,hv,hp,_⟩:=Gs l 0 0 n r hb h;simp at hv;rw[hv];exact hp
theorem RM{n:Nat}(h:n<18446744073709551616):Fy (RO n)=n∧gA (RO n):=by
 unfold Fy RO gA;by_cases hp:n%2=0
 ·rw[if_pos hp];exact⟨by rw[if_pos (by omega)];omega,by omega,by omega⟩
 ·rw[if_neg hp];exact⟨by rw[if_neg (by omega)];omega,by omega,by omega⟩
theorem Dm{l:List Nat}{m:Int}{r:List Nat}(hb:Bytes l)(h:eA l=(m,r,0)):bn (Fy m)++r=l∧gA m:=by
 have hn:=oC l;unfold eA at h;split at h
 ·rename_i he;simp only[Prod.mk.injEq,and_true] at h;obtain⟨rfl,rfl⟩:=h;have:=RM hn;rw[this.1];exact⟨qu hb (by rw[← he]),this.2⟩
 ·rename_i he;simp only[Prod.mk.injEq] at h;exact absurd h.2.2 he
theorem uU{l:List Nat}(h:Bytes l):cN (strOf l)=l:=by
 unfold cN strOf;rw[List.map_map]
 have:∀ x∈l,(UInt8.toNat∘UInt8.ofNat) x=x:=fun x hx=>by
  have:=h x hx;simp;omega
 rw[List.map_congr_left this];simp
theorem wO(l:List Nat):(strOf l).size=l.length:=by
 show(l.map UInt8.ofNat).toArray.size=l.length;simp
theorem R2{l s r:List Nat}{most:Int}(hb:Bytes l)(h:pY l most=(s,r,0)):bn s.length++s++r=l∧(s.length:Int)≤most∧Bytes s:=by
 unfold pY at h;have hbr:Bytes (number l).2.1:=(mV l 0 0 hb).1;split at h
 ·rename_i he;simp only[Prod.mk.injEq] at h;exact absurd h.2.2 he
 ·rename_i he;split at h
  ·simp at h
  ·rename_i h1;split at h
   ·simp at h
   ·rename_i h2;simp only[Prod.mk.injEq,and_true] at h;obtain⟨rfl,rfl⟩:=h;have he':(number l).2.2=0:=by simpa using he
    have hl:((number l).2.1.take (number l).1).length=(number l).1:=by rw[aja];omega
    rw[hl,List.append_assoc,List.take_append_drop];exact⟨qu hb (by rw[← he']),by omega,hbr.take _⟩
theorem Ck:∀ (k:Nat) (l xs r:List Nat),Bytes l→cL k l=(xs,r,0)→xs.length=k∧(∀ x∈xs,fA x)∧xs.flatMap bn++r=l∧Bytes r
 | 0,l,xs,r,hb,h=>by
  simp only[cL,Prod.mk.injEq,and_true] at h;obtain⟨rfl,rfl⟩:=h;exact⟨rfl,by simp,rfl,hb⟩
 | k+1,l,xs,r,hb,h=>by
  unfold cL at h;split at h
  ·rename_i he;simp only[Prod.mk.injEq] at h;exact absurd h.2.2 he
  ·rename_i he;simp only[Prod.mk.injEq] at h;obtain⟨rfl,rfl,h3⟩:=h;have he':(number l).2.2=0:=by simpa using he
   have hbr:Bytes (number l).2.1:=(mV l 0 0 hb).1;obtain⟨h4,h5,h6,h7⟩:=Ck k (number l).2.1 _ _ hbr (by rw[← h3]);refine⟨by simp[h4],?_,?_,h7⟩
   ·intro x hx;rcases ai_.1 hx with rfl|hx
    ·exact oC l
    ·exact h5 x hx
   ·rw[List.flatMap_cons,List.append_assoc,h6];exact qu hb (by rw[← he'])
theorem U5{l ss r:List Nat}(hb:Bytes l)(h:rH l=(ss,r,0)):∃ a b c d,ss=[a,b,c,d]∧fA a∧fA b∧fA c∧fA d∧mh a b c d++r=l:=by
 unfold rH at h;have hbr:Bytes (number l).2.1:=(mV l 0 0 hb).1;split at h
 ·rename_i he;simp only[Prod.mk.injEq] at h;exact absurd h.2.2 he
 ·rename_i he;split at h
  ·simp at h
  ·rename_i h1;split at h
   ·rename_i h2;simp only[Prod.mk.injEq] at h;exact absurd h.2.2 h2
   ·rename_i h2;split at h
    ·simp at h
    ·rename_i h3;simp only[Prod.mk.injEq,and_true] at h;obtain⟨rfl,rfl⟩:=h;have he':(number l).2.2=0:=by simpa using he
     have h2':(cL (number l).1 (number l).2.1).2.2=0:=by simpa using h2
     obtain⟨h4,h5,h6,_⟩:=Ck _ _ _ _ hbr (show cL (number l).1 (number l).2.1=(_,_,0) by rw[← h2']);have hnl:=qu (n:=(number l).1) (r:=(number l).2.1) hb (by rw[← he']);generalize (cL (number l).1 (number l).2.1).2.1=rr at *;generalize (cL (number l).1 (number l).2.1).1=xs at *;generalize (number l).1=k at *;have z:fA 0:=by unfold fA;omega
     subst h4;rw[← hnl,← h6]
     match xs,h1,h3,h5 with
     | [],_,_,_=>exact⟨0,0,0,0,rfl,z,z,z,z,by simp[mh,dw]⟩
     | [a],_,h3,h5=>
      have ha:a≠0:=by simpa using h3
      exact⟨a,0,0,0,rfl,h5 a (by simp),z,z,z,by simp[mh,dw,ha]⟩
     | [a,b],_,h3,h5=>
      have ha:b≠0:=by simpa using h3
      exact⟨a,b,0,0,rfl,h5 a (by simp),h5 b (by simp),z,z,by simp[mh,dw,ha]⟩
     | [a,b,c],_,h3,h5=>
      have ha:c≠0:=by simpa using h3
      exact⟨a,b,c,0,rfl,h5 a (by simp),h5 b (by simp),h5 c (by simp),z,by simp[mh,dw,ha]⟩
     | [a,b,c,d],_,h3,h5=>
      have ha:d≠0:=by simpa using h3
      exact⟨a,b,c,d,rfl,h5 a (by simp),h5 b (by simp),h5 c (by simp),h5 d (by simp),by simp[mh,dw,ha]⟩
     | _::_::_::_::_::_,h1,_,_=>simp at h1
theorem MG:∀ (m i n:Nat) (r:List Nat),m*128^i<18446744073709551616→(0<i→0<m)→mE i n (bn m++r)=(n+m*128^i,r,0):=by
 intro m
 induction m using Nat.strongRecOn with
 | ind m ih=>
  intro i n r hm h0
  have hi:i≤9:=by
   refine Classical.byContradiction fun hi=>?_
   have h1:(128:Nat)^10≤128^i:=Nat.pow_le_pow_right (by omega) (by omega);have h2:1*128^i≤m*128^i:=ajf _ (h0 (by omega));have h3:(128:Nat)^10=1180591620717411303424:=by decide
   omega
  have h9:i=9→m≤1:=fun e=>by
   subst e;have h3:(128:Nat)^9=9223372036854775808:=by decide
   rw[h3] at hm;omega
  rw[bn];by_cases hlt:m<128
  ·rw[if_pos hlt];show mE i n (m::r)=_;unfold mE;rw[if_neg (by omega),if_neg (by omega),if_pos hlt,Nat.mod_eq_of_lt hlt]
  ·rw[if_neg hlt];show mE i n ((m%128+128)::(bn (m/128)++r))=_;unfold mE;rw[if_neg (by omega),if_neg (by omega),if_neg (by omega)]
   have hd:m/128*128^(i+1)+m%128*128^i=m*128^i:=by
    rw[Nat.pow_succ,Nat.mul_comm (128^i) 128,← Nat.mul_assoc,← Nat.add_mul];congr 1;omega
   rw[ih (m/128) (by omega) (i+1) _ r (by omega) (fun _=>by omega),show(m%128+128)%128=m%128 by omega];congr 1;omega
theorem qR(n:Nat)(r:List Nat)(h:n<18446744073709551616):number (bn n++r)=(n,r,0):=by
 have:=MG n 0 0 r (by simpa using h) (by omega);simpa[number] using this
theorem RN{m:Int}(h:gA m):RO (Fy m)=m:=by
 unfold RO Fy gA at *;split<;>split<;>omega
theorem Ik(m:Int)(r:List Nat)(h:gA m):eA (bn (Fy m)++r)=(m,r,0):=by
 unfold eA;rw[qR _ r (Bf h)];simp[RN h]
theorem Bt(s:ByteArray):strOf (cN s)=s:=by
 unfold strOf cN;rw[List.map_map];have:∀ x∈s.data.toList,(UInt8.ofNat∘UInt8.toNat) x=x:=fun x _=>by simp
 rw[List.map_congr_left this];simp
theorem zX:∀ (xs r:List Nat),(∀ x∈xs,fA x)→cL xs.length (xs.flatMap bn++r)=(xs,r,0)
 | [],r,_=>rfl
 | x::xs,r,h=>by
  have ih:=zX xs r fun y hy=>h y (by simp[hy])
  rw[List.length_cons,cL,List.flatMap_cons,List.append_assoc,qR _ _ (h x (by simp))];simp[ih]
theorem R9(a b c d:Nat)(r:List Nat)(ha:fA a)(hb:fA b)(hc:fA c)(hd:fA d):rH (mh a b c d++r)=([a,b,c,d],r,0):=by
 have hle:=sE a b c d;have hn:fA (dw a b c d):=by unfold fA;omega
 have hmem:∀ x∈([a,b,c,d]:List Nat).take (dw a b c d),fA x:=fun x hx=>by
  have:=List.mem_of_mem_take hx;simp at this;rcases this with rfl|rfl|rfl|rfl<;>assumption
 have hlen:(([a,b,c,d]:List Nat).take (dw a b c d)).length=dw a b c d:=by rw[aja];simp;omega
 have hg:=zX (([a,b,c,d]:List Nat).take (dw a b c d)) r hmem;rw[hlen] at hg;unfold rH mh;rw[List.append_assoc,qR _ _ hn];simp only[ne_eq,not_true_eq_false,if_false];rw[if_neg (by omega),hg];simp only[not_true_eq_false,if_false]
 have key:¬ (0<dw a b c d∧(([a,b,c,d]:List Nat).take (dw a b c d))[dw a b c d-1]?=some 0)∧([a,b,c,d]:List Nat).take (dw a b c d)++List.replicate (4-dw a b c d) 0=[a,b,c,d]:=by
  unfold dw;by_cases h4:d=0
  ·by_cases h3:c=0
   ·by_cases h2:b=0
    ·by_cases h1:a=0
     ·simp[h1,h2,h3,h4]
     ·simp[h1,h2,h3,h4]
    ·simp[h2,h3,h4]
   ·simp[h3,h4]
  ·simp[h4]
 rw[if_neg key.1,key.2]
def ah(f:Nat→Int):Nat→Nat→Int
 | 0,_=>0
 | k+1,i=>if f i=0 then ah f k (i+1) else f i
theorem aM(f:Nat→Int)(n:Nat):ah f (n-n) n=0:=by rw[Nat.sub_self];rfl
theorem aP{f:Nat→Int}{n i:Nat}(h:i<n)(hf:f i≠0):ah f (n-i) i=f i:=by
 obtain⟨k,hk⟩:∃ k,n-i=k+1:=⟨n-i-1,by omega⟩;rw[hk];exact if_neg hf
theorem aG{f:Nat→Int}{n i:Nat}(h:i<n)(hf:f i=0):ah f (n-i) i=ah f (n-(i+1)) (i+1):=by
 obtain⟨k,hk⟩:∃ k,n-i=k+1:=⟨n-i-1,by omega⟩;rw[hk,show n-(i+1)=k by omega];exact if_pos hf
theorem mW{f:Nat→Int}:∀ (k i:Nat),ah f k i=0↔∀ j,i≤j→j<i+k→f j=0
 | 0,i=>⟨fun _ j h1 h2=>by omega,fun _=>rfl⟩
 | k+1,i=>by
  unfold ah;by_cases h:f i=0
  ·rw[if_pos h,mW k (i+1)];constructor
   ·intro g j h1 h2;by_cases e:j=i
    ·subst e;exact h
    ·exact g j (by omega) (by omega)
   ·intro g j h1 h2;exact g j (by omega) (by omega)
  ·rw[if_neg h];exact⟨fun e=>absurd e h,fun g=>absurd (g i (by omega) (by omega)) h⟩
def dY(f:Nat→Int):Nat→Int
 | 0=>0
 | i+1=>max (dY f i) (f i)
theorem lA{f:Nat→Int}{b:Int}(hb:0≤b):∀ n,(∀ i,i<n→f i≤b)→dY f n≤b
 | 0,_=>hb
 | n+1,h=>Int.max_le.2 ⟨lA hb n fun i hi=>h i (by omega),h n (by omega)⟩
theorem eK(f:Nat→Int):∀ n,0≤dY f n
 | 0=>Int.le_refl 0
 | n+1=>Int.le_trans (eK f n) (Int.le_max_left _ _)
def cA(f:Nat→Bool):Nat→Nat→Bool
 | 0,_=>false
 | k+1,i=>f i||cA f k (i+1)
theorem ox{f:Nat→Bool}:∀ (k i:Nat),cA f k i=true↔∃ j,i≤j∧j<i+k∧f j=true
 | 0,i=>⟨fun h=>(by cases h),fun⟨j,h1,h2,_⟩=>by omega⟩
 | k+1,i=>by
  show(f i||cA f k (i+1))=true↔_;rw[Bool.or_eq_true,ox k (i+1)];constructor
  ·rintro(h|⟨j,h1,h2,h3⟩)
   ·exact⟨i,by omega,by omega,h⟩
   ·exact⟨j,by omega,by omega,h3⟩
  ·rintro⟨j,h1,h2,h3⟩;by_cases e:j=i
   ·subst e;exact .inl h3
   ·exact .inr ⟨j,by omega,by omega,h3⟩
section
variable {P:Program}
theorem Ae(w:World)(g o:Nat)(ty:TypeId)(cs:List Value)(d:TypeDesc)(hc:∀ j u,cs[j]?=some u→w.cell? ⟨g,o+j,none⟩=some u)
 (hu:P.underlying ty=some d) (hd:(match d with|.struct _|.array _ _=>true|_=>false)=true) (hi:(P.info? ty).map (·.size)=some cs.length) :
 (loadVar ty ⟨g,o,none⟩).run P w=.ok (.agg cs.toArray) w:=by
 have hl:(loadCells ⟨g,o,none⟩ cs.length).run P w=.ok cs.toArray w:=
  run_loadCells_list (P:=P) w ⟨g,o,none⟩ cs (fun j v hv=>by
   have hadd:(⟨g,o,none⟩:Addr).add j=⟨g,o+j,none⟩:=by unfold Addr.add;split<;>simp_all
   rw[hadd];exact hc j v hv)
 cases hq:P.info? ty with
 | none=>simp[hq] at hi
 | some i=>
  have hs:i.size=cs.length:=by simpa[hq] using hi
  have hagg:(isAgg ty).run P w=.ok true w:=by
   unfold isAgg;rw[ai7,run_underlying hu w];cases d<;>simp_all
  simp[loadVar,ai7,hagg,sizeOf,typeInfo,hq,hs,hl]
end
theorem Fq.laid{slots:List Nat}{cF:List (Value→World→Prop)}{inv:World→Prop}{t:Array Value}{d:List Deferred}{L:Nat→Bool}{a:Act}{w:World}
 (h:Fq slots cF inv t d L a w) (hlen:slots.length=cF.length) (hall:∀ i,i<slots.length→L i=true):Laid d w a (slots.map some) cF t:=by
 refine AP h.defers _ _ _ (by simpa using hlen) (fun i g hg=>?_) (fun j hj=>h.rest j ?_) h.size
 ·have hi:i<slots.length:=by rw[hlen];exact(ai9.1 hg).1
  obtain⟨v,h1,h2⟩:=h.done i (hall i hi) _ g (ai6 hi) hg;refine⟨v,fun s hs=>?_,h2⟩;simp only[ajc,ai6 hi,Option.map_some,Option.some.injEq] at hs;rw[← hs];exact h1
 ·rw[Bool.eq_false_iff] at hj ⊢;intro e;apply hj;rw[List.contains_iff_mem] at e ⊢;exact List.mem_map_of_mem e
def Il:Array Value→List Nat→List Value→Array Value
 | t,s::ss,v::vs=>Il (t.setIfInBounds s v) ss vs
 | t,_,_=>t
theorem DC{d:List Deferred}{w:World}{a:Act}:∀ (slots:List Nat) (vals:List Value) (t:Array Value),slots.length=vals.length→Laid d w a (slots.map some) (vals.map S2) t→a=⟨Il t slots vals,d⟩
 | [],[],_,_,h=>h
 | s::ss,v::vs,t,hl,h=>by
  obtain⟨u,hu,h⟩:=h;cases hu;exact DC ss vs _ (by simpa using hl) h
theorem Fq.frame{slots:List Nat}{cF:List (Value→World→Prop)}{inv:World→Prop}{t:Array Value}{d:List Deferred}{L:Nat→Bool}{a:Act}{w:World}
 (h:Fq slots cF inv t d L a w) (hall:∀ i,i<slots.length→L i=true) (vals:List Value) (hg:cF=vals.map S2) (hlen:slots.length=vals.length) {t':Array Value} (he:Il t slots vals=t'):a=⟨t',d⟩:=by
 subst hg he;exact DC slots vals t hlen (h.laid (by simpa using hlen) hall)
end Go.Proofs.YtkkmjdceiocnbaaGreatDoor

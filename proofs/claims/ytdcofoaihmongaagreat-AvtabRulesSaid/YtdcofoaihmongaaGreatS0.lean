import Derived.Below
import Derived.BigQuiet
import Derived.ChangeKeysEq
import Derived.Deep.DeepCutAuto
import Derived.Deep.MidRow
import Derived.DeepKeys4
import Derived.Handy
import Derived.Laws.Bits64b
import Derived.Laws.StructEq
import Derived.Lib.Hide
import Derived.Maps.Own
import Derived.Maps.OwnSet
import Derived.Maps.Range
import Derived.Maps.RangeWalk
import Derived.OpenShut
import Derived.Orders
import Derived.ProofKit
import Derived.Shelf.SlGeneric
import Derived.Shelf.SlSortCmp.Insertion
import Derived.Shelf.SlSortCmp.NoneTotal
import Derived.Shelf.SlSortCmp.WholeK
import Derived.SizedLaws
import Derived.Sort.Grow
import Derived.Sort.LotA
import Derived.Tactics
import Derived.Test.YtdcofoaihmongaaGreatRows
import Derived.WalkKit
import Derived.WalkSmall
import Derived.WalkSpells
import Derived.WideKeyMaps
import Derived.WideKeyPair
namespace Go.Proofs.YtdcofoaihmongaaGreat
open Go Go.ChangeMaps Go.MapKept
open Go.Maps (Keyed)
def MapAt (w:World) (P:Program) (k:TypeId) (b:Nat) (D:List (Value×Value)):Prop :=
 ∃ es clock,w.heap[b]?=some (.map es clock)∧Stamped es clock∧(es.toList.map fun e=>(e.key,e.val)).Perm D∧∀ p∈D,∃ l,keyOf P k p.1=some l
variable {P:Program} {k:TypeId} {w:World} {b:Nat} {D:List (Value×Value)}
theorem MapAt.lt (h:MapAt w P k b D):b<w.heap.size:=by
 obtain⟨es,clock,hb,_⟩:=h
 exact(Array.getElem?_eq_some_iff.1 hb).1
theorem MapAt.kept {w':World} (h:MapAt w P k b D) (hb:w'.heap[b]?=w.heap[b]?):MapAt w' P k b D:=by
 obtain⟨es,clock,h1,h2⟩:=h
 exact⟨es,clock,hb.trans h1,h2⟩
theorem MapAt.perm {D':List (Value×Value)} (h:MapAt w P k b D) (hp:D.Perm D'):MapAt w P k b D':=by
 obtain⟨es,clock,h1,h2,h3,h4⟩:=h
 exact⟨es,clock,h1,h2,h3.trans hp,fun p hq=>h4 p (hp.mem_iff.2 hq)⟩
theorem MapAt.made (w:World) (P:Program) (k:TypeId):MapAt (w.alloc (.map #[] 0)) P k w.heap.size [] :=
 ⟨#[],0,(MapKept.heap_alloc w _).1,stamped_empty 0,by simp,by simp⟩
theorem MapAt.keys (h:MapAt w P k b D):(D.map Prod.fst).Nodup:=by
 obtain⟨es,clock,_,h2,h3,_⟩:=h
 have hn:es.toList.Pairwise (fun x y=>x.key≠y.key):=((stamped_iff es clock).1 h2).2.2
 have:((es.toList.map fun e=>(e.key,e.val)).map Prod.fst).Nodup:=by
  rw[List.map_map,List.Nodup,List.pairwise_map]
  exact hn
 exact(h3.map Prod.fst).nodup_iff.1 this
theorem MapAt.size (h:MapAt w P k b D):∃ es clock,w.heap[b]?=some (.map es clock)∧es.size=D.length:=by
 obtain⟨es,clock,h1,_,h3,_⟩:=h
 exact⟨es,clock,h1,by simpa using h3.length_eq⟩
theorem perm_erase {α:Type}:∀ (l:List α) (j:Nat) (h:j<l.length),(l[j]::l.eraseIdx j).Perm l
 | x::l,0,_=>List.Perm.refl _
 | x::l,j+1,h=>(List.Perm.swap _ _ _).trans ((perm_erase l j (by simpa using h)).cons x)
theorem MapAt.find {es:Array MapEntry} (K:Keyed P k) (hp:(es.toList.map fun e=>(e.key,e.val)).Perm D) (hk:∀ p∈D,∃ l,keyOf P k p.1=some l) (w:World) {key:Value} {l:Lit} (hkey:keyOf P k key=some l) :
 ((Instr.findKey k key es.toList).run P w=.ok none w∧(∀ e∈es.toList,e.key≠key)∧∀ p∈D,p.1≠key) ∨
 ∃ j e,(Instr.findKey k key es.toList).run P w=.ok (some (j,e.val)) w∧es.toList[j]?=some e∧e.key=key∧(key,e.val)∈D:=by
 have hks:∀ e∈es.toList,∃ l,keyOf P k e.key=some l:=fun e he=>hk (e.key,e.val) (hp.mem_iff.1 (List.mem_map.2 ⟨e,he,rfl⟩))
 rcases K.find w hkey es.toList hks with⟨h1,h2⟩ | ⟨j,e,h1,h2,h3⟩
 ·refine Or.inl ⟨h1,h2,fun p hq he=>?_⟩
  obtain⟨e,he',rfl⟩:=List.mem_map.1 (hp.mem_iff.2 hq)
  exact h2 e he' he
 ·exact Or.inr ⟨j,e,h1,h2,h3,hp.mem_iff.1 (List.mem_map.2 ⟨e,List.mem_of_getElem? h2,by rw[h3]⟩)⟩
variable {t e:TypeId}
theorem MapAt.look_none (c:Bool) (h:MapAt w P k b D) (K:Keyed P k) (ht:P.underlying t=some (.map k e)) {z:Value} (hz:(zeroValue e).run P w=.ok z w) {key:Value} {l:Lit} (hkey:keyOf P k key=some l) (hno:∀ p∈D,p.1≠key) :
 (Instr.lookup t (.map (some b)) key c).run P w=.ok (if c then .tuple #[z,.bool false] else z) w:=by
 obtain⟨es,clock,hb,hs,hp,hk⟩:=h
 rcases MapAt.find K hp hk w hkey with⟨h1,h2,_⟩ | ⟨j,e0,h1,h2,h3,h4⟩
 ·simp[Instr.lookup,run_underlying ht,MapKept.run_getObj_map hb,K.check w _ hkey,h1,hz,Result.andThen]
 ·exact absurd rfl (hno _ h4)
theorem MapAt.look_some (c:Bool) (h:MapAt w P k b D) (K:Keyed P k) (ht:P.underlying t=some (.map k e)) {key val:Value} {l:Lit} (hkey:keyOf P k key=some l) (hin:(key,val)∈D) :
 (Instr.lookup t (.map (some b)) key c).run P w=.ok (if c then .tuple #[val,.bool true] else val) w:=by
 have hnd:=h.keys
 obtain⟨es,clock,hb,hs,hp,hk⟩:=h
 rcases MapAt.find K hp hk w hkey with⟨h1,h2,h5⟩ | ⟨j,e0,h1,h2,h3,h4⟩
 ·exact absurd rfl (h5 _ hin)
 ·have:e0.val=val:=by
   have:=pair_unique hnd h4 hin
   exact this
  simp[Instr.lookup,run_underlying ht,MapKept.run_getObj_map hb,K.check w _ hkey,h1,this,Result.andThen]
where
 pair_unique:∀ {D:List (Value×Value)},(D.map Prod.fst).Nodup→∀ {x a b:Value},(x,a)∈D→(x,b)∈D→a=b
 | [],_,_,_,_,h,_=>by cases h
 | p::D,hn,x,a,b,ha,hb=>by
  simp only[List.map_cons,List.nodup_cons] at hn
  rcases List.mem_cons.1 ha with rfl | ha'
  ·rcases List.mem_cons.1 hb with hb' | hb'
   ·exact(congrArg Prod.snd hb').symm
   ·exact absurd (List.mem_map.2 ⟨_,hb',rfl⟩) hn.1
  ·rcases List.mem_cons.1 hb with rfl | hb'
   ·exact absurd (List.mem_map.2 ⟨_,ha',rfl⟩) hn.1
   ·exact pair_unique hn.2 ha' hb'
theorem MapAt.put_new (h:MapAt w P k b D) (K:Keyed P k) (ht:P.underlying t=some (.map k e)) {key val:Value} {l:Lit} (hkey:keyOf P k key=some l) (hno:∀ p∈D,p.1≠key) :
 ∃ w',(Instr.mapUpdate t (.map (some b)) key val).run P w=.ok () w'∧MapAt w' P k b ((key,val)::D)∧w.grownBy w' (some b)∧w'.heap.size=w.heap.size:=by
 obtain⟨es,clock,hb,hs,hp,hk⟩:=h
 have hsz:es.size=D.length:=by simpa using hp.length_eq
 rcases MapAt.find K hp hk w hkey with⟨h1,h2,_⟩ | ⟨j,e0,h1,h2,h3,h4⟩
 ·refine⟨setBlock w b (.map (es.push ⟨key,val,clock⟩) (clock+1)),?_,⟨_,_,heap_setBlock_same hb _,stamped_push hs h2,?_,?_⟩,⟨rfl,rfl,rfl,by simp[setBlock],fun i _ hi=>heap_setBlock_other hb _ (fun e=>hi (by rw[e]))⟩,by simp[setBlock]⟩
  ·simp[Instr.mapUpdate,run_underlying ht,MapKept.run_getObj_map hb,K.check w false hkey,h1,MapKept.run_setObj_map _ hb,Result.andThen,setBlock]
  ·simp only[Array.toList_push,List.map_append,List.map_cons,List.map_nil]
   exact(List.perm_append_singleton _ _).trans (hp.cons _)
  ·intro p hq
   rcases List.mem_cons.1 hq with rfl | hq
   ·exact⟨l,hkey⟩
   ·exact hk p hq
 ·exact absurd rfl (hno _ h4)
theorem MapAt.put_old {old:Value} {R:List (Value×Value)} (h:MapAt w P k b D) (K:Keyed P k) (ht:P.underlying t=some (.map k e)) {key val:Value} {l:Lit} (hkey:keyOf P k key=some l) (hD:D.Perm ((key,old)::R)) :
 ∃ w',(Instr.mapUpdate t (.map (some b)) key val).run P w=.ok () w'∧MapAt w' P k b ((key,val)::R)∧w.grownBy w' (some b)∧w'.heap.size=w.heap.size:=by
 have h':=h.perm hD
 have hnd:=h'.keys
 obtain⟨es,clock,hb,hs,hp,hk⟩:=h'
 rcases MapAt.find K hp hk w hkey with⟨h1,h2,h5⟩ | ⟨j,e0,h1,h2,h3,h4⟩
 ·exact absurd rfl (h5 (key,old) (by simp))
 ·have hj:es[j]?=some e0:=by simpa using h2
  have hjl:j<es.toList.length:=(List.getElem?_eq_some_iff.1 h2).1
  have hkeyf:∀ e',es[j]?=some e'→({ e' with key:=key,val:=val }:MapEntry).key=e'.key:=fun e' he'=>by rw[hj] at he';cases he';exact h3.symm
  have hlist:(es.modify j (fun e'=>{ e' with key:=key,val:=val })).toList=es.toList.set j { e0 with key:=key,val:=val }:=by rw[Array.toList_modify,modify_eq_set _ _ _ _ h2]
  refine⟨setBlock w b (.map (es.modify j (fun e'=>{ e' with key:=key,val:=val })) clock),?_,⟨_,_,heap_setBlock_same hb _,stamped_modify hs _ _ (fun _ _=>rfl) (fun e' _ he'=>hkeyf e' he'),?_,?_⟩,⟨rfl,rfl,rfl,by simp[setBlock],fun i _ hi=>heap_setBlock_other hb _ (fun e=>hi (by rw[e]))⟩,by simp[setBlock]⟩
  ·simp[Instr.mapUpdate,run_underlying ht,MapKept.run_getObj_map hb,K.check w false hkey,h1,hj,h3,K.stays w hkey,MapKept.run_setObj_map _ hb,Result.andThen,setBlock]
  ·rw[hlist,List.map_set]
   have hp0:(es.toList.map fun e=>(e.key,e.val)).Perm ((key,e0.val)::R):=by
    have:e0.val=old:=MapAt.look_some.pair_unique hnd h4 (by simp)
    rw[this];exact hp
   have hl:j<(es.toList.map fun e=>(e.key,e.val)).length:=by simpa using hjl
   refine(set_perm _ _ hl _).trans (List.Perm.cons _ ?_)
   have hx:(es.toList.map fun e=>(e.key,e.val))[j]=(key,e0.val):=by
    have:=(List.getElem?_eq_some_iff.1 h2).2
    simp[← h3,this]
   have h6:=(perm_erase _ j hl).trans hp0
   rw[hx] at h6
   exact h6.cons_inv
  ·intro p hq
   rcases List.mem_cons.1 hq with rfl | hq
   ·exact⟨l,hkey⟩
   ·exact hk p (by simp[hq])
end Go.Proofs.YtdcofoaihmongaaGreat
namespace Go.Proofs.YtdcofoaihmongaaGreat
open Go Go.ChangeMaps Go.MapKept
open Go.Maps (Keyed)
def Ranging (w:World) (P:Program) (k:TypeId) (b r:Nat) (D left:List (Value×Value)):Prop :=
 ∃ es clock since seen c0,w.heap[b]?=some (.map es clock)∧Stamped es clock∧(es.toList.map fun e=>(e.key,e.val)).Perm D∧(∀ p∈D,∃ l,keyOf P k p.1=some l) ∧
  w.heap[r]?=some (.mapIter (some b) since seen c0)∧(∀ x∈es.toList,x.born<since)∧since≤c0∧since≤clock∧((leftOf es seen).toList.map fun e=>(e.key,e.val)).Perm left
variable {P:Program} {k:TypeId} {w:World} {b r:Nat} {D left:List (Value×Value)}
theorem Ranging.map (h:Ranging w P k b r D left):MapAt w P k b D:=by
 obtain⟨es,clock,_,_,_,h1,h2,h3,h4,_⟩:=h
 exact⟨es,clock,h1,h2,h3,h4⟩
theorem Ranging.left_eq (h:Ranging w P k b r D left):w.rangeLeft b r=left.length:=by
 obtain⟨es,clock,since,seen,c0,hb,_,_,_,hr,_,_,_,hl⟩:=h
 simp only[World.rangeLeft,hb,hr]
 simpa using hl.length_eq
theorem Ranging.ne (h:Ranging w P k b r D left):r≠b:=by
 obtain⟨es,clock,since,seen,c0,hb,_,_,_,hr,_⟩:=h
 intro e
 rw[e,hb] at hr
 cases hr
theorem Ranging.lt (h:Ranging w P k b r D left):r<w.heap.size:=by
 obtain⟨es,clock,since,seen,c0,_,_,_,_,hr,_⟩:=h
 exact(Array.getElem?_eq_some_iff.1 hr).1
theorem Ranging.kept {w':World} (h:Ranging w P k b r D left) (hb:w'.heap[b]?=w.heap[b]?) (hr:w'.heap[r]?=w.heap[r]?):Ranging w' P k b r D left:=by
 obtain⟨es,clock,since,seen,c0,h1,h2,h3,h4,h5,h6⟩:=h
 exact⟨es,clock,since,seen,c0,hb.trans h1,h2,h3,h4,hr.trans h5,h6⟩
variable {t e:TypeId}
theorem MapAt.range (h:MapAt w P k b D) (ht:P.underlying t=some (.map k e)) :
 ∃ w',(Instr.range t (.map (some b))).run P w=.ok (.pointer (some ⟨w.heap.size,0,none⟩)) w'∧Ranging w' P k b w.heap.size D D∧w.grownBy w' none∧w'.heap.size=w.heap.size+1:=by
 have hlt:=h.lt
 obtain⟨es,clock,hb,hs,hp,hk⟩:=h
 refine⟨_,run_range_map w t k e b es clock ht hb,⟨es,clock,clock,#[],clock,((MapKept.heap_alloc w _).2 b hlt).trans hb,hs,hp,hk,(MapKept.heap_alloc w _).1,hs.1,Nat.le_refl _,Nat.le_refl _,?_⟩,World.grownBy_alloc w _ none,by simp⟩
 have:leftOf es #[]=es:=by simp[leftOf]
 rw[this]
 exact hp
theorem strike_left:∀ (l:List MapEntry) (p:MapEntry→Bool) (e:MapEntry),(l.map (·.born)).Nodup→e∈l→p e=true→(l.filter p).Perm (e::l.filter fun x=>p x&&!(x.born == e.born))
 | [],_,_,_,h,_=>by cases h
 | x::l,p,e,hn,he,hp=>by
  simp only[List.map_cons,List.nodup_cons] at hn
  rcases List.mem_cons.1 he with rfl | he'
  ·have h2:l.filter p=l.filter fun x=>p x&&!(x.born == e.born):=by
    refine List.filter_congr (fun y hy=>?_)
    have:(y.born == e.born)=false:=by
     simp only[beq_eq_false_iff_ne]
     intro hh
     exact hn.1 (List.mem_map.2 ⟨y,hy,hh⟩)
    simp[this]
   simp[hp,← h2]
  ·have hx:(x.born == e.born)=false:=by
    simp only[beq_eq_false_iff_ne]
    intro hh
    exact hn.1 (List.mem_map.2 ⟨e,he',hh.symm⟩)
   have ih:=strike_left l p e hn.2 he' hp
   simp only[List.filter_cons,hx,Bool.not_false,Bool.and_true]
   split
   ·exact(ih.cons x).trans (List.Perm.swap _ _ _)
   ·exact ih
theorem Ranging.next (h:Ranging w P k b r D left) (ty:TypeId) :
 (left=[]∧(Instr.next (.pointer (some ⟨r,0,none⟩)) false ty).run P w=.ok (.tuple #[.bool false]) w) ∨
 ∃ key val left' w',left.Perm ((key,val)::left')∧(Instr.next (.pointer (some ⟨r,0,none⟩)) false ty).run P w=.ok (.tuple #[.bool true,key,val]) w' ∧
  Ranging w' P k b r D left'∧w.grownBy w' (some r)∧w'.heap.size=w.heap.size∧(Instr.entry (.pointer (some ⟨r,0,none⟩))).run P w'=.ok (.tuple #[key,val]) w':=by
 have hne:=h.ne
 obtain⟨es,clock,since,seen,c0,hb,hs,hp,hk,hr,hold,hsc,hsk,hl⟩:=h
 have hst:=(stamped_iff es clock).1 hs
 rcases run_next_at (P:=P) w ty r b since c0 seen es clock hr hb hold hsc with⟨h0,hrun⟩ | ⟨e,he,w1,hal,hrun⟩
 ·refine Or.inl ⟨?_,hrun⟩
  have:left.length=0:=by rw[← hl.length_eq];simpa using h0
  exact List.eq_nil_of_length_eq_zero this
 ·obtain⟨hem,hes⟩:=mem_left he
  have hr1:w1.heap[r]?=some (.mapIter (some b) since seen c0):=by rcases hal with rfl | rfl<;>exact hr
  have hb1:w1.heap[b]?=some (.map es clock):=by rcases hal with rfl | rfl<;>exact hb
  have hset:=heap_set (o':=.mapIter (some b) since (seen.push e.born) clock) hr1
  have hb':(setBlock w1 r (.mapIter (some b) since (seen.push e.born) clock)).heap[b]?=some (.map es clock):=(hset.2 b (fun e1=>hne e1.symm)).trans hb1
  refine Or.inr ⟨e.key,e.val,(leftOf es (seen.push e.born)).toList.map fun e=>(e.key,e.val),_,?_,hrun,⟨es,clock,since,seen.push e.born,clock,hb',hs,hp,hk,hset.1,hold,hsk,hsk,List.Perm.refl _⟩,?_,?_,
   run_entry_at _ r b since seen es clock e hset.1 hb' hem hst.2.1⟩
  ·refine hl.symm.trans ?_
   have h1:=strike_left es.toList (fun e=>!seen.contains e.born) e hst.2.1 hem (by simp only[hes];rfl)
   have h2:(leftOf es (seen.push e.born)).toList=es.toList.filter fun x=>!seen.contains x.born&&!(x.born == e.born):=by
    simp only[leftOf,Array.toList_filter]
    refine List.filter_congr (fun x _=>?_)
    rw[contains_push]
    cases seen.contains x.born<;>cases(x.born == e.born)<;>rfl
   rw[h2]
   have h3:(leftOf es seen).toList=es.toList.filter fun e=>!seen.contains e.born:=by simp only[leftOf,Array.toList_filter]
   rw[h3]
   exact h1.map (fun e=>(e.key,e.val))
  ·rcases hal with rfl | rfl<;>exact⟨rfl,rfl,rfl,by simp[setBlock],fun i _ hi=>hset.2 i (fun e1=>hi (by rw[e1]))⟩
  ·rcases hal with rfl | rfl<;>simp[setBlock]
end Go.Proofs.YtdcofoaihmongaaGreat
namespace Go.Proofs.YtdcofoaihmongaaGreat
open Go Go.WideMaps
section
variable {P:Program} (w:World) {ops:Array Oper} {rest:List Oper} {o:Oper} {a:Act} {Q:Exit→Act→World→Prop}
theorem wpList_put (hg:o.guard=none) (m x v:Operand) (t:TypeId) (hop:o.op=Op.mapUpdate t m x v) (mv key val:Value) (hm:a.eval m=mv) (hx:a.eval x=key) (hv:a.eval v=val)
 (Post:World→Prop) (hrun:∃ w',(Instr.mapUpdate t mv key val).run P w=.ok () w'∧Post w')
 (hK:∀ w',Post w'→wpList P ops Q rest (a.put o.dst undef) w'):wpList P ops Q (o::rest) a w:=by
 refine wpList_plain hg fun K' hK'=>?_
 obtain⟨w',hr,hp⟩:=hrun
 unfold Oper.wp
 simp[execOp,hop,hm,hx,hv,hr,Result.andThen]
 exact hK' _ _ (hK w' hp)
theorem wpList_range_at (hg:o.guard=none) (m:Operand) (t:TypeId) (hop:o.op=Op.range t m) (k e:TypeId) (ht:P.underlying t=some (.map k e)) (b:Nat) (D:List (Value×Value)) (hm:a.eval m=.map (some b)) (h:MapAt w P k b D)
 (hK:∀ w',Ranging w' P k b w.heap.size D D→w.grownBy w' none→w'.heap.size=w.heap.size+1→wpList P ops Q rest (a.put o.dst (.pointer (some ⟨w.heap.size,0,none⟩))) w') :
 wpList P ops Q (o::rest) a w:=by
 refine wpList_plain hg fun K' hK'=>?_
 obtain⟨w',hrun,r1,r2,r3⟩:=h.range ht
 unfold Oper.wp
 simp[execOp,hop,hm,hrun,Result.andThen]
 exact hK' _ _ (hK w' r1 r2 r3)
end
theorem MapAt.len {P:Program} {k:TypeId} {w:World} {b:Nat} {D:List (Value×Value)} {t e:TypeId} (h:MapAt w P k b D) (ht:P.underlying t=some (.map k e)) (ty:TypeId) :
 (Builtin.len_ #[t] ty #[.map (some b)]).run P w=.ok (.int .i64 D.length) w:=by
 obtain⟨es,clock,hb,hl⟩:=h.size
 simp[Builtin.len_,run_underlying ht,MapKept.run_getObj_map hb,goInt,Result.andThen,hl]
end Go.Proofs.YtdcofoaihmongaaGreat
namespace Go.Proofs.YtdcofoaihmongaaGreat
open Go.RowKit
def infoB (o:Option TypeInfo) (k b:Nat):Bool :=
 match o with
 | some i=>(match i.zero with | some z=>z.cells.size == k | none=>false)&&i.size == k&&i.bytes == b
 | none=>false
theorem infoOf {o:Option TypeInfo} {k b:Nat} (h:infoB o k b=true):∃ i z,o=some i∧i.zero=some z∧i.size=k∧i.bytes=b∧z.cells.size=k:=by
 unfold infoB at h
 split at h
 ·rename_i i
  split at h
  ·rename_i z hz
   simp only[Bool.and_eq_true,beq_iff_eq] at h
   exact⟨i,z,rfl,hz,h.1.2,h.2,h.1.1⟩
  ·simp at h
 ·simp at h
theorem ret_val {a b:Value} (h:a=b):Ending.returned a=.returned b:=by rw[h]
theorem ret_int {k:IntKind} {a b:Int} (h:a=b):Ending.returned (.int k a)=.returned (.int k b):=by rw[h]
theorem ret_bool {a b:Bool} (h:a=b):Ending.returned (.bool a)=.returned (.bool b):=by rw[h]
theorem take_snoc {α} {l:List α} {k:Nat} {t:α} (h:l[k]?=some t):l.take (k+1)=l.take k++[t]:=by
 rw[List.take_add_one,h];rfl
theorem eq_of_at {α} {a b:List α} (hl:a.length=b.length) (h:∀ i,i<a.length→a[i]?=b[i]?):a=b:=by
 refine List.ext_getElem? fun i=>?_
 by_cases hi:i<a.length
 ·exact h i hi
 ·rw[List.getElem?_eq_none (by omega),List.getElem?_eq_none (by omega)]
theorem flat_at {α} {f:α→List Value} {k:Nat} (hf:∀ x,(f x).length=k) {l:List α} {i:Nat} {t:α} (h:l[i]?=some t) (j:Nat) (hj:j<k):(l.flatMap f)[i*k+j]?=(f t)[j]?:=by
 induction l generalizing i with
 | nil=>simp at h
 | cons x l ih =>
  have hl:=hf x
  cases i with
  | zero =>
   simp at h
   subst h
   rw[List.flatMap_cons,Nat.zero_mul,Nat.zero_add,List.getElem?_append_left (by omega)]
  | succ i =>
   have:=ih (i:=i) (by simpa using h)
   rw[List.flatMap_cons,List.getElem?_append_right (by rw[hl,Nat.add_mul];omega),← this]
   congr 1
   rw[hl,Nat.add_mul];omega
theorem flat_length {α} {f:α→List Value} {k:Nat} (hf:∀ x,(f x).length=k) (l:List α):(l.flatMap f).length=l.length*k:=by
 induction l with
 | nil=>simp
 | cons x l ih=>rw[List.flatMap_cons,List.length_append,hf,ih,List.length_cons,Nat.add_mul];omega
def SliceAt (w:World) (v:Value) (k n:Nat) (cs:List Value):Prop :=
 cs.length=n*k∧n≤maxLen∧(∀ u∈cs,u.oneCell'=true) ∧
  ((v=.slice none 0 0∧n=0)∨∃ a c,v=.slice (some a) n c∧n≤c∧∀ j u,cs[j]?=some u→w.cell? (a.add j)=some u)
theorem block_add (a:Addr) (n:Nat):(a.add n).block=a.block:=by unfold Addr.add;split<;>rfl
theorem SliceAt.keep {w w':World} {v:Value} {k n:Nat} {cs:List Value} (h:SliceAt w v k n cs) (hb:Below w.heap.size w w'):SliceAt w' v k n cs :=
 ⟨h.1,h.2.1,h.2.2.1,h.2.2.2.imp id fun⟨a,c,hv,hn,hc⟩=>⟨a,c,hv,hn,fun j u hu=>cell_later hb (hc j u hu)⟩⟩
theorem SliceAt.nil (w:World) (k:Nat):SliceAt w (.slice none 0 0) k 0 []:=⟨by simp,by simp[maxLen],by simp,.inl ⟨rfl,rfl⟩⟩
theorem spot_none {w:World} {a:Addr} {u:Value} (h:w.cell? (a.add 0)=some u):∃ b off,a=⟨b,off,none⟩:=by
 obtain⟨b,off,s⟩:=a
 refine⟨b,off,?_⟩
 cases s with
 | none=>rfl
 | some x =>
  exfalso
  unfold World.cell? Addr.add at h
  split at h<;>simp at h
theorem SliceAt.form {w:World} {v:Value} {k n:Nat} {cs:List Value} (h:SliceAt w v k n cs) (hk:0<k) :
 ∃ a c,v=.slice a n c∧n≤c∧n≤9223372036854775807∧∀ i,i<n→∃ b off,a=some ⟨b,off,none⟩∧∀ j u,cs[i*k+j]?=some u→w.cell? ⟨b,off+i*k+j,none⟩=some u:=by
 have hm:=h.2.1
 unfold maxLen at hm
 rcases h.2.2.2 with⟨rfl,rfl⟩ | ⟨a,c,rfl,hn,hc⟩
 ·exact⟨none,0,rfl,Nat.le_refl _,by omega,fun i hi=>by omega⟩
 ·refine⟨_,c,rfl,hn,by omega,fun i hi=>?_⟩
  have hlt:i*k<cs.length:=by rw[h.1];exact Nat.mul_lt_mul_of_pos_right hi hk
  obtain⟨b,off,rfl⟩:=spot_none (hc 0 _ (List.getElem?_eq_getElem (by omega)))
  exact⟨b,off,rfl,fun j u hu=>by have:=hc _ u hu;rwa [Addr.add_mid,← Nat.add_assoc] at this⟩
theorem SliceAt.of_own {w:World} {base:Nat} {e:TypeId} {k n:Nat} {v:Value} {cs:List Value} (h:w.ownsRow base e k v n cs) (h1:∀ u∈cs,u.oneCell'=true):SliceAt w v k n cs:=by
 refine⟨h.1,?_,h1,?_⟩
 ·rcases h.2 with⟨_,rfl⟩ | ⟨g,cap,cur,_,_,_,hn,hc,_⟩
  ·simp[maxLen]
  ·omega
 ·rcases h.2 with h2 | ⟨g,cap,cur,rfl,_,hg,hn,hc,hs,ht⟩
  ·exact .inl h2
  ·exact .inr ⟨_,cap,rfl,hn,World.ownsRow.cells h (g:=g) rfl⟩
def Whole (w:World) (g:Nat) (t:TypeId) (cs:Array Value):Prop:=w.heap[g]?=some (.cells cs t (0,0))
section
variable {w w':World} {g:Nat} {t:TypeId} {cs:Array Value}
theorem Whole.lt (h:Whole w g t cs):g<w.heap.size:=by
 rcases Nat.lt_or_ge g w.heap.size with hlt | hge
 ·exact hlt
 ·unfold Whole at h;rw[Array.getElem?_eq_none hge] at h;cases h
theorem Whole.cell (h:Whole w g t cs) (i:Nat):w.cell? ⟨g,i,none⟩=cs[i]?:=cell_of_row w g i cs t (0,0) h
theorem Whole.frozen (h:Whole w g t cs) (i:Nat):w.frozen? ⟨g,i,none⟩=false:=frozen_of_row w g i cs t h
theorem Whole.new (w:World) (t:TypeId) (cs:Array Value):Whole (w.alloc (.cells cs t)) w.heap.size t cs:=heap_alloc_new w _
theorem Whole.alloc (h:Whole w g t cs) (o:Obj):Whole (w.alloc o) g t cs:=(Below.heap_alloc w o g h.lt).trans h
theorem Whole.drewN (h:Whole w g t cs) (n:Nat):Whole (w.drewN n) g t cs:=h
theorem Whole.below {B:Nat} (h:Whole w g t cs) (hb:Below B w w') (hg:g<B):Whole w' g t cs:=(hb.block g hg).trans h
theorem Whole.under {B:Nat} (hb:Below B w w') (h:Whole w g t cs) (hg:g<B):Whole w' g t cs:=h.below hb hg
theorem Whole.grown {row:Option Nat} (h:Whole w g t cs) (hb:w.grownBy w' row) (hg:some g≠row):Whole w' g t cs:=(hb.block g h.lt hg).trans h
end
structure Sto (w w':World) (g:Nat):Prop where
 os:w'.os=w.os
 tape:w'.tape=w.tape
 output:w'.output=w.output
 size:w'.heap.size=w.heap.size
 block:∀ k,k≠g→w'.heap[k]?=w.heap[k]?
theorem Sto.refl (w:World) (g:Nat):Sto w w g:=⟨rfl,rfl,rfl,rfl,fun _ _=>rfl⟩
theorem Sto.trans {a b c:World} {g:Nat} (h:Sto a b g) (k:Sto b c g):Sto a c g :=
 ⟨k.os.trans h.os,k.tape.trans h.tape,k.output.trans h.output,k.size.trans h.size,fun i hi=>(k.block i hi).trans (h.block i hi)⟩
theorem Sto.cell (w:World) (g i:Nat) (v:Value):Sto w (w.setCell ⟨g,i,none⟩ v) g :=
 ⟨rfl,rfl,rfl,by simp[World.setCell],fun k hk=>heap_setCell_other w _ k v hk⟩
theorem Sto.below {w w':World} {g B:Nat} (h:Sto w w' g) (hg:B≤g):Below B w w' :=
 ⟨h.os,h.tape,h.output,by rw[h.size];exact Nat.le_refl _,fun k hk=>h.block k (by omega)⟩
theorem Sto.whole {w w':World} {g g':Nat} {t:TypeId} {cs:Array Value} (h:Sto w w' g) (hw:Whole w g' t cs) (hne:g'≠g):Whole w' g' t cs:=(h.block g' hne).trans hw
theorem Sto.grown {w w':World} {g:Nat} (h:Sto w w' g):w.grownBy w' (some g) :=
 ⟨h.os,h.tape,h.output,by rw[h.size];exact Nat.le_refl _,fun k _ hk=>h.block k fun e=>hk (by rw[e])⟩
theorem Sto.own {w w':World} {g base:Nat} {e:TypeId} {size n:Nat} {v:Value} {xs:List Value} (h:Sto w w' g) (ho:w.ownsRow base e size v n xs) (hne:v.ownBlock≠some g):w'.ownsRow base e size v n xs :=
 ho.kept h.grown (.inr hne)
theorem Sto.cell' {w w':World} {g:Nat} (h:Sto w w' g) {a:Addr} (ha:a.block≠g):w'.cell? a=w.cell? a:=World.cell?_of_block (h.block _ ha)
theorem Sto.slice {w w':World} {g:Nat} {v:Value} {k n:Nat} {cs:List Value} (h:Sto w w' g) (hs:SliceAt w v k n cs) (hne:v.ownBlock≠some g):SliceAt w' v k n cs :=
 ⟨hs.1,hs.2.1,hs.2.2.1,hs.2.2.2.imp id fun⟨a,c,hv,hn,hc⟩=>⟨a,c,hv,hn,fun j u hu=>(h.cell' (by rw[block_add];intro e;exact hne (by rw[hv];exact congrArg some e))).trans (hc j u hu)⟩⟩
theorem own_low {w:World} {base base':Nat} {e:TypeId} {size n:Nat} {v:Value} {xs:List Value} (h:w.ownsRow base e size v n xs) (hb:base'≤base):w.ownsRow base' e size v n xs :=
 ⟨h.1,h.2.imp id fun⟨g,cap,cur,hv,hg,r⟩=>⟨g,cap,cur,hv,Nat.le_trans hb hg,r⟩⟩
def splice (cs:Array Value) (o:Nat):List Value→Array Value
 | []=>cs
 | v::r=>splice (cs.setIfInBounds o v) (o+1) r
theorem splice_size (cs:Array Value) (o:Nat) (l:List Value):(splice cs o l).size=cs.size:=by
 induction l generalizing cs o with
 | nil=>rfl
 | cons v r ih=>rw[splice,ih];simp
theorem splice_toList (cs:Array Value) (o:Nat) (l:List Value) (h:o+l.length≤cs.size):(splice cs o l).toList=cs.toList.take o++l++cs.toList.drop (o+l.length):=by
 induction l generalizing cs o with
 | nil=>simp[splice]
 | cons v r ih =>
  simp only[List.length_cons] at h
  rw[splice,ih _ _ (by rw[Array.size_setIfInBounds];omega)]
  rw[Array.toList_setIfInBounds,List.length_cons,List.drop_set_of_lt (by omega),List.take_succ_eq_append_getElem (by rw[List.length_set,Array.length_toList];omega)]
  rw[List.getElem_set_self,List.take_set_of_le (Nat.le_refl _)]
  simp only[List.append_assoc,List.cons_append,List.nil_append]
  rw[show o+1+r.length=o+(r.length+1) by omega]
theorem setCells_blk {g:Nat} {t:TypeId}:∀ (l:List Value) (o:Nat) (cs:Array Value) (w:World),Whole w g t cs→Sto w (w.setCells g o l) g∧Whole (w.setCells g o l) g t (splice cs o l)
 | [],_,_,w,h=>⟨Sto.refl w g,h⟩
 | v::r,o,cs,w,h=>by
  have h1:Whole (w.setCell ⟨g,o,none⟩ v) g t (cs.setIfInBounds o v):=heap_setCell_same w g o cs t v h
  have:=setCells_blk r (o+1) _ _ h1
  exact⟨(Sto.cell w g o v).trans this.1,this.2⟩
theorem own_open {w:World} {base:Nat} {e:TypeId} {k n:Nat} {v:Value} {cs:List Value} (h:w.ownsRow base e k v n cs) (hn:0<n) :
 ∃ g cap cur,v=.slice (some ⟨g,0,none⟩) n cap∧base≤g∧Whole w g e cur∧n≤cap∧cap≤maxLen∧cur.size=cap*k∧cur.toList.take (n*k)=cs:=by
 rcases h.2 with⟨_,rfl⟩ | ⟨g,cap,cur,hv,hg,hh,h1,h2,h3,h4⟩
 ·omega
 ·exact⟨g,cap,cur,hv,hg,hh,h1,h2,h3,h4⟩
theorem flatten_row {k:Nat} {xs:List (List Value)} (hx:∀ x∈xs,x.length=k) {i:Nat} {x:List Value} (h:xs[i]?=some x) (j:Nat) (hj:j<k):xs.flatten[i*k+j]?=x[j]?:=by
 induction xs generalizing i with
 | nil=>simp at h
 | cons y xs ih =>
  have hy:=hx y (by simp)
  cases i with
  | zero =>
   simp at h
   subst h
   rw[List.flatten_cons,Nat.zero_mul,Nat.zero_add,List.getElem?_append_left (by omega)]
  | succ i =>
   have:=ih (fun z hz=>hx z (by simp[hz])) (i:=i) (by simpa using h)
   rw[List.flatten_cons,List.getElem?_append_right (by rw[hy,Nat.add_mul];omega),← this]
   congr 1
   rw[hy,Nat.add_mul];omega
section
variable {P:Program}
theorem run_storeVar_any (w:World) (b o:Nat) (ty:TypeId) (v:Value) (ht:w.there b o v.cells.size) (hi:(P.info? ty).map (·.size)=some v.cells.size) (h1:v.cells.toList.all (·.oneCell')=true) :
 (storeVar ty ⟨b,o,none⟩ v).run P w=.ok () (w.setCells b o v.cells.toList):=by
 have h:=run_storeVar_mid (P:=P) w b o ty v.cells ht hi (by rw[← Array.all_toList];exact h1)
 have e:(Value.agg v.cells).cells=v.cells:=rfl
 unfold storeVar at h ⊢
 rw[e] at h
 exact h
theorem Whole.there {w:World} {g:Nat} {t:TypeId} {cs:Array Value} (h:Whole w g t cs) (o n:Nat) (hn:o+n≤cs.size):w.there g o n:=fun j hj=>by
 refine⟨?_,h.frozen _⟩
 rw[h.cell,Array.getElem?_eq_getElem (by omega)]
 rfl
theorem wp_store_blk {op:Oper} {a:Act} {w:World} {K:Act→World→Prop} {Q:Exit→Act→World→Prop} (ty:TypeId) (x y:Operand) (ho:op.op=.store ty x y)
 (g o:Nat) (v:Value) (hx:a.eval x=.pointer (some ⟨g,o,none⟩)) (hy:a.eval y=v) (t:TypeId) (cs:Array Value) (hw:Whole w g t cs) (hfit:o+v.cells.size≤cs.size)
 (hi:(P.info? ty).map (·.size)=some v.cells.size) (h1:v.cells.toList.all (·.oneCell')=true)
 (h:∀ w',Sto w w' g→Whole w' g t (splice cs o v.cells.toList)→K (a.put op.dst undef) w'):op.wp P a w K Q:=by
 unfold Oper.wp execOp
 simp only[ho,hx,hy,Instr.storeAt,Instr.sureAddr,Sem.run_bind,Sem.run_pure,Result.andThen_ok,run_storeVar_any w g o ty v (hw.there o _ hfit) hi h1]
 have:=setCells_blk v.cells.toList o cs w hw
 exact h _ this.1 this.2
theorem wpList_store_blk {ops:Array Oper} {rest:List Oper} {op:Oper} {a:Act} {w:World} {Q:Exit→Act→World→Prop} (hgd:op.guard=none) (ty:TypeId) (x y:Operand) (ho:op.op=.store ty x y)
 (g o:Nat) (v:Value) (hx:a.eval x=.pointer (some ⟨g,o,none⟩)) (hy:a.eval y=v) (t:TypeId) (cs:Array Value) (hw:Whole w g t cs) (hfit:o+v.cells.size≤cs.size)
 (hi:(P.info? ty).map (·.size)=some v.cells.size) (h1:v.cells.toList.all (·.oneCell')=true)
 (h:∀ w',Sto w w' g→Whole w' g t (splice cs o v.cells.toList)→wpList P ops Q rest (a.put op.dst undef) w'):wpList P ops Q (op::rest) a w :=
 wpList_plain hgd fun _ hK=>wp_store_blk ty x y ho g o v hx hy t cs hw hfit hi h1 fun w' h2 h3=>hK _ _ (h w' h2 h3)
end
theorem below_of_alloc {w w':World} {o:Obj} (h:Below (w.heap.size+1) (w.alloc o) w'):Below w.heap.size w w':=((Below.refl _ w).alloc (Nat.le_refl _) _).trans (h.mono (by omega))
end Go.Proofs.YtdcofoaihmongaaGreat
namespace Go.Proofs.YtdcofoaihmongaaGreat
open Go.RowKit Go.ChangeShapes Go.WideShapes Go.ChangeAt
def Parts (P:Program) (p:TypeId→List Value→Prop):List TypeId→List Value→Prop
 | [],cs=>cs=[]
 | t::ts,cs=>∃ a b,cs=a++b∧a.length=P.cellsOf t∧p t a∧Parts P p ts b
def Rd (P:Program) (w:World):Nat→TypeId→List Value→Prop
 | 0,_,_=>False
 | f+1,t,cs =>
  match P.underlying t with
  | some .bool=>∃ b,cs=[.bool b]
  | some (.int k)=>∃ n,cs=[.int k n]∧(Lit.int k n).wf=true
  | some .string=>∃ s,cs=[.string s]∧s.size≤reachBytes
  | some (.slice e)=>∃ v,cs=[v]∧∃ es:List (List Value),SliceAt w v (P.cellsOf e) es.length es.flatten∧(∀ x∈es,x.length=P.cellsOf e∧Rd P w f e x)∧es.length*P.bytesOf e≤reachBytes
  | some (.struct fs)=>Parts P (Rd P w f) (fs.toList.map (·.type)) cs
  | some (.array n e)=>∃ es:List (List Value),cs=es.flatten∧es.length=n∧∀ x∈es,x.length=P.cellsOf e∧Rd P w f e x
  | _=>∃ v,cs=[v]∧v.oneCell'=true
theorem Parts.mono {P:Program} {p q:TypeId→List Value→Prop} (h:∀ t cs,p t cs→q t cs):∀ {ts:List TypeId} {cs:List Value},Parts P p ts cs→Parts P q ts cs
 | [],_,hp=>hp
 | _::_,_,⟨a,b,e,hl,ha,hb⟩=>⟨a,b,e,hl,h _ _ ha,Parts.mono h hb⟩
theorem Parts.one {P:Program} {p:TypeId→List Value→Prop} (h:∀ t cs,p t cs→∀ u∈cs,u.oneCell'=true):∀ {ts:List TypeId} {cs:List Value},Parts P p ts cs→∀ u∈cs,u.oneCell'=true
 | [],_,hp,u,hu=>by rw[show _=[] from hp] at hu;cases hu
 | _::_,_,⟨a,b,e,hl,ha,hb⟩,u,hu=>by
  subst e
  rcases List.mem_append.1 hu with h1 | h1
  ·exact h _ _ ha u h1
  ·exact Parts.one h hb u h1
theorem Rd.one {P:Program} {w:World}:∀ {f:Nat} {t:TypeId} {cs:List Value},Rd P w f t cs→∀ u∈cs,u.oneCell'=true
 | 0,_,_,h,_,_=>h.elim
 | f+1,t,cs,h,u,hu=>by
  unfold Rd at h
  split at h
  ·obtain⟨b,rfl⟩:=h;simp at hu;subst hu;rfl
  ·obtain⟨b,rfl,_⟩:=h;simp at hu;subst hu;rfl
  ·obtain⟨b,rfl,_⟩:=h;simp at hu;subst hu;rfl
  ·obtain⟨v,rfl,es,hs,_⟩:=h
   simp at hu;subst hu
   rcases hs.2.2.2 with⟨rfl,_⟩ | ⟨a,c,rfl,_⟩<;>rfl
  ·exact Parts.one (fun t cs h=>Rd.one h) h u hu
  ·obtain⟨es,rfl,_,hx⟩:=h
   obtain⟨x,hx1,hx2⟩:=List.mem_flatten.1 hu
   exact Rd.one (hx x hx1).2 u hx2
  ·obtain⟨v,rfl,hv⟩:=h;simp at hu;subst hu;exact hv
theorem Rd.keep {P:Program} {w w':World} (hb:Below w.heap.size w w'):∀ {f:Nat} {t:TypeId} {cs:List Value},Rd P w f t cs→Rd P w' f t cs
 | 0,_,_,h=>h
 | f+1,t,cs,h=>by
  unfold Rd at h ⊢
  split at h
  ·exact h
  ·exact h
  ·exact h
  ·obtain⟨v,rfl,es,hs,hx,hr⟩:=h
   exact⟨v,rfl,es,hs.keep hb,fun x hx1=>⟨(hx x hx1).1,Rd.keep hb (hx x hx1).2⟩,hr⟩
  ·exact Parts.mono (fun t cs h=>Rd.keep hb h) h
  ·obtain⟨es,rfl,hn,hx⟩:=h
   exact⟨es,rfl,hn,fun x hx1=>⟨(hx x hx1).1,Rd.keep hb (hx x hx1).2⟩⟩
  ·exact h
section
variable {P:Program} {w:World} {f:Nat} {t:TypeId} {cs:List Value}
theorem Rd.bool (h:Rd P w f t cs) (hu:P.underlying t=some .bool):∃ b,cs=[.bool b]:=by
 cases f with
 | zero=>exact h.elim
 | succ f=>unfold Rd at h;rw[hu] at h;exact h
theorem Rd.int {k:IntKind} (h:Rd P w f t cs) (hu:P.underlying t=some (.int k)):∃ n,cs=[.int k n]∧(Lit.int k n).wf=true:=by
 cases f with
 | zero=>exact h.elim
 | succ f=>unfold Rd at h;rw[hu] at h;exact h
theorem Rd.string (h:Rd P w f t cs) (hu:P.underlying t=some .string):∃ s,cs=[.string s]∧s.size≤reachBytes:=by
 cases f with
 | zero=>exact h.elim
 | succ f=>unfold Rd at h;rw[hu] at h;exact h
theorem Rd.slice {e:TypeId} (h:Rd P w f t cs) (hu:P.underlying t=some (.slice e)) :
 ∃ f' v,f=f'+1∧cs=[v]∧∃ es:List (List Value),SliceAt w v (P.cellsOf e) es.length es.flatten∧(∀ x∈es,x.length=P.cellsOf e∧Rd P w f' e x)∧es.length*P.bytesOf e≤reachBytes:=by
 cases f with
 | zero=>exact h.elim
 | succ f=>unfold Rd at h;rw[hu] at h;obtain⟨v,hv,es,hes⟩:=h;exact⟨f,v,rfl,hv,es,hes⟩
theorem Rd.struct {fs:Array Field} (h:Rd P w f t cs) (hu:P.underlying t=some (.struct fs)):∃ f',f=f'+1∧Parts P (Rd P w f') (fs.toList.map (·.type)) cs:=by
 cases f with
 | zero=>exact h.elim
 | succ f=>unfold Rd at h;rw[hu] at h;exact⟨f,rfl,h⟩
theorem Rd.array {n:Nat} {e:TypeId} (h:Rd P w f t cs) (hu:P.underlying t=some (.array n e)):∃ f',f=f'+1∧∃ es:List (List Value),cs=es.flatten∧es.length=n∧∀ x∈es,x.length=P.cellsOf e∧Rd P w f' e x:=by
 cases f with
 | zero=>exact h.elim
 | succ f=>unfold Rd at h;rw[hu] at h;exact⟨f,rfl,h⟩
theorem SliceAt.shape {v:Value} {k n:Nat} (h:SliceAt w v k n cs):∃ a c,v=.slice a n c:=by
 rcases h.2.2.2 with⟨rfl,rfl⟩ | ⟨a,c,rfl,_⟩
 ·exact⟨_,_,rfl⟩
 ·exact⟨_,_,rfl⟩
end
section
variable {H:Type} {enc:TypeId×Value→H} {P:Program} {w:World} {spare:Nat→Bool}
theorem cells_row {a:Addr} {n:Nat} {cs:List Value} (h:w.cells? 0 a n=some cs):cs.length=n∧∀ j u,cs[j]?=some u→w.cell? (a.add j)=some u:=by
 obtain⟨_,hl,hc⟩:=World.cells?_some h
 refine⟨hl,fun j u hu=>?_⟩
 have hj:=(List.getElem?_eq_some_iff.1 hu).1
 rw[hc j (by omega),hu]
theorem flatten_at {es:List (List Value)} {k:Nat} (hk:∀ x∈es,x.length=k) (j:Nat) (u:Value) (h:es.flatten[j]?=some u):∃ i x r,es[i]?=some x∧r<k∧j=i*k+r∧x[r]?=some u:=by
 induction es generalizing j with
 | nil=>simp at h
 | cons x es ih =>
  have hx:=hk x (by simp)
  rw[List.flatten_cons] at h
  by_cases hj:j<k
  ·rw[List.getElem?_append_left (by omega)] at h
   exact⟨0,x,j,rfl,hj,by omega,h⟩
  ·rw[List.getElem?_append_right (by omega)] at h
   obtain⟨i,y,r,h1,h2,h3,h4⟩:=ih (fun y hy=>hk y (by simp[hy])) _ h
   exact⟨i+1,y,r,by simpa using h1,h2,by rw[Nat.add_mul];omega,h4⟩
theorem add_add (a:Addr) (i j:Nat):(a.add i).add j=a.add (i+j):=by
 unfold Addr.add
 by_cases hi:i=0<;>by_cases hj:j=0<;>simp[hi,hj,Nat.add_assoc]
theorem weights_all {e:TypeId} {l:List (DataW H)} {d:DataW H} (hd:d∈l) {n:Nat} (hn:n∈d.weights P e):n∈DataW.weightsAll P e l:=by
 induction l with
 | nil=>cases hd
 | cons x l ih =>
  simp only[DataW.weightsAll,List.mem_append]
  rcases List.mem_cons.1 hd with rfl | h
  ·exact .inl hn
  ·exact .inr (ih h)
theorem parts_of {p:TypeId→List Value→Prop}:∀ (ts:List TypeId) (cs:List Value),cs.length=(ts.map fun t=>P.cellsOf t).sum →
 (∀ (j:Nat) (t:TypeId),ts[j]?=some t→p t ((cs.drop ((ts.take j).map fun t=>P.cellsOf t).sum).take (P.cellsOf t)))→Parts P p ts cs
 | [],cs,hl,_=>by simpa[Parts] using hl
 | t::ts,cs,hl,h=>by
  simp only[List.map_cons,List.sum_cons] at hl
  refine⟨cs.take (P.cellsOf t),cs.drop (P.cellsOf t),(List.take_append_drop _ _).symm,by rw[List.length_take];omega,by simpa using h 0 t rfl,parts_of ts _ (by rw[List.length_drop];omega) fun j u hu=>?_⟩
  have:=h (j+1) u (by simpa using hu)
  rw[List.drop_drop]
  simpa[List.take_succ_cons] using this
theorem Rd.of_trod {held:Bool} (hl:laidOutB P=true):∀ (f:Nat) (t:TypeId) (cs:List Value) (d:DataW H) (ps:List MemPlace),isVar P t=true →
 DataW.trod enc P w 0 (fun _=>true) held f t cs=some (d,ps)→(∀ n∈d.weights P t,n≤reachBytes)→Rd P w f t cs
 | 0,t,cs,d,ps,_,h,_=>by simp[DataW.trod] at h
 | f+1,t,cs,d,ps,hv,h,hw=>by
  have hlt:t<P.types.size:=by
   unfold isVar at hv
   simp only[Bool.and_eq_true,decide_eq_true_eq] at hv
   exact hv.1
  have hrow:=rowFine_of_laidOut hl hlt
  unfold rowFine at hrow
  rw[hv] at hrow
  simp only[Bool.not_true,Bool.false_or] at hrow
  unfold Rd
  split
  ·rename_i hu
   obtain⟨b,rfl,_⟩:=DataW.trod_bool hu h
   exact⟨b,rfl⟩
  ·rename_i k hu
   obtain⟨n,rfl,_,hwf⟩:=DataW.trod_int hu h
   exact⟨n,rfl,hwf⟩
  ·rename_i hu
   obtain⟨s,rfl,hx,_⟩:=DataW.trod_string hu h
   refine⟨s,rfl,?_⟩
   simp only[Prod.mk.injEq] at hx
   obtain⟨rfl,_⟩:=hx
   have:=hw s.data.toList.length (by simp[DataW.weights])
   rwa [Array.length_toList] at this
  ·rename_i e hu
   rw[hu] at hrow
   simp only[Bool.and_eq_true,beq_iff_eq] at hrow
   rcases DataW.trod_slice hu h with⟨rfl,_⟩ | ⟨a,len,cap,elems,rest,n,hf,rfl,hx,_,hlc,hcm,hel,hcell,hrest,_⟩
   ·exact⟨_,rfl,[],SliceAt.nil _ _,by simp,by simp⟩
   ·obtain rfl:f=n:=by omega
    simp only[Prod.mk.injEq] at hx
    obtain⟨rfl,_⟩:=hx
    have hw1:=hw ((elems.length+rest.length)*P.bytesOf e) (by rw[DataW.weights,hu];simp)
    have hw2:∀ x∈elems,∀ n∈x.1.weights P e,n≤reachBytes:=fun x hx n hn=>hw n (by
     rw[DataW.weights,hu]
     exact List.mem_cons_of_mem _ (List.mem_append_left _ (weights_all (List.mem_map_of_mem hx) hn)))
    have each:∀ i,i<len→∃ es x,w.cells? 0 (a.add (i*P.cellsOf e)) (P.cellsOf e)=some es∧elems[i]?=some x∧DataW.trod enc P w 0 (fun _=>true) held f e es=some x:=fun i hi=>by
     have hi':i<elems.length:=by omega
     have:=hcell i hi
     rw[List.getElem?_eq_getElem hi'] at this
     obtain⟨es,h1,h2⟩:=Option.bind_eq_some_iff.1 this
     exact⟨es,_,h1,List.getElem?_eq_getElem hi',h2⟩
    let es:List (List Value):=(List.range len).map fun i=>(w.cells? 0 (a.add (i*P.cellsOf e)) (P.cellsOf e)).getD []
    have hes:∀ i x,es[i]?=some x→i<len∧w.cells? 0 (a.add (i*P.cellsOf e)) (P.cellsOf e)=some x:=fun i x hx=>by
     have hi:i<len:=by have:=(List.getElem?_eq_some_iff.1 hx).1;simpa[es] using this
     obtain⟨y,_,h1,_⟩:=each i hi
     simp only[es,List.getElem?_map,List.getElem?_range hi,Option.map_some,h1,Option.getD_some,Option.some.injEq] at hx
     exact⟨hi,by rw[h1,hx]⟩
    have hlen:es.length=len:=by simp[es]
    have hk:∀ x∈es,x.length=P.cellsOf e:=fun x hx=>by
     obtain⟨i,hi⟩:=List.getElem?_of_mem hx
     exact(cells_row (hes i x hi).2).1
    have hrd:∀ x∈es,Rd P w f e x:=fun x hx=>by
     obtain⟨i,hi⟩:=List.getElem?_of_mem hx
     obtain⟨hil,hc⟩:=hes i x hi
     obtain⟨y,z,h1,h2,h3⟩:=each i hil
     obtain rfl:y=x:=Option.some.inj (h1.symm.trans hc)
     exact Rd.of_trod hl f e y z.1 z.2 hrow.1 h3 (hw2 z (List.mem_of_getElem? h2))
    refine⟨_,rfl,es,⟨?_,by rw[hlen];omega,?_,.inr ⟨a,cap,by rw[hlen],by rw[hlen];exact hlc,?_⟩⟩,fun x hx=>⟨hk x hx,hrd x hx⟩,?_⟩
    ·have:∀ l:List (List Value),(∀ x∈l,x.length=P.cellsOf e)→l.flatten.length=l.length*P.cellsOf e:=fun l=>by
      induction l with
      | nil=>simp
      | cons x l ih=>intro h;rw[List.flatten_cons,List.length_append,ih (fun y hy=>h y (by simp[hy])),h x (by simp),List.length_cons,Nat.add_mul];omega
     exact this es hk
    ·intro u hu
     obtain⟨x,hx1,hx2⟩:=List.mem_flatten.1 hu
     exact(hrd x hx1).one u hx2
    ·intro j u hj
     obtain⟨i,x,r,h1,h2,rfl,h4⟩:=flatten_at hk j u hj
     have:=(cells_row (hes i x h1).2).2 r u h4
     rwa [add_add] at this
    ·rw[hlen]
     refine Nat.le_trans (Nat.mul_le_mul_right _ ?_) hw1
     omega
  ·rename_i fs hu
   rw[hu] at hrow
   simp only[Bool.and_eq_true,beq_iff_eq,List.all_eq_true,List.mem_range] at hrow
   obtain⟨⟨hvar,hsum⟩,hoff⟩:=hrow
   obtain⟨xs,n,hf,hx,hcl,hxl,hfield⟩:=DataW.trod_struct hu h
   obtain rfl:f=n:=by omega
   simp only[Prod.mk.injEq] at hx
   obtain⟨rfl,_⟩:=hx
   refine parts_of _ cs (by rw[hcl,hsum,List.map_map];rfl) fun j t' hj=>?_
   rw[List.getElem?_map] at hj
   obtain⟨fl,hfl,rfl⟩:=Option.map_eq_some_iff.1 hj
   have hjl:j<fs.toList.length:=(List.getElem?_eq_some_iff.1 hfl).1
   have ho:=hoff j hjl
   rw[hfl] at ho
   simp only[beq_iff_eq] at ho
   have hxj:=hfield j fl (by rw[← hfl,Array.getElem?_toList])
   have hjx:j<xs.length:=by rw[hxl];simpa using hjl
   rw[List.getElem?_eq_getElem hjx,ho] at hxj
   rw[List.map_take] at hxj
   rw[← List.map_take,List.map_map,List.map_take]
   refine Rd.of_trod hl f _ _ xs[j].1 xs[j].2 (hvar fl (List.mem_of_getElem? hfl)) hxj fun n hn=>hw n ?_
   rw[DataW.weights,hu]
   exact DataW.weights_mem_each (j:=j) (by rw[List.getElem?_map,hfl];rfl) (by rw[List.getElem?_map,List.getElem?_eq_getElem hjx];rfl) n hn
  ·rename_i n e hu
   rw[hu] at hrow
   simp only[Bool.and_eq_true,beq_iff_eq] at hrow
   obtain⟨xs,m,hf,hx,hcl,hxl,hel⟩:=DataW.trod_array hu h
   obtain rfl:f=m:=by omega
   simp only[Prod.mk.injEq] at hx
   obtain⟨rfl,_⟩:=hx
   have hsp:∀ (n:Nat) (cs:List Value),cs.length=n*P.cellsOf e→(∀ i,i<n→Rd P w f e ((cs.drop (i*P.cellsOf e)).take (P.cellsOf e))) →
    ∃ es:List (List Value),cs=es.flatten∧es.length=n∧∀ x∈es,x.length=P.cellsOf e∧Rd P w f e x:=fun n=>by
    induction n with
    | zero=>intro cs h _;exact⟨[],by simpa using h,rfl,by simp⟩
    | succ n ih =>
     intro cs h hr
     rw[Nat.add_mul] at h
     obtain⟨es,h1,h2,h3⟩:=ih (cs.drop (P.cellsOf e)) (by rw[List.length_drop];omega) fun i hi=>by
      have:=hr (i+1) (by omega)
      rw[List.drop_drop]
      rwa [show P.cellsOf e+i*P.cellsOf e=(i+1)*P.cellsOf e by rw[Nat.add_mul];omega]
     refine⟨cs.take (P.cellsOf e)::es,by rw[List.flatten_cons,← h1,List.take_append_drop],by simp[h2],fun x hx=>?_⟩
     rcases List.mem_cons.1 hx with rfl | hx
     ·exact⟨by rw[List.length_take];omega,by simpa using hr 0 (by omega)⟩
     ·exact h3 x hx
   refine hsp n cs (by rw[hcl,hrow.2]) fun i hi=>?_
   have hxi:=hel i hi
   have hix:i<xs.length:=by omega
   rw[List.getElem?_eq_getElem hix] at hxi
   refine Rd.of_trod hl f _ _ xs[i].1 xs[i].2 hrow.1 hxi fun n hn=>hw n ?_
   rw[DataW.weights,hu]
   exact weights_all (List.mem_map_of_mem (List.getElem_mem hix)) hn
  ·unfold DataW.trod at h
   split at h<;>first | (simp_all;done) | exact⟨_,rfl,rfl⟩
def Arg (P:Program) (w:World) (t:TypeId) (v:Value):Prop :=
 ∃ f cs,Rd P w f t cs∧v=match P.underlying t with
  | some (.struct _) | some (.array _ _)=>.agg cs.toArray
  | _=>cs.headD undef
def Args (P:Program) (w:World):List TypeId→List Value→Prop
 | [],[]=>True
 | t::ts,v::vs=>Arg P w t v∧Args P w ts vs
 | _,_=>False
theorem arg_of {held:Bool} {r:Reach} {base:Nat} (hl:laidOutB P=true) {t:TypeId} {v:Value} {d:DataW H} {ps:List MemPlace} (hv:isVar P t=true) (hok:Value.okWide P w r base t v)
 (h:DataW.Trod enc P w 0 (fun _=>true) held t v d ps) (hw:∀ n∈d.weights P t,n≤reachBytes):Arg P w t v:=by
 obtain⟨f,h⟩:=h
 refine⟨f,_,Rd.of_trod hl f t _ d ps hv h hw,?_⟩
 unfold Value.okWide at hok
 split at hok
 ·obtain⟨cs,rfl,_⟩:=hok
  simp_all [Value.cells]
 ·obtain⟨cs,rfl,_⟩:=hok
  simp_all [Value.cells]
 ·split
  ·simp_all
  ·simp_all
  ·cases v<;>simp_all [Value.cells,Cell.okWide,Cell.ok]
theorem args_of {r:Reach} {base:Nat} (hl:laidOutB P=true):∀ {ts:List TypeId} {vs:List Value} {ds:List (DataW H)} {ps:List MemPlace},(∀ t∈ts,isVar P t=true) →
 (∀ (j:Nat) t v,ts[j]?=some t→vs[j]?=some v→Value.okWide P w r base t v)→DataW.TrodAll enc P w 0 (fun _=>true) true ts vs ds ps→(∀ n∈DataW.weightsEach P ts ds,n≤reachBytes)→Args P w ts vs
 | [],[],[],_,_,_,_,_=>trivial
 | t::ts,v::vs,d::ds,ps,hv,hok,⟨p,q,h1,h2,_⟩,hw=>by
  simp only[DataW.weightsEach,List.mem_append] at hw
  exact⟨arg_of hl (hv t (by simp)) (hok 0 t v rfl rfl) h1 fun n hn=>hw n (.inl hn),
   args_of hl (fun t ht=>hv t (by simp[ht])) (fun j t v h1 h2=>hok (j+1) t v (by simpa using h1) (by simpa using h2)) h2 fun n hn=>hw n (.inr hn)⟩
theorem trodAll_length:∀ {ts:List TypeId} {vs:List Value} {ds:List (DataW H)} {ps:List MemPlace},DataW.TrodAll enc P w 0 spare true ts vs ds ps→ds.length=ts.length
 | [],[],[],_,_=>rfl
 | _::_,_::_,_::_,_,⟨_,_,_,h2,_⟩=>by simp[trodAll_length h2]
theorem trodAll_keep {w':World} (hl:laidOutB P=true) (hb:Below w.heap.size w w'):∀ {ts:List TypeId} {vs:List Value} {ds:List (DataW H)} {ps:List MemPlace},
 (∀ t∈ts,isVar P t=true∧P.readableRec t=true)→DataW.TrodAll enc P w 0 (fun _=>true) true ts vs ds ps→(∀ x∈ps,x.block<w.heap.size)→DataW.TrodAll enc P w' 0 (fun b=>decide (b<w.heap.size)) true ts vs ds ps
 | [],[],[],_,_,h,_=>h
 | t::ts,v::vs,d::ds,_,hr,⟨p,q,h1,h2,rfl⟩,hlt=>by
  have hv:=(hr t (by simp)).1
  unfold isVar at hv
  simp only[Bool.and_eq_true,decide_eq_true_eq] at hv
  exact⟨p,q,Below.trod hl (hr t (by simp)).2 hv.1 h1 hb fun x hx=>hlt x (List.mem_append_left _ hx),
   trodAll_keep hl hb (fun t ht=>hr t (by simp[ht])) h2 fun x hx=>hlt x (List.mem_append_right _ hx),rfl⟩
end
section
variable {H:Type} {enc:TypeId×Value→H}
theorem law_post {P:Program} {fn:Func} {s:ChangeSpec} (laid:laidOutB P=true) (hv:s.vars=[]) (tb:TypeId) (hres:fn.resultTypes=#[tb]) (hb:P.underlying tb=some .bool)
 (hpar:fn.params.toList.all (fun t=>isVar P t&&P.readableRec t)=true)
 (hspec:∀ ds:List (DataW H),ds.length=fn.params.toList.length→s.fn H ds={ results:=[.lit (.bool true)],args:=ds })
 {W W':World} {args:Array Value} {ds gs:List (DataW H)} {before:List MemPlace} (hW:DataW.Whole enc P fn.params.toList s.vars false W args.toList ds gs before) (hB:Below W.heap.size W W') :
 s.post enc P fn false true false false W args (.bool true) W':=by
 have hW':=hW
 have hlt:=hW.lt
 obtain⟨p,q,hA,hV,rfl,_,_⟩:=hW
 rw[hv] at hV
 obtain⟨rfl,rfl⟩:=trodVars_none hV
 rw[List.append_nil] at hlt
 have hp:∀ t∈fn.params.toList,isVar P t=true∧P.readableRec t=true:=fun t ht=>by
  have:=List.all_eq_true.1 hpar t ht
  simpa using this
 have hs:=hspec ds (trodAll_length hA)
 refine⟨ds,[],_,[],p,[],hW',?_,?_,?_,hB.frame _,fun h=>by cases h⟩
 ·rw[List.append_nil,hs,hres]
  exact trodAll_mk1 (shut_bool hb true)
 ·rw[List.append_nil,hs]
  exact trodAll_keep laid hB hp hA hlt
 ·rw[hv,List.append_nil,hs]
  exact rfl
theorem law_lifted {C:Checked} {os:Os} {f:FuncId} {fn:Func} {s:ChangeSpec} {conds:List PathCond} (own:ownKnob C.prog.godebug=none) (laid:laidOutB C.prog=true) (started:os.Started)
 (noInit:C.prog.inits.idxOf? f=none) (hfn:C.prog.funcs[f]?=some fn) (hv:s.vars=[]) (tb:TypeId) (hres:fn.resultTypes=#[tb]) (hb:C.prog.underlying tb=some .bool)
 (hpar:fn.params.toList.all (fun t=>isVar C.prog t&&C.prog.readableRec t)=true)
 (hspec:∀ ds:List (DataW H),ds.length=fn.params.toList.length→s.fn H ds={ results:=[.lit (.bool true)],args:=ds })
 (witness:∃ (w:World) (tape:Tape) (i:Input),w.os=os∧(w.forCall tape i).Shaped C.prog∧i.vars=[]∧Input.okWide C.prog (w.forCall tape i) .any w.heap.size f i ∧
  s.pre6 enc C.prog fn conds false (w.forCall tape i).memory i.args∧({}:Assume).holds C.prog (lone (Frame.enter C.prog f i.args .normal) [] (w.forCall tape i)))
 (contract:∀ (W:World) (args:Array Value),Args C.prog W fn.params.toList args.toList→Calls C.prog f args W fun e W'=>e=.returned (.bool true)∧Below W.heap.size W W') :
 ReturnsInHanded {} C os f .any (s.pre6 enc C.prog fn conds false) (s.post enc C.prog fn false true false false):=by
 refine returnsInHanded_of_change_sized own started noInit hfn witness ?_
 intro W base args ds gs before hval hW _ hsz _
 have hW':=hW
 obtain⟨p,q,hA,hV,rfl,_,_⟩:=hW
 rw[hv] at hV
 obtain⟨rfl,rfl⟩:=trodVars_none hV
 have hp:∀ t∈fn.params.toList,isVar C.prog t=true∧C.prog.readableRec t=true:=fun t ht=>by
  have:=List.all_eq_true.1 hpar t ht
  simpa using this
 have hw:∀ n∈DataW.weightsEach C.prog fn.params.toList ds,n≤reachBytes:=fun n hn=>by
  have:=List.all_eq_true.1 hsz n (by
   have:s.plain.varTypes C.prog=[]:=by simp[ChangeSpec.plain,DataSpec.varTypes,hv]
   rw[this,List.append_nil,List.append_nil]
   exact hn)
  simpa using this
 refine(contract W args (args_of laid (fun t ht=>(hp t ht).1) (fun j t v h1 h2=>hval j t v (by simpa using h1) (by simpa using h2)) hA hw)).mono fun e W' ⟨he,hB⟩=>?_
 subst he
 exact⟨_,rfl,law_post laid hv tb hres hb hpar hspec hW' hB⟩
end
end Go.Proofs.YtdcofoaihmongaaGreat
namespace Go.Proofs.YtdcofoaihmongaaGreat
open Go.RowKit
theorem own_keep {w w':World} {B base:Nat} {e:TypeId} {size n:Nat} {v:Value} {xs:List Value} (hb:Below B w w') (h:w.ownsRow base e size v n xs) (hB:w.heap.size≤B):w'.ownsRow base e size v n xs :=
 ⟨h.1,h.2.imp id fun⟨g,cap,cur,hv,hg,hh,r⟩=>⟨g,cap,cur,hv,hg,(hb.block g (Nat.lt_of_lt_of_le (Array.getElem?_eq_some_iff.1 hh).1 hB)).trans hh,r⟩⟩
theorem own_blk_far {w:World} {base g:Nat} {e t:TypeId} {size n:Nat} {v:Value} {xs:List Value} {cs:Array Value} (h:w.ownsRow base e size v n xs) (hg:Whole w g t cs) (hne:e≠t):v.ownBlock≠some g:=by
 rcases h.2 with⟨rfl,_⟩ | ⟨g',cap,cur,rfl,_,hh,_⟩
 ·simp[Value.ownBlock]
 ·intro he
  have hgg:g'=g:=by simpa[Value.ownBlock] using he
  subst hgg
  unfold Whole at hg
  rw[hh] at hg
  simp only[Option.some.injEq,Obj.cells.injEq] at hg
  exact hne hg.2.1
end Go.Proofs.YtdcofoaihmongaaGreat
namespace Go.Proofs.YtdcofoaihmongaaGreat
def upd (L:Nat→Bool) (i:Nat):Nat→Bool:=fun j=>j == i||L j
def InvSteps (P:Program) (ops:Array Oper) (I:(Nat→Bool)→Act→World→Prop):Nat→List Oper→Prop
 | _,[]=>True
 | i,o::r=>(∀ (L:Nat→Bool) (a:Act) (w:World) (Q':Exit→Act→World→Prop),I L a w→L i=false→(∀ e∈o.after.toList,Region.binds .any e=true→L e.on=true) →
  (∀ a w,I (upd L i) a w→Q' .normal a w)→wpList P ops Q' [o] a w)∧InvSteps P ops I (i+1) r
def ordered:Nat→List Oper→Bool
 | _,[]=>true
 | i,o::r=>o.after.toList.all (fun e=>!Region.binds .any e||decide (e.on<i))&&ordered (i+1) r
theorem ordered_at:∀ (k:Nat) (l:List Oper),ordered k l=true→∀ i o,l[i]?=some o→∀ e∈o.after.toList,Region.binds .any e=true→e.on<k+i
 | _,[],_,i,o,h,_,_,_=>by simp at h
 | k,x::r,h,0,o,ho,e,he,hb=>by
  simp only[ordered,Bool.and_eq_true,List.all_eq_true] at h
  simp at ho
  subst ho
  have:=h.1 e he
  rw[hb] at this
  simpa using this
 | k,x::r,h,i+1,o,ho,e,he,hb=>by
  simp only[ordered,Bool.and_eq_true] at h
  have:=ordered_at (k+1) r h.2 i o (by simpa using ho) e he hb
  omega
theorem steps_at {P:Program} {ops:Array Oper} {I:(Nat→Bool)→Act→World→Prop}:∀ (k:Nat) (l:List Oper),InvSteps P ops I k l→∀ i o,l[i]?=some o →
 ∀ (L:Nat→Bool) (a:Act) (w:World) (Q':Exit→Act→World→Prop),I L a w→L (k+i)=false→(∀ e∈o.after.toList,Region.binds .any e=true→L e.on=true) →
  (∀ a w,I (upd L (k+i)) a w→Q' .normal a w)→wpList P ops Q' [o] a w
 | _,[],_,i,o,h=>by simp at h
 | k,x::r,h,0,o,ho=>by
  simp at ho
  subst ho
  exact h.1
 | k,x::r,h,i+1,o,ho=>by
  have:=steps_at (k+1) r h.2 i o (by simpa using ho)
  rwa [show k+1+i=k+(i+1) by omega] at this
section
variable {P:Program} {ops:Array Oper} {Q:Exit→Act→World→Prop}
theorem all_listed {listed:Array Bool} (hs:listed.size=ops.size) (hord:∀ (i:Nat) (o:Oper),ops[i]?=some o→∀ e∈o.after.toList,Region.binds .any e=true→e.on<i) (hr:Region.ready .any ops listed=[]) :
 ∀ i,i<ops.size→listed.getD i false=true:=by
 intro i
 induction i using Nat.strongRecOn with
 | ind i ih =>
  intro hi
  refine Classical.byContradiction fun hn=>?_
  have hm:i∈Region.ready .any ops listed:=mem_ready.2 ⟨by
   rw[Array.getD_eq_getD_getElem?,Array.getElem?_eq_getElem (by omega)] at hn ⊢
   simpa using hn,ops[i],Array.getElem?_eq_getElem hi,fun e he hb=>ih e.on (hord i _ (Array.getElem?_eq_getElem hi) e (by simpa using he) hb) (Nat.lt_trans (hord i _ (Array.getElem?_eq_getElem hi) e (by simpa using he) hb) hi)⟩
  rw[hr] at hm
  cases hm
theorem wpOp_of_list {i:Nat} {o:Oper} {a:Act} {w:World} {K:Act→World→Prop} (ho:ops[i]?=some o)
 (h:∀ Q':Exit→Act→World→Prop,(∀ a w,K a w→Q' .normal a w)→wpList P ops Q' [o] a w):wpOp P ops Q i K a w:=by
 have h1:=h (fun e a w=>match e with | .normal=>K a w | e=>Q e a w) (fun _ _ h=>h)
 unfold wpOp
 rw[ho]
 simp only[wpList] at h1
 dsimp only
 split
 ·rename_i hw
  rw[if_pos hw] at h1
  refine h1.imp (fun h2=>?_) (fun h2=>⟨h2.1,h2.2⟩)
  unfold Oper.wp at *
  generalize (execOp a.eval o).run P w=r at *
  cases r with
  | ok n w' =>
   cases n<;>simp only[Oper.upon] at h2 ⊢<;>first | exact h2 | exact Calls.mono h2 (fun e w'' he=>by cases e<;>exact he)
  | halt x w'=>cases x<;>simp only[Oper.upon] at h2 ⊢<;>exact h2
 ·rename_i hw
  rw[if_neg hw] at h1
  exact h1
theorem wpAny_inv (I:(Nat→Bool)→Act→World→Prop) (hord:∀ (i:Nat) (o:Oper),ops[i]?=some o→∀ e∈o.after.toList,Region.binds .any e=true→e.on<i)
 (hstep:∀ (i:Nat) (o:Oper),ops[i]?=some o→∀ (L:Nat→Bool) (a:Act) (w:World),I L a w→L i=false→(∀ e∈o.after.toList,Region.binds .any e=true→L e.on=true)→wpOp P ops Q i (I (upd L i)) a w)
 (hend:∀ (L:Nat→Bool) (a:Act) (w:World),I L a w→(∀ i,i<ops.size→L i=true)→Q .normal a w) :
 ∀ (fuel:Nat) (listed:Array Bool) (a:Act) (w:World),listed.size=ops.size→listed.toList.count false≤fuel→I (fun j=>listed.getD j false) a w→wpAny P .any ops Q fuel listed a w:=by
 intro fuel
 induction fuel with
 | zero =>
  intro listed a w hs hc hI
  have hr:Region.ready .any ops listed=[]:=by
   refine List.eq_nil_iff_forall_not_mem.2 fun j hj=>?_
   have h:=mem_ready.1 hj
   obtain⟨h0,o,ho,_⟩:=h
   have hlt:j<ops.size:=(Array.getElem?_eq_some_iff.1 ho).1
   have hmem:false∈listed.toList:=by
    rw[Array.getD_eq_getD_getElem?,Array.getElem?_eq_getElem (by omega)] at h0
    simp only[Option.getD_some] at h0
    rw[← h0]
    simp
   have:=List.count_pos_iff.2 hmem
   omega
  exact⟨hr,hend _ a w hI (all_listed hs hord hr)⟩
 | succ fuel ih =>
  intro listed a w hs hc hI
  refine⟨fun hr=>hend _ a w hI (all_listed hs hord hr),fun j hj=>?_⟩
  have h:=mem_ready.1 hj
  obtain⟨h0,o,ho,ha⟩:=h
  have hlt:j<ops.size:=(Array.getElem?_eq_some_iff.1 ho).1
  have hjl:j<listed.size:=by omega
  have h0':listed[j]=false:=by
   rw[Array.getD_eq_getD_getElem?,Array.getElem?_eq_getElem hjl] at h0
   simpa using h0
  refine wpOp_mono (fun a' w' hI'=>ih (listed.setIfInBounds j true) a' w' (by simpa using hs) ?_ ?_) (hstep j o ho _ a w hI ?_ (fun e he hb=>ha e (by simpa using he) hb))
  ·rw[Array.toList_setIfInBounds,List.count_set (by simpa using hjl)]
   have hmem:false∈listed.toList:=by
    rw[← h0']
    simp
   have:=List.count_pos_iff.2 hmem
   have hb:(listed.toList[j] == false)=true:=by simpa using h0'
   rw[if_pos hb,if_neg (by simp)]
   omega
  ·have:(fun k=>(listed.setIfInBounds j true).getD k false)=upd (fun k=>listed.getD k false) j:=by
    funext k
    unfold upd
    by_cases hk:k=j
    ·subst hk
     simp[Array.getD_eq_getD_getElem?,hjl]
    ·have:(k == j)=false:=by simpa using hk
     simp only[this,Bool.false_or]
     rw[Array.getD_eq_getD_getElem?,Array.getD_eq_getD_getElem?,Array.getElem?_setIfInBounds_ne (Ne.symm hk)]
   rw[this]
   exact hI'
  ·rw[Array.getD_eq_getD_getElem?,Array.getElem?_eq_getElem hjl,Option.getD_some,h0']
theorem wp_region_inv {id:Nat} {l:List Oper} {a:Act} {w:World} (hm:P.follows .mixedOrders=true) (hord:ordered 0 l=true) (I:(Nat→Bool)→Act→World→Prop)
 (h0:I (fun _=>false) a w.drew) (hstep:InvSteps P l.toArray I 0 l) (hend:∀ (L:Nat→Bool) (a:Act) (w:World),I L a w→(∀ i,i<l.length→L i=true)→Q .normal a w) :
 (Code.region id l.toArray true).wp P Q a w:=by
 refine wp_region_any hm (wpAny_inv I (fun i o ho e he hb=>?_) (fun i o ho L a w hI hL ha=>?_) (fun L a w hI hL=>hend L a w hI (by simpa using hL)) _ _ a _ (by simp) ?_ ?_)
 ·have:=ordered_at 0 l hord i o (by simpa using ho) e he hb
  omega
 ·refine wpOp_of_list ho fun Q' hQ'=>?_
  have:=steps_at 0 l hstep i o (by simpa using ho) L a w Q' hI (by simpa using hL) ha (by simpa using hQ')
  exact this
 ·exact Nat.le_trans (List.count_le_length ..) (by simp)
 ·have:(fun j=>(Array.replicate l.toArray.size false).getD j false)=fun _=>false:=by
   funext j
   rw[Array.getD_eq_getD_getElem?,Array.getElem?_replicate]
   split<;>rfl
  rw[this]
  exact h0
end
section
variable {P:Program} {Q:Exit→Act→World→Prop}
end
end Go.Proofs.YtdcofoaihmongaaGreat
namespace Go.Proofs.YtdcofoaihmongaaGreat
open Go.RowKit
structure PlanAt (slots:List Nat) (goods:List (Value→World→Prop)) (inv:World→Prop) (t:Array Value) (d:List Deferred) (L:Nat→Bool) (a:Act) (w:World):Prop where
 defers:a.defers=d
 inv:inv w
 done:∀ i,L i=true→∀ s g,slots[i]?=some s→goods[i]?=some g→∃ v,a.tmps[s]?=some v∧g v w
 rest:∀ j,slots.contains j=false→a.tmps[j]?=t[j]?
 size:a.tmps.size=t.size
def Lasts (g:Value→World→Prop):Prop:=∀ v w w',g v w→Below w.heap.size w w'→g v w'
def LastsAll:List (Value→World→Prop)→Prop
 | []=>True
 | g::r=>Lasts g∧LastsAll r
theorem lasts_mem:∀ {l:List (Value→World→Prop)},LastsAll l→∀ g∈l,Lasts g
 | [],_,_,h=>by cases h
 | x::r,h,g,hg=>by
  rcases List.mem_cons.1 hg with rfl | hg
  ·exact h.1
  ·exact lasts_mem h.2 g hg
def isV (x:Value):Value→World→Prop:=fun v _=>x=v
theorem lasts_is (x:Value):Lasts (isV x):=fun _ _ _ h _=>h
theorem nodup_at {l:List Nat} (h:l.Nodup) {i j s:Nat} (hi:l[i]?=some s) (hj:l[j]?=some s):i=j:=by
 obtain⟨hi1,hi2⟩:=List.getElem?_eq_some_iff.1 hi
 obtain⟨hj1,hj2⟩:=List.getElem?_eq_some_iff.1 hj
 have hp:=List.pairwise_iff_getElem.1 h
 rcases Nat.lt_trichotomy i j with hlt | he | hlt
 ·exact absurd (hi2.trans hj2.symm) (hp i j hi1 hj1 hlt)
 ·exact he
 ·exact absurd (hj2.trans hi2.symm) (hp j i hj1 hi1 hlt)
section
variable {P:Program} {Q:Exit→Act→World→Prop}
end
end Go.Proofs.YtdcofoaihmongaaGreat
namespace Go.Proofs.YtdcofoaihmongaaGreat
open Go.RowKit
def Laid (d:List Deferred) (w:World) (a:Act):List (Option Nat)→List (Value→World→Prop)→Array Value→Prop
 | some s::ss,g::gs,t=>∃ u,g u w∧Laid d w a ss gs (t.setIfInBounds s u)
 | none::ss,g::gs,t=>∃ u,g u w∧Laid d w a ss gs t
 | _,_,t=>a=⟨t,d⟩
structure PlanO (slots:List (Option Nat)) (goods:List (Value→World→Prop)) (inv:World→Prop) (t:Array Value) (d:List Deferred) (L:Nat→Bool) (a:Act) (w:World):Prop where
 defers:a.defers=d
 inv:inv w
 done:∀ i,L i=true→∀ g,goods[i]?=some g→∃ v,(∀ s,slots[i]?=some (some s)→a.tmps[s]?=some v)∧g v w
 rest:∀ j,slots.contains (some j)=false→a.tmps[j]?=t[j]?
 size:a.tmps.size=t.size
theorem laid_of {d:List Deferred} {w:World} {a:Act} (hd:a.defers=d):∀ (slots:List (Option Nat)) (goods:List (Value→World→Prop)) (t:Array Value),slots.length=goods.length →
 (∀ (i:Nat) (g:Value→World→Prop),goods[i]?=some g→∃ v,(∀ s,slots[i]?=some (some s)→a.tmps[s]?=some v)∧g v w)→(∀ j,slots.contains (some j)=false→a.tmps[j]?=t[j]?)→a.tmps.size=t.size→Laid d w a slots goods t
 | [],[],t,_,_,hr,_=>by
  show a=⟨t,d⟩
  obtain⟨at',ad⟩:=a
  have e1:at'=t:=Array.ext_getElem? fun j=>hr j rfl
  have e2:ad=d:=hd
  rw[e1,e2]
 | none::ss,g::gs,t,hl,hg,hr,hs=>by
  obtain⟨u,_,hgu⟩:=hg 0 g rfl
  refine⟨u,hgu,laid_of hd ss gs _ (by simpa using hl) (fun i g' h2=>?_) (fun j hj=>hr j ?_) hs⟩
  ·obtain⟨v,h3,h4⟩:=hg (i+1) g' (by simpa using h2)
   exact⟨v,fun s' h1=>h3 s' (by simpa using h1),h4⟩
  ·simp only[List.contains_cons,hj,Bool.or_false]
   rfl
 | some s::ss,g::gs,t,hl,hg,hr,hs=>by
  obtain⟨u,hu,hgu⟩:=hg 0 g rfl
  have hu:=hu s rfl
  refine⟨u,hgu,laid_of hd ss gs _ (by simpa using hl) (fun i g' h2=>?_) (fun j hj=>?_) (by rw[Array.size_setIfInBounds];exact hs)⟩
  ·obtain⟨v,h3,h4⟩:=hg (i+1) g' (by simpa using h2)
   exact⟨v,fun s' h1=>h3 s' (by simpa using h1),h4⟩
  ·by_cases h:s=j
   ·subst h
    have hlt:s<a.tmps.size:=(Array.getElem?_eq_some_iff.1 hu).1
    rw[hu,Array.getElem?_setIfInBounds_self_of_lt (by omega)]
   ·rw[Array.getElem?_setIfInBounds_ne h]
    refine hr j ?_
    have h1:¬ j=s:=fun e=>h e.symm
    simp only[List.contains_cons,hj,Bool.or_false]
    simpa using h1
 | [],_::_,_,hl,_,_,_=>by simp at hl
 | _::_,[],_,hl,_,_,_=>by simp at hl
theorem PlanO.laid {slots:List (Option Nat)} {goods:List (Value→World→Prop)} {inv:World→Prop} {t:Array Value} {d:List Deferred} {L:Nat→Bool} {a:Act} {w:World} (h:PlanO slots goods inv t d L a w) (hl:slots.length=goods.length)
 (hL:∀ i,i<slots.length→L i=true):Laid d w a slots goods t :=
 laid_of h.defers slots goods t hl (fun i g h2=>h.done i (hL i (by rw[hl];exact(List.getElem?_eq_some_iff.1 h2).1)) g h2) h.rest h.size
def LastsR (R:World→World→Prop) (g:Value→World→Prop):Prop:=∀ v w w',g v w→R w w'→g v w'
def LastsBut (R:World→World→Prop) (m:Nat):Nat→List (Value→World→Prop)→Prop
 | _,[]=>True
 | i,g::r=>(i≠m→LastsR R g)∧LastsBut R m (i+1) r
theorem lastsBut_at {R:World→World→Prop} {m:Nat}:∀ {k:Nat} {l:List (Value→World→Prop)},LastsBut R m k l→∀ (i:Nat) (g:Value→World→Prop),l[i]?=some g→k+i≠m→LastsR R g
 | _,[],_,i,_,h,_=>by simp at h
 | _,x::_,h,0,g,hg,hm=>by
  simp at hg
  subst hg
  exact h.1 hm
 | k,_::r,h,i+1,g,hg,hm=>lastsBut_at h.2 i g (by simpa using hg) (by omega)
def Rm (R:World→World→Prop):Bool→World→World→Prop
 | true=>R
 | false=>fun w w'=>Below w.heap.size w w'
theorem lastsR_is {R:World→World→Prop} (x:Value):LastsR R (isV x):=fun _ _ _ h _=>h
theorem nodup_some {l:List (Option Nat)} (h:(l.filterMap fun x=>x).Nodup):∀ {i j s:Nat},l[i]?=some (some s)→l[j]?=some (some s)→i=j:=by
 induction l with
 | nil=>intro i j s hi;simp at hi
 | cons x l ih =>
  have key:∀ {j s:Nat},x=some s→l[j]?=some (some s)→False:=by
   intro j s hx hj
   subst hx
   simp only[List.filterMap_cons,List.nodup_cons] at h
   exact h.1 (List.mem_filterMap.2 ⟨some s,List.mem_of_getElem? hj,rfl⟩)
  have h':(l.filterMap fun x=>x).Nodup:=by
   cases x with
   | none=>simpa[List.filterMap_cons] using h
   | some s=>simp only[List.filterMap_cons,List.nodup_cons] at h;exact h.2
  intro i j s hi hj
  cases i with
  | zero =>
   cases j with
   | zero=>rfl
   | succ j=>exact(key (by simpa using hi) (by simpa using hj)).elim
  | succ i =>
   cases j with
   | zero=>exact(key (by simpa using hj) (by simpa using hi)).elim
   | succ j=>exact congrArg (·+1) (ih h' (by simpa using hi) (by simpa using hj))
theorem PlanO.put {slots:List (Option Nat)} {goods:List (Value→World→Prop)} {inv:World→Prop} {t:Array Value} {d:List Deferred} {L:Nat→Bool} {a:Act} {w w':World} {i:Nat} {s:Option Nat} {v:Value} (h:PlanO slots goods inv t d L a w)
 (hnd:(slots.filterMap fun x=>x).Nodup) (hbd:slots.all (fun s=>decide (s.getD 0<t.size))=true) (hst:∀ (j:Nat) (g:Value→World→Prop),goods[j]?=some g→j≠i→∀ v,g v w→g v w') {inv':World→Prop} (hinv:inv' w') (hs:slots[i]?=some s) (hg:∀ g:Value→World→Prop,goods[i]?=some g→g v w')
 {L':Nat→Bool} (hL:∀ j,L' j=true→j=i∨L j=true):PlanO slots goods inv' t d L' (a.put s v) w':=by
 cases s with
 | none =>
  refine⟨h.defers,hinv,?_,h.rest,h.size⟩
  intro j hj g' hg'
  by_cases hji:j=i
  ·subst hji
   exact⟨v,fun s' hs'=>(by rw[hs] at hs';cases hs'),hg g' hg'⟩
  ·obtain⟨u,hu,hgu⟩:=h.done j ((hL j hj).resolve_left hji) g' hg'
   exact⟨u,hu,hst j g' hg' hji u hgu⟩
 | some s =>
  refine⟨h.defers,hinv,?_,?_,?_⟩
  ·intro j hj g' hg'
   by_cases hji:j=i
   ·subst hji
    refine⟨v,fun s' hs'=>?_,hg g' hg'⟩
    obtain rfl:s=s':=Option.some.inj (Option.some.inj (hs.symm.trans hs'))
    have hlt:s<a.tmps.size:=by
     rw[h.size]
     have:=List.all_eq_true.1 hbd (some s) (List.mem_of_getElem? hs)
     simpa using this
    show(a.tmps.setIfInBounds s v)[s]?=some v
    rw[Array.getElem?_setIfInBounds_self_of_lt hlt]
   ·obtain⟨u,hu,hgu⟩:=h.done j ((hL j hj).resolve_left hji) g' hg'
    refine⟨u,fun s' hs'=>?_,hst j g' hg' hji u hgu⟩
    have hne:s≠s':=fun e=>hji (nodup_some hnd (e▸hs') hs)
    show(a.tmps.setIfInBounds s v)[s']?=some u
    rw[Array.getElem?_setIfInBounds_ne hne]
    exact hu s' hs'
  ·intro j hj
   have hne:s≠j:=fun e=>by
    have hm:some j∈slots:=e▸List.mem_of_getElem? hs
    have:slots.contains (some j)=true:=by simpa using hm
    rw[this] at hj
    cases hj
   show(a.tmps.setIfInBounds s v)[j]?=t[j]?
   rw[Array.getElem?_setIfInBounds_ne hne]
   exact h.rest j hj
  ·show(a.tmps.setIfInBounds s v).size=t.size
   rw[Array.size_setIfInBounds]
   exact h.size
def PlanStepsL (R:World→World→Prop) (P:Program) (ops:Array Oper) (slots:List (Option Nat)) (goods:List (Value→World→Prop)) (inv:(Nat→Bool)→World→Prop) (m:Nat) (t:Array Value) (d:List Deferred) (Q:Exit→Act→World→Prop):Nat→List Oper→List (Value→World→Prop)→Prop
 | i,o::r,g::gs=>(∀ (L:Nat→Bool) (a:Act) (w:World) (Q':Exit→Act→World→Prop),L i=false→inv L w →
  (∀ k,(∃ gr,(⟨k,gr⟩:Edge)∈o.after.toList∧Region.binds .any ⟨k,gr⟩=true)→∀ g,goods[k]?=some g→∃ v,(∀ s,slots[k]?=some (some s)→a.tmps[s]?=some v)∧g v w) →
  (∀ j,slots.contains (some j)=false→a.tmps[j]?=t[j]?) →
  (∀ v w',Rm R (i == m) w w'→inv (upd L i) w'→g v w'→Q' .normal (a.put o.dst v) w')→wpList P ops Q' [o] a w)∧PlanStepsL R P ops slots goods inv m t d Q (i+1) r gs
 | _,[o],[]=>∀ (a:Act) (w:World),Laid d w a slots goods t→∀ (L:Nat→Bool),inv L w→(∀ i,i<slots.length→L i=true)→∀ (Q':Exit→Act→World→Prop),(∀ a w,Q .normal a w→Q' .normal a w)→wpList P ops Q' [o] a w
 | _,_,_=>False
theorem planL_at {R:World→World→Prop} {P:Program} {ops:Array Oper} {slots:List (Option Nat)} {goods:List (Value→World→Prop)} {inv:(Nat→Bool)→World→Prop} {m:Nat} {t:Array Value} {d:List Deferred} {Q:Exit→Act→World→Prop}:∀ (k:Nat) (l:List Oper) (gs:List (Value→World→Prop)),PlanStepsL R P ops slots goods inv m t d Q k l gs →
 l.length=gs.length+1 ∧
 (∀ (i:Nat) (o:Oper),l[i]?=some o→i<gs.length →
 (∀ (L:Nat→Bool) (a:Act) (w:World) (Q':Exit→Act→World→Prop),L (k+i)=false→inv L w →
  (∀ k,(∃ gr,(⟨k,gr⟩:Edge)∈o.after.toList∧Region.binds .any ⟨k,gr⟩=true)→∀ g,goods[k]?=some g→∃ v,(∀ s,slots[k]?=some (some s)→a.tmps[s]?=some v)∧g v w) →
  (∀ j,slots.contains (some j)=false→a.tmps[j]?=t[j]?) →
  (∀ v w',Rm R (k+i == m) w w'→inv (upd L (k+i)) w'→(∀ g:Value→World→Prop,gs[i]?=some g→g v w')→Q' .normal (a.put o.dst v) w')→wpList P ops Q' [o] a w)) ∧
 (∀ o,l[gs.length]?=some o→∀ (a:Act) (w:World),Laid d w a slots goods t→∀ (L:Nat→Bool),inv L w→(∀ i,i<slots.length→L i=true)→∀ (Q':Exit→Act→World→Prop),(∀ a w,Q .normal a w→Q' .normal a w)→wpList P ops Q' [o] a w)
 | k,x::r,g::gs,h=>by
  obtain⟨h1,h2,h3⟩:=planL_at (k+1) r gs h.2
  refine⟨by simpa using h1,?_,fun o ho=>h3 o (by simpa using ho)⟩
  intro i o ho hi
  cases i with
  | zero =>
   simp at ho
   subst ho
   exact fun L a w Q' h0 h1 h2 h3 h4=>h.1 L a w Q' h0 h1 h2 h3 fun v w' hb hi hg=>h4 v w' hb hi fun g' e=>by
    simp at e
    rw[← e]
    exact hg
  | succ i =>
   have:=h2 i o (by simpa using ho) (by simpa using hi)
   rw[show k+1+i=k+(i+1) by omega] at this
   simpa using this
 | _,[o],[],h=>⟨rfl,fun i o' _ hi=>by simp at hi,fun o' ho'=>by simp at ho';subst ho';exact h⟩
 | _,[],_,h=>by cases ‹List (Value→World→Prop)›<;>exact h.elim
 | _,_::_::_,[],h=>h.elim
def consumed (l:List Oper):Bool:=(List.range (l.length-1)).all fun i=>l.any fun o=>o.after.toList.any fun e=>e.on == i&&Region.binds .any e
theorem all_before {l:List Oper} (hord:ordered 0 l=true) (hc:consumed l=true) (L:Nat→Bool) {n:Nat} (hn:l.length=n+1)
 (hcl:∀ j o,l[j]?=some o→j<n→L j=true→∀ e∈o.after.toList,Region.binds .any e=true→L e.on=true) (hlast:∀ o,l[n]?=some o→∀ e∈o.after.toList,Region.binds .any e=true→L e.on=true) :
 ∀ i,i<n→L i=true:=by
 have key:∀ m i,i<n→n-i=m→L i=true:=by
  intro m
  induction m using Nat.strongRecOn with
  | ind m ih =>
   intro i hi hm
   have h1:=List.all_eq_true.1 hc i (by simp;omega)
   obtain⟨o,ho,h2⟩:=List.any_eq_true.1 h1
   obtain⟨e,he,h3⟩:=List.any_eq_true.1 h2
   simp only[Bool.and_eq_true,beq_iff_eq] at h3
   obtain⟨rfl,hb⟩:=h3
   obtain⟨j,hj⟩:=List.getElem?_of_mem ho
   have hlt:=ordered_at 0 l hord j o hj e he hb
   have hjn:j<n+1:=by rw[← hn];exact(List.getElem?_eq_some_iff.1 hj).1
   by_cases hje:j=n
   ·subst hje
    exact hlast o hj e he hb
   ·exact hcl j o hj (by omega) (ih (n-j) (by omega) j (by omega) rfl) e he hb
 exact fun i hi=>key _ i hi rfl
section
variable {P:Program} {Q:Exit→Act→World→Prop}
theorem wp_region_last {id:Nat} {l:List Oper} {t:Array Value} {d:List Deferred} {w:World} (R:World→World→Prop) (slots:List (Option Nat)) (goods:List (Value→World→Prop)) (inv:(Nat→Bool)→World→Prop) (m:Nat)
 (hm:P.follows .mixedOrders=true) (hord:ordered 0 l=true) (hcons:consumed l=true) (hslots:(l.map (·.dst)).take slots.length=slots) (hnd:(slots.filterMap fun x=>x).Nodup) (hbd:slots.all (fun s=>decide (s.getD 0<t.size))=true) (hlen:slots.length=goods.length)
 (h0:inv (fun _=>false) w.drew) (hst0:LastsAll goods) (hst1:LastsBut R m 0 goods)
 (hstep:PlanStepsL R P l.toArray slots goods inv m t d Q 0 l goods) :
 (Code.region id l.toArray true).wp P Q ⟨t,d⟩ w:=by
 obtain⟨hn,hat,hla⟩:=planL_at 0 l goods hstep
 rw[← hlen] at hn hat hla
 have hsl:∀ (i:Nat) (o:Oper),l[i]?=some o→i<slots.length→slots[i]?=some o.dst:=fun i o ho hi=>by
  have h:=congrArg (fun x:List (Option Tmp)=>x[i]?) hslots
  simp only[List.getElem?_map,List.getElem?_take,if_pos hi,ho,Option.map_some] at h
  exact h.symm
 have hst:=lasts_mem hst0
 have hsb:=lastsBut_at hst1
 refine wp_region_inv hm hord (fun L a w=>(∀ j o,l[j]?=some o→L j=true→∀ e∈o.after.toList,Region.binds .any e=true→L e.on=true) ∧
  (L slots.length=false→PlanO slots goods (inv L) t d (fun i=>L i&&decide (i<slots.length)) a w)∧(L slots.length=true→Q .normal a w)) ?_ ?_ ?_
 ·refine⟨fun _ _ _ h=>(by cases h),fun _=>?_,fun h=>(by cases h)⟩
  exact⟨rfl,h0,fun i h=>by simp at h,fun _ _=>rfl,rfl⟩
 ·have key:∀ (i:Nat) (o:Oper),l[i]?=some o→∀ (L:Nat→Bool) (a:Act) (w:World) (Q':Exit→Act→World→Prop),
   ((∀ j o,l[j]?=some o→L j=true→∀ e∈o.after.toList,Region.binds .any e=true→L e.on=true)∧(L slots.length=false→PlanO slots goods (inv L) t d (fun i=>L i&&decide (i<slots.length)) a w)∧(L slots.length=true→Q .normal a w))→L i=false →
   (∀ e∈o.after.toList,Region.binds .any e=true→L e.on=true) →
   (∀ a w,((∀ j o,l[j]?=some o→upd L i j=true→∀ e∈o.after.toList,Region.binds .any e=true→upd L i e.on=true)∧(upd L i slots.length=false→PlanO slots goods (inv (upd L i)) t d (fun j=>upd L i j&&decide (j<slots.length)) a w)∧(upd L i slots.length=true→Q .normal a w))→Q' .normal a w) →
   wpList P l.toArray Q' [o] a w:=by
   intro i o ho L a w Q' ⟨hcl,hpl,hq⟩ hL hA hK
   have hil:i<slots.length+1:=by rw[← hn];exact(List.getElem?_eq_some_iff.1 ho).1
   have up:∀ k,L k=true→upd L i k=true:=fun k hk=>by simp[upd,hk]
   have hcl':∀ j o,l[j]?=some o→upd L i j=true→∀ e∈o.after.toList,Region.binds .any e=true→upd L i e.on=true:=by
    intro j o' hj hLj e he hb
    by_cases hji:j=i
    ·subst hji
     obtain rfl:o=o':=Option.some.inj (ho.symm.trans hj)
     exact up _ (hA e he hb)
    ·have hne:(j == i)=false:=by simpa using hji
     exact up _ (hcl j o' hj (by simpa[upd,hne] using hLj) e he hb)
   by_cases hin:i=slots.length
   ·subst hin
    have hall:=all_before hord hcons L hn (fun j o hj _=>hcl j o hj) (fun o' ho'=>by obtain rfl:o=o':=Option.some.inj (ho.symm.trans ho');exact hA)
    refine hla o ho a w ((hpl hL).laid hlen fun i hi=>by simp[hall i hi,hi]) L (hpl hL).inv hall Q' fun a' w' hq'=>hK a' w' ⟨hcl',fun h=>?_,fun _=>hq'⟩
    simp[upd] at h
   ·have hi:i<slots.length:=by omega
    have hLn:L slots.length=false:=by
     cases hx:L slots.length with
     | false=>rfl
     | true =>
      have hall:=all_before hord hcons L hn (fun j o hj _=>hcl j o hj) (fun o' ho'=>hcl _ o' ho' hx)
      rw[hall i hi] at hL
      cases hL
    have hI:=hpl hLn
    have hne:(slots.length == i)=false:=by simpa using fun e=>hin (Eq.symm e)
    have h1:=hat i o ho hi L a w Q' (by rw[Nat.zero_add];exact hL) hI.inv (fun k ⟨gr,hk,hb⟩ g hg=>hI.done k (by
     have hL1:=hA _ hk hb
     have hlt:k<slots.length:=by rw[hlen];exact(List.getElem?_eq_some_iff.1 hg).1
     simp only[hlt,decide_true,Bool.and_true]
     exact hL1) g hg) hI.rest
    refine h1 fun v w' hb hii hg=>?_
    have hs:=hsl i o ho hi
    rw[Nat.zero_add] at hii
    have hst':∀ (j:Nat) (g:Value→World→Prop),goods[j]?=some g→j≠i→∀ v,g v w→g v w':=by
     intro j g hg hne v hv
     by_cases he:0+i=m
     ·have h2:(0+i == m)=true:=by simpa using he
      rw[h2] at hb
      exact hsb j g hg (by omega) v w w' hv hb
     ·have h2:(0+i == m)=false:=by simpa using he
      rw[h2] at hb
      exact hst g (List.mem_of_getElem? hg) v w w' hv hb
    refine hK _ _ ⟨hcl',fun _=>?_,fun h=>?_⟩
    ·refine hI.put hnd hbd hst' hii hs hg fun j hj=>?_
     by_cases hji:j=i
     ·exact .inl hji
     ·have:(j == i)=false:=by simpa using hji
      exact .inr (by simpa[upd,this] using hj)
    ·simp[upd,hne,hLn] at h
  have all:∀ (r:List Oper) (k:Nat),(∀ i o,r[i]?=some o→l[k+i]?=some o)→InvSteps P l.toArray (fun L a w=>(∀ j o,l[j]?=some o→L j=true→∀ e∈o.after.toList,Region.binds .any e=true→L e.on=true) ∧
   (L slots.length=false→PlanO slots goods (inv L) t d (fun i=>L i&&decide (i<slots.length)) a w)∧(L slots.length=true→Q .normal a w)) k r:=by
   intro r
   induction r with
   | nil=>intro k _;trivial
   | cons o r ih =>
    intro k h
    refine⟨fun L a w Q' hI hL hA hK=>key k o (h 0 o rfl) L a w Q' hI hL hA hK,ih (k+1) fun i o' ho'=>?_⟩
    have:=h (i+1) o' (by simpa using ho')
    rwa [show k+1+i=k+(i+1) by omega]
  exact all l 0 fun i o ho=>by simpa using ho
 ·intro L a w hI hL
  exact hI.2.2 (hL slots.length (by omega))
end
end Go.Proofs.YtdcofoaihmongaaGreat
namespace Go.Proofs.YtdcofoaihmongaaGreat
open Go.RowKit
abbrev Gd:=(Nat→Bool)→Value→World→Prop
def isW (x:Value):Gd:=fun _ v _=>x=v
def LaidW (L:Nat→Bool) (d:List Deferred) (w:World) (a:Act):List (Option Nat)→List Gd→Array Value→Prop
 | some s::ss,g::gs,t=>∃ u,g L u w∧LaidW L d w a ss gs (t.setIfInBounds s u)
 | none::ss,g::gs,t=>∃ u,g L u w∧LaidW L d w a ss gs t
 | _,_,t=>a=⟨t,d⟩
structure PlanW (slots:List (Option Nat)) (goods:List Gd) (inv:World→Prop) (t:Array Value) (d:List Deferred) (L:Nat→Bool) (a:Act) (w:World):Prop where
 defers:a.defers=d
 inv:inv w
 done:∀ i,L i=true→i<slots.length→∀ g,goods[i]?=some g→∃ v,(∀ s,slots[i]?=some (some s)→a.tmps[s]?=some v)∧g L v w
 rest:∀ j,slots.contains (some j)=false→a.tmps[j]?=t[j]?
 size:a.tmps.size=t.size
theorem laidW_of {L:Nat→Bool} {d:List Deferred} {w:World} {a:Act} (hd:a.defers=d):∀ (slots:List (Option Nat)) (goods:List Gd) (t:Array Value),slots.length=goods.length →
 (∀ (i:Nat) (g:Gd),goods[i]?=some g→∃ v,(∀ s,slots[i]?=some (some s)→a.tmps[s]?=some v)∧g L v w)→(∀ j,slots.contains (some j)=false→a.tmps[j]?=t[j]?)→a.tmps.size=t.size→LaidW L d w a slots goods t
 | [],[],t,_,_,hr,_=>by
  show a=⟨t,d⟩
  obtain⟨at',ad⟩:=a
  have e1:at'=t:=Array.ext_getElem? fun j=>hr j rfl
  have e2:ad=d:=hd
  rw[e1,e2]
 | none::ss,g::gs,t,hl,hg,hr,hs=>by
  obtain⟨u,_,hgu⟩:=hg 0 g rfl
  refine⟨u,hgu,laidW_of hd ss gs _ (by simpa using hl) (fun i g' h2=>?_) (fun j hj=>hr j ?_) hs⟩
  ·obtain⟨v,h3,h4⟩:=hg (i+1) g' (by simpa using h2)
   exact⟨v,fun s' h1=>h3 s' (by simpa using h1),h4⟩
  ·simp only[List.contains_cons,hj,Bool.or_false]
   rfl
 | some s::ss,g::gs,t,hl,hg,hr,hs=>by
  obtain⟨u,hu,hgu⟩:=hg 0 g rfl
  have hu:=hu s rfl
  refine⟨u,hgu,laidW_of hd ss gs _ (by simpa using hl) (fun i g' h2=>?_) (fun j hj=>?_) (by rw[Array.size_setIfInBounds];exact hs)⟩
  ·obtain⟨v,h3,h4⟩:=hg (i+1) g' (by simpa using h2)
   exact⟨v,fun s' h1=>h3 s' (by simpa using h1),h4⟩
  ·by_cases h:s=j
   ·subst h
    have hlt:s<a.tmps.size:=(Array.getElem?_eq_some_iff.1 hu).1
    rw[hu,Array.getElem?_setIfInBounds_self_of_lt (by omega)]
   ·rw[Array.getElem?_setIfInBounds_ne h]
    refine hr j ?_
    have h1:¬ j=s:=fun e=>h e.symm
    simp only[List.contains_cons,hj,Bool.or_false]
    simpa using h1
 | [],_::_,_,hl,_,_,_=>by simp at hl
 | _::_,[],_,hl,_,_,_=>by simp at hl
theorem PlanW.laid {slots:List (Option Nat)} {goods:List Gd} {inv:World→Prop} {t:Array Value} {d:List Deferred} {L:Nat→Bool} {a:Act} {w:World} (h:PlanW slots goods inv t d L a w) (hl:slots.length=goods.length)
 (hL:∀ i,i<slots.length→L i=true):LaidW L d w a slots goods t :=
 laidW_of h.defers slots goods t hl (fun i g h2=>h.done i (hL i (by rw[hl];exact(List.getElem?_eq_some_iff.1 h2).1)) (by rw[hl];exact(List.getElem?_eq_some_iff.1 h2).1) g h2) h.rest h.size
def LastsW (ms:List Nat):List Gd→Prop
 | []=>True
 | g::r=>(∀ (L:Nat→Bool) (i:Nat) v w w',ms.contains i=false→g L v w→Below w.heap.size w w'→g (upd L i) v w')∧LastsW ms r
theorem lastsW_mem {ms:List Nat}:∀ {l:List Gd},LastsW ms l→∀ g∈l,∀ (L:Nat→Bool) (i:Nat) v w w',ms.contains i=false→g L v w→Below w.heap.size w w'→g (upd L i) v w'
 | [],_,_,h=>by cases h
 | x::r,h,g,hg=>by
  rcases List.mem_cons.1 hg with rfl | hg
  ·exact h.1
  ·exact lastsW_mem h.2 g hg
theorem lastsW_is {ms:List Nat} (x:Value):∀ (L:Nat→Bool) (i:Nat) v w w',ms.contains i=false→isW x L v w→Below w.heap.size w w'→isW x (upd L i) v w':=fun _ _ _ _ _ _ h _=>h
def KeepAll (slots:List (Option Nat)) (L:Nat→Bool) (a:Act) (w w':World) (i:Nat):Nat→List Gd→Prop
 | _,[]=>True
 | j,g::r=>(j≠i→L j=true→∀ v,(∀ s,slots[j]?=some (some s)→a.tmps[s]?=some v)→g L v w→g (upd L i) v w')∧KeepAll slots L a w w' i (j+1) r
theorem keepAll_at {slots:List (Option Nat)} {L:Nat→Bool} {a:Act} {w w':World} {i:Nat}:∀ {k:Nat} {l:List Gd},KeepAll slots L a w w' i k l→∀ (j:Nat) (g:Gd),l[j]?=some g→k+j≠i→L (k+j)=true→∀ v,(∀ s,slots[k+j]?=some (some s)→a.tmps[s]?=some v)→g L v w→g (upd L i) v w'
 | _,[],_,j,_,h=>by simp at h
 | _,x::_,h,0,g,hg=>by
  simp at hg
  subst hg
  exact h.1
 | k,_::r,h,j+1,g,hg=>by
  have:=keepAll_at h.2 j g (by simpa using hg)
  rwa [show k+1+j=k+(j+1) by omega] at this
def StepW (ms:List Nat) (slots:List (Option Nat)) (goods:List Gd) (L:Nat→Bool) (a:Act) (w w':World) (i:Nat):Prop:=match ms.contains i with
 | true=>KeepAll slots L a w w' i 0 goods
 | false=>Below w.heap.size w w'
theorem stepW_true {ms:List Nat} {slots:List (Option Nat)} {goods:List Gd} {L:Nat→Bool} {a:Act} {w w':World} {i:Nat} (h:ms.contains i=true):StepW ms slots goods L a w w' i=KeepAll slots L a w w' i 0 goods:=by unfold StepW;rw[h]
theorem stepW_false {ms:List Nat} {slots:List (Option Nat)} {goods:List Gd} {L:Nat→Bool} {a:Act} {w w':World} {i:Nat} (h:ms.contains i=false):StepW ms slots goods L a w w' i=Below w.heap.size w w':=by unfold StepW;rw[h]
theorem PlanW.put {slots:List (Option Nat)} {goods:List Gd} {inv:World→Prop} {t:Array Value} {d:List Deferred} {L:Nat→Bool} {a:Act} {w w':World} {i:Nat} {s:Option Nat} {v:Value} {L':Nat→Bool} (h:PlanW slots goods inv t d L a w)
 (hnd:(slots.filterMap fun x=>x).Nodup) (hbd:slots.all (fun s=>decide (s.getD 0<t.size))=true) (hst:∀ (j:Nat) (g:Gd),goods[j]?=some g→j≠i→L j=true→∀ v,(∀ s,slots[j]?=some (some s)→a.tmps[s]?=some v)→g L v w→g L' v w') {inv':World→Prop} (hinv:inv' w') (hs:slots[i]?=some s) (hg:∀ g:Gd,goods[i]?=some g→g L' v w')
 (hL:∀ j,L' j=true→j=i∨L j=true):PlanW slots goods inv' t d L' (a.put s v) w':=by
 cases s with
 | none =>
  refine⟨h.defers,hinv,?_,h.rest,h.size⟩
  intro j hj hjl g' hg'
  by_cases hji:j=i
  ·subst hji
   exact⟨v,fun s' hs'=>(by rw[hs] at hs';cases hs'),hg g' hg'⟩
  ·obtain⟨u,hu,hgu⟩:=h.done j ((hL j hj).resolve_left hji) hjl g' hg'
   exact⟨u,hu,hst j g' hg' hji ((hL j hj).resolve_left hji) u hu hgu⟩
 | some s =>
  refine⟨h.defers,hinv,?_,?_,?_⟩
  ·intro j hj hjl g' hg'
   by_cases hji:j=i
   ·subst hji
    refine⟨v,fun s' hs'=>?_,hg g' hg'⟩
    obtain rfl:s=s':=Option.some.inj (Option.some.inj (hs.symm.trans hs'))
    have hlt:s<a.tmps.size:=by
     rw[h.size]
     have:=List.all_eq_true.1 hbd (some s) (List.mem_of_getElem? hs)
     simpa using this
    show(a.tmps.setIfInBounds s v)[s]?=some v
    rw[Array.getElem?_setIfInBounds_self_of_lt hlt]
   ·obtain⟨u,hu,hgu⟩:=h.done j ((hL j hj).resolve_left hji) hjl g' hg'
    refine⟨u,fun s' hs'=>?_,hst j g' hg' hji ((hL j hj).resolve_left hji) u hu hgu⟩
    have hne:s≠s':=fun e=>hji (nodup_some hnd (e▸hs') hs)
    show(a.tmps.setIfInBounds s v)[s']?=some u
    rw[Array.getElem?_setIfInBounds_ne hne]
    exact hu s' hs'
  ·intro j hj
   have hne:s≠j:=fun e=>by
    have hm:some j∈slots:=e▸List.mem_of_getElem? hs
    have:slots.contains (some j)=true:=by simpa using hm
    rw[this] at hj
    cases hj
   show(a.tmps.setIfInBounds s v)[j]?=t[j]?
   rw[Array.getElem?_setIfInBounds_ne hne]
   exact h.rest j hj
  ·show(a.tmps.setIfInBounds s v).size=t.size
   rw[Array.size_setIfInBounds]
   exact h.size
def PlanStepsW (P:Program) (ops:Array Oper) (slots:List (Option Nat)) (goods:List Gd) (inv:(Nat→Bool)→World→Prop) (ms:List Nat) (t:Array Value) (d:List Deferred) (Q:Exit→Act→World→Prop):Nat→List Oper→List Gd→Prop
 | i,o::r,g::gs=>(∀ (L:Nat→Bool) (a:Act) (w:World) (Q':Exit→Act→World→Prop),L i=false→inv L w →
  (∀ k,(∃ gr,(⟨k,gr⟩:Edge)∈o.after.toList∧Region.binds .any ⟨k,gr⟩=true)→∀ g,goods[k]?=some g→∃ v,(∀ s,slots[k]?=some (some s)→a.tmps[s]?=some v)∧g L v w) →
  (∀ j,slots.contains (some j)=false→a.tmps[j]?=t[j]?) →
  (∀ v w',StepW ms slots goods L a w w' i→inv (upd L i) w'→g (upd L i) v w'→Q' .normal (a.put o.dst v) w')→wpList P ops Q' [o] a w)∧PlanStepsW P ops slots goods inv ms t d Q (i+1) r gs
 | _,[o],[]=>∀ (a:Act) (w:World) (L:Nat→Bool),LaidW L d w a slots goods t→inv L w→(∀ i,i<slots.length→L i=true)→∀ (Q':Exit→Act→World→Prop),(∀ a w,Q .normal a w→Q' .normal a w)→wpList P ops Q' [o] a w
 | _,_,_=>False
theorem planW_at {P:Program} {ops:Array Oper} {slots:List (Option Nat)} {goods:List Gd} {inv:(Nat→Bool)→World→Prop} {ms:List Nat} {t:Array Value} {d:List Deferred} {Q:Exit→Act→World→Prop}:∀ (k:Nat) (l:List Oper) (gs:List Gd),PlanStepsW P ops slots goods inv ms t d Q k l gs →
 l.length=gs.length+1 ∧
 (∀ (i:Nat) (o:Oper),l[i]?=some o→i<gs.length →
 (∀ (L:Nat→Bool) (a:Act) (w:World) (Q':Exit→Act→World→Prop),L (k+i)=false→inv L w →
  (∀ k,(∃ gr,(⟨k,gr⟩:Edge)∈o.after.toList∧Region.binds .any ⟨k,gr⟩=true)→∀ g,goods[k]?=some g→∃ v,(∀ s,slots[k]?=some (some s)→a.tmps[s]?=some v)∧g L v w) →
  (∀ j,slots.contains (some j)=false→a.tmps[j]?=t[j]?) →
  (∀ v w',StepW ms slots goods L a w w' (k+i)→inv (upd L (k+i)) w'→(∀ g:Gd,gs[i]?=some g→g (upd L (k+i)) v w')→Q' .normal (a.put o.dst v) w')→wpList P ops Q' [o] a w)) ∧
 (∀ o,l[gs.length]?=some o→∀ (a:Act) (w:World) (L:Nat→Bool),LaidW L d w a slots goods t→inv L w→(∀ i,i<slots.length→L i=true)→∀ (Q':Exit→Act→World→Prop),(∀ a w,Q .normal a w→Q' .normal a w)→wpList P ops Q' [o] a w)
 | k,x::r,g::gs,h=>by
  obtain⟨h1,h2,h3⟩:=planW_at (k+1) r gs h.2
  refine⟨by simpa using h1,?_,fun o ho=>h3 o (by simpa using ho)⟩
  intro i o ho hi
  cases i with
  | zero =>
   simp at ho
   subst ho
   exact fun L a w Q' h0 h1 h2 h3 h4=>h.1 L a w Q' h0 h1 h2 h3 fun v w' hb hi hg=>h4 v w' hb hi fun g' e=>by
    simp at e
    rw[← e]
    exact hg
  | succ i =>
   have:=h2 i o (by simpa using ho) (by simpa using hi)
   rw[show k+1+i=k+(i+1) by omega] at this
   simpa using this
 | _,[o],[],h=>⟨rfl,fun i o' _ hi=>by simp at hi,fun o' ho'=>by simp at ho';subst ho';exact h⟩
 | _,[],_,h=>by cases ‹List Gd›<;>exact h.elim
 | _,_::_::_,[],h=>h.elim
section
variable {P:Program} {Q:Exit→Act→World→Prop}
theorem wp_region_goods {id:Nat} {l:List Oper} {t:Array Value} {d:List Deferred} {w:World} (slots:List (Option Nat)) (goods:List Gd) (inv:(Nat→Bool)→World→Prop) (ms:List Nat)
 (hm:P.follows .mixedOrders=true) (hord:ordered 0 l=true) (hcons:consumed l=true) (hslots:(l.map (·.dst)).take slots.length=slots) (hnd:(slots.filterMap fun x=>x).Nodup) (hbd:slots.all (fun s=>decide (s.getD 0<t.size))=true) (hlen:slots.length=goods.length)
 (h0:inv (fun _=>false) w.drew) (hst0:LastsW ms goods)
 (hstep:PlanStepsW P l.toArray slots goods inv ms t d Q 0 l goods) :
 (Code.region id l.toArray true).wp P Q ⟨t,d⟩ w:=by
 obtain⟨hn,hat,hla⟩:=planW_at 0 l goods hstep
 rw[← hlen] at hn hat hla
 have hsl:∀ (i:Nat) (o:Oper),l[i]?=some o→i<slots.length→slots[i]?=some o.dst:=fun i o ho hi=>by
  have h:=congrArg (fun x:List (Option Tmp)=>x[i]?) hslots
  simp only[List.getElem?_map,List.getElem?_take,if_pos hi,ho,Option.map_some] at h
  exact h.symm
 have hst:=lastsW_mem hst0
 refine wp_region_inv hm hord (fun L a w=>(∀ j o,l[j]?=some o→L j=true→∀ e∈o.after.toList,Region.binds .any e=true→L e.on=true) ∧
  (L slots.length=false→PlanW slots goods (inv L) t d L a w)∧(L slots.length=true→Q .normal a w)) ?_ ?_ ?_
 ·refine⟨fun _ _ _ h=>(by cases h),fun _=>?_,fun h=>(by cases h)⟩
  exact⟨rfl,h0,fun i h=>by simp at h,fun _ _=>rfl,rfl⟩
 ·have key:∀ (i:Nat) (o:Oper),l[i]?=some o→∀ (L:Nat→Bool) (a:Act) (w:World) (Q':Exit→Act→World→Prop),
   ((∀ j o,l[j]?=some o→L j=true→∀ e∈o.after.toList,Region.binds .any e=true→L e.on=true)∧(L slots.length=false→PlanW slots goods (inv L) t d L a w)∧(L slots.length=true→Q .normal a w))→L i=false →
   (∀ e∈o.after.toList,Region.binds .any e=true→L e.on=true) →
   (∀ a w,((∀ j o,l[j]?=some o→upd L i j=true→∀ e∈o.after.toList,Region.binds .any e=true→upd L i e.on=true)∧(upd L i slots.length=false→PlanW slots goods (inv (upd L i)) t d (upd L i) a w)∧(upd L i slots.length=true→Q .normal a w))→Q' .normal a w) →
   wpList P l.toArray Q' [o] a w:=by
   intro i o ho L a w Q' ⟨hcl,hpl,hq⟩ hL hA hK
   have hil:i<slots.length+1:=by rw[← hn];exact(List.getElem?_eq_some_iff.1 ho).1
   have up:∀ k,L k=true→upd L i k=true:=fun k hk=>by simp[upd,hk]
   have hcl':∀ j o,l[j]?=some o→upd L i j=true→∀ e∈o.after.toList,Region.binds .any e=true→upd L i e.on=true:=by
    intro j o' hj hLj e he hb
    by_cases hji:j=i
    ·subst hji
     obtain rfl:o=o':=Option.some.inj (ho.symm.trans hj)
     exact up _ (hA e he hb)
    ·have hne:(j == i)=false:=by simpa using hji
     exact up _ (hcl j o' hj (by simpa[upd,hne] using hLj) e he hb)
   by_cases hin:i=slots.length
   ·subst hin
    have hall:=all_before hord hcons L hn (fun j o hj _=>hcl j o hj) (fun o' ho'=>by obtain rfl:o=o':=Option.some.inj (ho.symm.trans ho');exact hA)
    refine hla o ho a w L ((hpl hL).laid hlen hall) (hpl hL).inv hall Q' fun a' w' hq'=>hK a' w' ⟨hcl',fun h=>?_,fun _=>hq'⟩
    simp[upd] at h
   ·have hi:i<slots.length:=by omega
    have hLn:L slots.length=false:=by
     cases hx:L slots.length with
     | false=>rfl
     | true =>
      have hall:=all_before hord hcons L hn (fun j o hj _=>hcl j o hj) (fun o' ho'=>hcl _ o' ho' hx)
      rw[hall i hi] at hL
      cases hL
    have hI:=hpl hLn
    have hne:(slots.length == i)=false:=by simpa using fun e=>hin (Eq.symm e)
    have h1:=hat i o ho hi L a w Q' (by rw[Nat.zero_add];exact hL) hI.inv (fun k ⟨gr,hk,hb⟩ g hg=>hI.done k (hA _ hk hb) (by rw[hlen];exact(List.getElem?_eq_some_iff.1 hg).1) g hg) hI.rest
    refine h1 fun v w' hb hii hg=>?_
    have hs:=hsl i o ho hi
    rw[Nat.zero_add] at hii hb hg
    have hst':∀ (j:Nat) (g:Gd),goods[j]?=some g→j≠i→L j=true→∀ v,(∀ s,slots[j]?=some (some s)→a.tmps[s]?=some v)→g L v w→g (upd L i) v w':=by
     intro j g hgj hne hLj v hv hgv
     cases he:ms.contains i with
     | true =>
      rw[stepW_true he] at hb
      have:=keepAll_at hb j g hgj (by omega) (by rw[Nat.zero_add];exact hLj) v (by rw[Nat.zero_add];exact hv) hgv
      exact this
     | false =>
      rw[stepW_false he] at hb
      exact hst g (List.mem_of_getElem? hgj) L i v w w' he hgv hb
    refine hK _ _ ⟨hcl',fun _=>?_,fun h=>?_⟩
    ·refine hI.put hnd hbd hst' hii hs hg fun j hj=>?_
     by_cases hji:j=i
     ·exact .inl hji
     ·have:(j == i)=false:=by simpa using hji
      exact .inr (by simpa[upd,this] using hj)
    ·simp[upd,hne,hLn] at h
  have all:∀ (r:List Oper) (k:Nat),(∀ i o,r[i]?=some o→l[k+i]?=some o)→InvSteps P l.toArray (fun L a w=>(∀ j o,l[j]?=some o→L j=true→∀ e∈o.after.toList,Region.binds .any e=true→L e.on=true) ∧
   (L slots.length=false→PlanW slots goods (inv L) t d L a w)∧(L slots.length=true→Q .normal a w)) k r:=by
   intro r
   induction r with
   | nil=>intro k _;trivial
   | cons o r ih =>
    intro k h
    refine⟨fun L a w Q' hI hL hA hK=>key k o (h 0 o rfl) L a w Q' hI hL hA hK,ih (k+1) fun i o' ho'=>?_⟩
    have:=h (i+1) o' (by simpa using ho')
    rwa [show k+1+i=k+(i+1) by omega]
  exact all l 0 fun i o ho=>by simpa using ho
 ·intro L a w hI hL
  exact hI.2.2 (hL slots.length (by omega))
end
end Go.Proofs.YtdcofoaihmongaaGreat
namespace Go.Proofs.YtdcofoaihmongaaGreat
open Go Go.RowKit
def U64 (n:Nat):Prop:=n<18446744073709551616
structure ASet where
 a:Nat
 b:Nat
 c:Nat
 d:Nat
deriving DecidableEq
def ASet.cells (s:ASet):List Value:=[.int .u64 s.a,.int .u64 s.b,.int .u64 s.c,.int .u64 s.d]
structure ASet.Ok (s:ASet):Prop where
 a:U64 s.a
 b:U64 s.b
 c:U64 s.c
 d:U64 s.d
def ASet.word (s:ASet) (i:Nat):Nat:=if i=0 then s.a else if i=1 then s.b else if i=2 then s.c else s.d
def ASet.put (s:ASet) (i x:Nat):ASet:=if i=0 then ⟨x,s.b,s.c,s.d⟩ else if i=1 then ⟨s.a,x,s.c,s.d⟩ else if i=2 then ⟨s.a,s.b,x,s.d⟩ else ⟨s.a,s.b,s.c,x⟩
def ASet.has (s:ASet) (n:Nat):Bool:=(s.word (n/64)).testBit (n%64)
def ASet.mem (s:ASet) (n:Int):Bool:=decide (0≤n∧n<256)&&s.has n.toNat
def ASet.add (s:ASet) (n:Nat):ASet:=s.put (n/64) (s.word (n/64)|||2^(n%64))
def ASet.with (s:ASet) (n:Int):ASet:=if 0≤n∧n<256 then s.add n.toNat else s
def ASet.zero:ASet:=⟨0,0,0,0⟩
theorem ASet.word_ok {s:ASet} (h:s.Ok) (i:Nat):U64 (s.word i):=by
 unfold ASet.word
 split
 ·exact h.a
 ·split
  ·exact h.b
  ·split
   ·exact h.c
   ·exact h.d
theorem ASet.put_ok {s:ASet} (h:s.Ok) (i:Nat) {x:Nat} (hx:U64 x):(s.put i x).Ok:=by
 unfold ASet.put
 split
 ·exact⟨hx,h.b,h.c,h.d⟩
 ·split
  ·exact⟨h.a,hx,h.c,h.d⟩
  ·split
   ·exact⟨h.a,h.b,hx,h.d⟩
   ·exact⟨h.a,h.b,h.c,hx⟩
theorem four {i:Nat} (h:i<4):i=0∨i=1∨i=2∨i=3:=by omega
theorem ASet.word_put (s:ASet) {i j:Nat} (hi:i<4) (hj:j<4) (x:Nat):(s.put i x).word j=if j=i then x else s.word j:=by
 rcases four hi with rfl | rfl | rfl | rfl<;>rcases four hj with rfl | rfl | rfl | rfl<;>rfl
theorem ASet.cell_at (s:ASet) {i:Nat} (hi:i<4):s.cells[i]?=some (.int .u64 (s.word i)):=by
 rcases four hi with rfl | rfl | rfl | rfl<;>rfl
theorem two_lt {j:Nat} (h:j<64):U64 (2^j):=Nat.pow_lt_pow_right (by decide) h
theorem or_lt {x y:Nat} (hx:U64 x) (hy:U64 y):U64 (x|||y):=Nat.or_lt_two_pow (n:=64) hx hy
theorem ASet.add_ok {s:ASet} (h:s.Ok) (n:Nat):(s.add n).Ok:=ASet.put_ok h _ (or_lt (ASet.word_ok h _) (two_lt (Nat.mod_lt _ (by decide))))
theorem ASet.with_ok {s:ASet} (h:s.Ok) (n:Int):(s.with n).Ok:=by
 unfold ASet.with
 split
 ·exact ASet.add_ok h _
 ·exact h
theorem ASet.has_add (s:ASet) {n m:Nat} (hn:n<256) (hm:m<256):(s.add n).has m=(decide (m=n)||s.has m):=by
 unfold ASet.has ASet.add
 rw[ASet.word_put s (by omega) (by omega)]
 by_cases h:m/64=n/64
 ·rw[if_pos h,Nat.testBit_or,h,Nat.testBit_two_pow,Bool.or_comm]
  congr 1
  by_cases e:m=n
  ·subst e;simp
  ·have:n%64≠m%64:=fun h2=>e (by omega)
   simp[e,this]
 ·rw[if_neg h]
  have:m≠n:=fun e=>h (by rw[e])
  simp[this]
theorem word_eq {x y:Nat} (hx:U64 x) (hy:U64 y) (h:∀ j,j<64→x.testBit j=y.testBit j):x=y:=by
 refine Nat.eq_of_testBit_eq fun j=>?_
 by_cases hj:j<64
 ·exact h j hj
 ·have e:∀ {z:Nat},U64 z→z.testBit j=false:=fun {z} hz=>Nat.testBit_lt_two_pow (Nat.lt_of_lt_of_le hz (Nat.pow_le_pow_right (n:=2) (by decide) (by omega:64≤j)))
  rw[e hx,e hy]
theorem ASet.ext {s t:ASet} (hs:s.Ok) (ht:t.Ok) (h:∀ n,n<256→s.has n=t.has n):s=t:=by
 have key:∀ i,i<4→s.word i=t.word i:=fun i hi=>word_eq (ASet.word_ok hs i) (ASet.word_ok ht i) fun j hj=>by
  have:=h (i*64+j) (by omega)
  unfold ASet.has at this
  rwa [show(i*64+j)/64=i by omega,show(i*64+j)%64=j by omega] at this
 have h0:=key 0 (by decide)
 have h1:=key 1 (by decide)
 have h2:=key 2 (by decide)
 have h3:=key 3 (by decide)
 obtain⟨a,b,c,d⟩:=s
 obtain⟨a',b',c',d'⟩:=t
 simp[ASet.word] at h0 h1 h2 h3
 subst h0 h1 h2 h3
 rfl
theorem shr_bit {x j:Nat} (hx:U64 x):(bits BinOp.and IntKind.u64 ((x:Int)/2^j) 1 == 1)=x.testBit j:=by
 have e:(x:Int)/2^j=((x/2^j:Nat):Int):=by simp
 have hlt:x/2^j<18446744073709551616:=Nat.lt_of_le_of_lt (Nat.div_le_self _ _) hx
 rw[e]
 have h:=bits_and_u64_nat (x/2^j) 1 hlt (by decide)
 rw[show((1:Nat):Int)=1 from rfl] at h
 rw[h]
 rw[Nat.testBit_eq_decide_div_mod_eq,Nat.and_one_is_mod]
 rcases Nat.mod_two_eq_zero_or_one (x/2^j) with h | h<;>rw[h]<;>rfl
theorem and_two {x j:Nat} (hx:U64 x) (hj:j<64):(bits BinOp.and IntKind.u64 (x:Int) ((2^j:Nat):Int) != 0)=x.testBit j:=by
 rw[bits_and_u64_nat x (2^j) hx (two_lt hj)]
 cases h:x.testBit j with
 | false =>
  have e:x&&&2^j=0:=Nat.eq_of_testBit_eq fun i=>by
   rw[Nat.testBit_and,Nat.testBit_two_pow,Nat.zero_testBit]
   by_cases hi:j=i
   ·subst hi;simp[h]
   ·simp[hi]
  rw[e];rfl
 | true =>
  have e:x&&&2^j≠0:=fun e=>by
   have:=congrArg (fun z=>z.testBit j) e
   simp[Nat.testBit_and,h] at this
  have e':((x&&&2^j:Nat):Int)≠0:=fun h=>e (by exact_mod_cast h)
  simpa using e'
end Go.Proofs.YtdcofoaihmongaaGreat
namespace Go.Proofs.YtdcofoaihmongaaGreat
open Go Go.RowKit
theorem wrap_two {j:Nat} (h:j<64):IntKind.u64.wrap (2^j)=((2^j:Nat):Int):=by
 have h1:=two_lt h
 unfold U64 at h1
 rw[show(2:Int)^j=((2^j:Nat):Int) by simp,IntKind.wrap_u64]
 generalize 2^j=y at h1 ⊢
 omega
theorem or_two {x j:Nat} (hx:U64 x) (h:j<64):bits .or .u64 (x:Int) ((2:Int)^j)=((x|||2^j:Nat):Int):=by
 rw[show(2:Int)^j=((2^j:Nat):Int) by simp]
 exact bits_or_u64_nat x (2^j) hx (two_lt h)
theorem bit_any (w:World) (m:Nat) (hm:m<256):Calls Tryz.prog 64 #[.int .i64 m] w fun e w'=>e=.returned (.int .u64 ((2^(m%64):Nat):Int))∧w=w':=by
 go_enter Tryz.func64,Tryz.ntmps64
 go_wp2
 go_ret
 exact⟨ret_int (wrap_two (Nat.mod_lt _ (by decide))),rfl⟩
theorem inside_lo (w:World) (n:Int) (hn:¬ 0≤n):Calls Tryz.prog 206 #[.int .i64 n] w fun e w'=>e=.returned (.bool false)∧w=w':=by
 go_enter Tryz.func206,Tryz.ntmps206
 go_wp2
 go_ret
 exact⟨rfl,rfl⟩
theorem inside_hi (w:World) (n:Int) (h0:0≤n) (hn:¬ n<256):Calls Tryz.prog 206 #[.int .i64 n] w fun e w'=>e=.returned (.bool false)∧w=w':=by
 go_enter Tryz.func206,Tryz.ntmps206
 go_wp2
 go_ret
 exact⟨rfl,rfl⟩
theorem inside_yes (w:World) (n:Int) (h0:0≤n) (hn:n<256):Calls Tryz.prog 206 #[.int .i64 n] w fun e w'=>e=.returned (.bool true)∧w=w':=by
 go_enter Tryz.func206,Tryz.ntmps206
 go_wp2
 go_ret
 exact⟨rfl,rfl⟩
theorem whole_two (w:World) (o:Obj) (cs:Array Value) (t:TypeId):Whole ((w.alloc o).alloc (.cells cs t)) (w.heap.size+1) t cs:=by
 have:=Whole.new (w.alloc o) t cs
 simpa using this
theorem splice_all (cs:Array Value) (l:List Value) (h:cs.size=l.length):splice cs 0 l=l.toArray:=by
 apply Array.toList_inj.1
 rw[splice_toList _ _ _ (by omega)]
 simp[List.drop_of_length_le (show cs.toList.length≤l.length by simp[h])]
theorem size52:(Tryz.prog.info? 52).map (·.size)=some 1:=by kernel_rfl
theorem size54:(Tryz.prog.info? 54).map (·.size)=some 4:=by kernel_rfl
theorem splice_set (s:ASet) {i:Nat} (hi:i<4) (x:Nat):(#[.int .u64 (s.put i x).a,.int .u64 (s.put i x).b,.int .u64 (s.put i x).c,.int .u64 (s.put i x).d]:Array Value)=splice #[.int .u64 s.a,.int .u64 s.b,.int .u64 s.c,.int .u64 s.d] i [.int .u64 (x:Int)]:=by
 rcases four hi with rfl | rfl | rfl | rfl<;>rfl
set_option maxRecDepth 100000 in
set_option maxHeartbeats 2000000 in
theorem has_in (w:World) (s:ASet) (hs:s.Ok) (m:Nat) (hm:m<256) :
 Calls Tryz.prog 191 #[.agg #[.int .u64 s.a,.int .u64 s.b,.int .u64 s.c,.int .u64 s.d],.int .i64 m] w fun e w'=>e=.returned (.bool (s.mem m))∧Below w.heap.size w w':=by
 have k:=(Whole.new w 54 #[.int .u64 s.a,.int .u64 s.b,.int .u64 s.c,.int .u64 s.d]).cell (m/64)
 rw[show(#[.int .u64 s.a,.int .u64 s.b,.int .u64 s.c,.int .u64 s.d]:Array Value)[m/64]?=some (.int .u64 (s.word (m/64))) by rw[← Array.getElem?_toList];exact s.cell_at (by omega)] at k
 obtain⟨x,hx⟩:∃ x,x=s.word (m/64):=⟨_,rfl⟩
 rw[← hx] at k
 have HX:=Lib.hid hx
 have HUX:=Lib.hid (show U64 x by rw[hx];exact ASet.word_ok hs _)
 clear hx
 have h4:m/64<4:=by omega
 have hm':(m:Int)<256:=by omega
 have hmem:Hid (s.mem (m:Int)=x.testBit (m%64)):=by
  unfold Hid ASet.mem ASet.has
  rw[HX.out]
  simp
  omega
 go_enter Tryz.func191,Tryz.ntmps191
 go_wp2
 go_ret
 exact⟨ret_bool ((shr_bit HUX.out).trans hmem.out.symm),(Below.refl _ w).alloc (Nat.le_refl _) _⟩
set_option maxRecDepth 100000 in
set_option maxHeartbeats 2000000 in
theorem has_out0 (w:World) (s:ASet) (n:Int) (hn:n<0) :
 Calls Tryz.prog 191 #[.agg #[.int .u64 s.a,.int .u64 s.b,.int .u64 s.c,.int .u64 s.d],.int .i64 n] w fun e w'=>e=.returned (.bool false)∧Below w.heap.size w w':=by
 have hn1:¬ 0≤n:=by omega
 go_enter Tryz.func191,Tryz.ntmps191
 go_wp2
 go_ret
 exact⟨rfl,(Below.refl _ w).alloc (Nat.le_refl _) _⟩
set_option maxRecDepth 100000 in
set_option maxHeartbeats 2000000 in
theorem has_out1 (w:World) (s:ASet) (n:Int) (hn:256≤n) :
 Calls Tryz.prog 191 #[.agg #[.int .u64 s.a,.int .u64 s.b,.int .u64 s.c,.int .u64 s.d],.int .i64 n] w fun e w'=>e=.returned (.bool false)∧Below w.heap.size w w':=by
 have hn0:0≤n:=by omega
 have hn1:¬ n<256:=by omega
 go_enter Tryz.func191,Tryz.ntmps191
 go_wp2
 go_ret
 exact⟨rfl,(Below.refl _ w).alloc (Nat.le_refl _) _⟩
theorem has_any (w:World) (s:ASet) (hs:s.Ok) (n:Int) :
 Calls Tryz.prog 191 #[.agg #[.int .u64 s.a,.int .u64 s.b,.int .u64 s.c,.int .u64 s.d],.int .i64 n] w fun e w'=>e=.returned (.bool (s.mem n))∧Below w.heap.size w w':=by
 by_cases h:0≤n∧n<256
 ·obtain⟨m,rfl⟩:∃ m:Nat,n=m:=⟨n.toNat,by omega⟩
  exact has_in w s hs m (by omega)
 ·rw[show s.mem n=false by unfold ASet.mem;simp[h]]
  by_cases h0:n<0
  ·exact has_out0 w s n h0
  ·exact has_out1 w s n (by omega)
set_option maxRecDepth 100000 in
set_option maxHeartbeats 2000000 in
theorem rhas_in (w:World) (s:ASet) (hs:s.Ok) (m:Nat) (hm:m<256) :
 Calls Tryz.prog 18 #[.agg #[.int .u64 s.a,.int .u64 s.b,.int .u64 s.c,.int .u64 s.d],.int .i64 m] w fun e w'=>e=.returned (.bool (s.mem m))∧Below w.heap.size w w':=by
 have k:=(Whole.new w 54 #[.int .u64 s.a,.int .u64 s.b,.int .u64 s.c,.int .u64 s.d]).cell (m/64)
 rw[show(#[.int .u64 s.a,.int .u64 s.b,.int .u64 s.c,.int .u64 s.d]:Array Value)[m/64]?=some (.int .u64 (s.word (m/64))) by rw[← Array.getElem?_toList];exact s.cell_at (by omega)] at k
 obtain⟨x,hx⟩:∃ x,x=s.word (m/64):=⟨_,rfl⟩
 rw[← hx] at k
 have HX:=Lib.hid hx
 have HUX:=Lib.hid (show U64 x by rw[hx];exact ASet.word_ok hs _)
 clear hx
 have h4:m/64<4:=by omega
 have hm':(m:Int)<256:=by omega
 have hmem:Hid (s.mem (m:Int)=x.testBit (m%64)):=by
  unfold Hid ASet.mem ASet.has
  rw[HX.out]
  simp
  omega
 obtain⟨wo,hwo⟩:∃ wo,wo=w.alloc (.cells #[.int .u64 s.a,.int .u64 s.b,.int .u64 s.c,.int .u64 s.d] 54):=⟨_,rfl⟩
 rw[← hwo] at k
 have HBO:=Lib.hid (show Below w.heap.size w wo by rw[hwo];exact(Below.refl _ w).alloc (Nat.le_refl _) _)
 go_enter Tryz.func18,Tryz.ntmps18
 go_wp2_with fail
 rw[← hwo]
 clear hwo
 refine wp_region_last (fun w w'=>Below w.heap.size w w') [some 5,some 6,some 7,some 8,some 9,some 10,some 11,some 12,some 13,some 14,some 15,some 16,some 17,some 18,some 19,some 20] [isV (.int .i64 m),isV (.bool true),isV (.bool true),isV (.int .i64 m),isV (.bool true),isV (.bool true),isV (.bool true),isV (.int .i64 m),isV (.int .i64 ((m/64:Nat):Int)),isV (.pointer (some ⟨w.heap.size,m/64,none⟩)),isV (.int .u64 x),isV (.int .i64 m),isV (.int .u64 ((2^(m%64):Nat):Int)),isV (.int .u64 (bits .and .u64 (x:Int) ((2^(m%64):Nat):Int))),isV (.bool (bits .and .u64 (x:Int) ((2^(m%64):Nat):Int) != 0)),isV (.bool (bits .and .u64 (x:Int) ((2^(m%64):Nat):Int) != 0))] (fun _ w'=>Below wo.heap.size wo w') 16 (by kernel_rfl) (by kernel_rfl) (by kernel_rfl) rfl (by decide) rfl rfl ((Below.refl _ _).drew) ⟨lasts_is _,lasts_is _,lasts_is _,lasts_is _,lasts_is _,lasts_is _,lasts_is _,lasts_is _,lasts_is _,lasts_is _,lasts_is _,lasts_is _,lasts_is _,lasts_is _,lasts_is _,lasts_is _,trivial⟩ ⟨(fun _=>lastsR_is _),(fun _=>lastsR_is _),(fun _=>lastsR_is _),(fun _=>lastsR_is _),(fun _=>lastsR_is _),(fun _=>lastsR_is _),(fun _=>lastsR_is _),(fun _=>lastsR_is _),(fun _=>lastsR_is _),(fun _=>lastsR_is _),(fun _=>lastsR_is _),(fun _=>lastsR_is _),(fun _=>lastsR_is _),(fun _=>lastsR_is _),(fun _=>lastsR_is _),(fun _=>lastsR_is _),trivial⟩ ⟨?_,?_,?_,?_,?_,?_,?_,?_,?_,?_,?_,?_,?_,?_,?_,?_,?_⟩
 ·intro L a wx Q' hL hi H F hK
  try dsimp only at hi
  have h1:a.tmps[1]?=some (.int .i64 m):=F 1 rfl
  have HI:=Lib.hid hi
  clear H F hi hL
  go_wp2_with fail
  exact hK _ _ (Below.refl _ _) HI.out rfl
 ·intro L a wx Q' hL hi H F hK
  try dsimp only at hi
  obtain⟨_,h5,rfl⟩:=H 0 ⟨.data,by simp,rfl⟩ _ rfl
  replace h5:=h5 _ rfl
  have HI:=Lib.hid hi
  clear H F hi hL
  go_wp2_with fail
  exact hK _ _ (Below.refl _ _) HI.out rfl
 ·intro L a wx Q' hL hi H F hK
  try dsimp only at hi
  obtain⟨_,h6,rfl⟩:=H 1 ⟨.data,by simp,rfl⟩ _ rfl
  replace h6:=h6 _ rfl
  have HI:=Lib.hid hi
  clear H F hi hL
  go_wp2_with fail
  exact hK _ _ (Below.refl _ _) HI.out rfl
 ·intro L a wx Q' hL hi H F hK
  try dsimp only at hi
  obtain⟨_,h7,rfl⟩:=H 2 ⟨.guard,by simp,rfl⟩ _ rfl
  replace h7:=h7 _ rfl
  have h1:a.tmps[1]?=some (.int .i64 m):=F 1 rfl
  have HI:=Lib.hid hi
  clear H F hi hL
  go_wp2_with fail
  exact hK _ _ (Below.refl _ _) HI.out rfl
 ·intro L a wx Q' hL hi H F hK
  try dsimp only at hi
  obtain⟨_,h8,rfl⟩:=H 3 ⟨.data,by simp,rfl⟩ _ rfl
  replace h8:=h8 _ rfl
  obtain⟨_,h7,rfl⟩:=H 2 ⟨.guard,by simp,rfl⟩ _ rfl
  replace h7:=h7 _ rfl
  have HI:=Lib.hid hi
  clear H F hi hL
  go_wp2_with fail
  exact hK _ _ (Below.refl _ _) HI.out rfl
 ·intro L a wx Q' hL hi H F hK
  try dsimp only at hi
  obtain⟨_,h7,rfl⟩:=H 2 ⟨.data,by simp,rfl⟩ _ rfl
  replace h7:=h7 _ rfl
  obtain⟨_,h9,rfl⟩:=H 4 ⟨.data,by simp,rfl⟩ _ rfl
  replace h9:=h9 _ rfl
  have HI:=Lib.hid hi
  clear H F hi hL
  go_wp2_with fail
  exact hK _ _ (Below.refl _ _) HI.out rfl
 ·intro L a wx Q' hL hi H F hK
  try dsimp only at hi
  obtain⟨_,h10,rfl⟩:=H 5 ⟨.data,by simp,rfl⟩ _ rfl
  replace h10:=h10 _ rfl
  have HI:=Lib.hid hi
  clear H F hi hL
  go_wp2_with fail
  exact hK _ _ (Below.refl _ _) HI.out rfl
 ·intro L a wx Q' hL hi H F hK
  try dsimp only at hi
  obtain⟨_,h11,rfl⟩:=H 6 ⟨.guard,by simp,rfl⟩ _ rfl
  replace h11:=h11 _ rfl
  have h1:a.tmps[1]?=some (.int .i64 m):=F 1 rfl
  have HI:=Lib.hid hi
  clear H F hi hL
  go_wp2_with fail
  exact hK _ _ (Below.refl _ _) HI.out rfl
 ·intro L a wx Q' hL hi H F hK
  try dsimp only at hi
  obtain⟨_,h12,rfl⟩:=H 7 ⟨.data,by simp,rfl⟩ _ rfl
  replace h12:=h12 _ rfl
  obtain⟨_,h11,rfl⟩:=H 6 ⟨.guard,by simp,rfl⟩ _ rfl
  replace h11:=h11 _ rfl
  have HI:=Lib.hid hi
  clear H F hi hL
  go_wp2_with fail
  exact hK _ _ (Below.refl _ _) HI.out rfl
 ·intro L a wx Q' hL hi H F hK
  try dsimp only at hi
  obtain⟨_,h13,rfl⟩:=H 8 ⟨.data,by simp,rfl⟩ _ rfl
  replace h13:=h13 _ rfl
  obtain⟨_,h11,rfl⟩:=H 6 ⟨.guard,by simp,rfl⟩ _ rfl
  replace h11:=h11 _ rfl
  have h2:a.tmps[2]?=some (.pointer (some ⟨w.heap.size,0,none⟩)):=F 2 rfl
  have HI:=Lib.hid hi
  clear H F hi hL
  go_wp2_with fail
  exact hK _ _ (Below.refl _ _) HI.out rfl
 ·intro L a wx Q' hL hi H F hK
  try dsimp only at hi
  obtain⟨_,h14,rfl⟩:=H 9 ⟨.data,by simp,rfl⟩ _ rfl
  replace h14:=h14 _ rfl
  obtain⟨_,h11,rfl⟩:=H 6 ⟨.guard,by simp,rfl⟩ _ rfl
  replace h11:=h11 _ rfl
  have HI:=Lib.hid hi
  clear H F hi hL
  have kk:wx.cell? ⟨w.heap.size,m/64,none⟩=some (.int .u64 x):=cell_later HI.out k
  go_wp2_with fail
  exact hK _ _ (Below.refl _ _) HI.out rfl
 ·intro L a wx Q' hL hi H F hK
  try dsimp only at hi
  obtain⟨_,h11,rfl⟩:=H 6 ⟨.guard,by simp,rfl⟩ _ rfl
  replace h11:=h11 _ rfl
  have h1:a.tmps[1]?=some (.int .i64 m):=F 1 rfl
  have HI:=Lib.hid hi
  clear H F hi hL
  go_wp2_with fail
  exact hK _ _ (Below.refl _ _) HI.out rfl
 ·intro L a wx Q' hL hi H F hK
  try dsimp only at hi
  obtain⟨_,h16,rfl⟩:=H 11 ⟨.data,by simp,rfl⟩ _ rfl
  replace h16:=h16 _ rfl
  obtain⟨_,h11,rfl⟩:=H 6 ⟨.guard,by simp,rfl⟩ _ rfl
  replace h11:=h11 _ rfl
  have HI:=Lib.hid hi
  clear H F hi hL
  go_wp2_with (go_at_call 64;go_must (refine(bit_any _ m hm).mono ?_;rintro e w1 ⟨rfl,rfl⟩))
  exact hK _ _ (Below.refl _ _) HI.out rfl
 ·intro L a wx Q' hL hi H F hK
  try dsimp only at hi
  obtain⟨_,h15,rfl⟩:=H 10 ⟨.data,by simp,rfl⟩ _ rfl
  replace h15:=h15 _ rfl
  obtain⟨_,h17,rfl⟩:=H 12 ⟨.data,by simp,rfl⟩ _ rfl
  replace h17:=h17 _ rfl
  obtain⟨_,h11,rfl⟩:=H 6 ⟨.guard,by simp,rfl⟩ _ rfl
  replace h11:=h11 _ rfl
  have HI:=Lib.hid hi
  clear H F hi hL
  go_wp2_with fail
  exact hK _ _ (Below.refl _ _) HI.out rfl
 ·intro L a wx Q' hL hi H F hK
  try dsimp only at hi
  obtain⟨_,h18,rfl⟩:=H 13 ⟨.data,by simp,rfl⟩ _ rfl
  replace h18:=h18 _ rfl
  obtain⟨_,h11,rfl⟩:=H 6 ⟨.guard,by simp,rfl⟩ _ rfl
  replace h11:=h11 _ rfl
  have HI:=Lib.hid hi
  clear H F hi hL
  go_wp2_with fail
  exact hK _ _ (Below.refl _ _) HI.out rfl
 ·intro L a wx Q' hL hi H F hK
  try dsimp only at hi
  obtain⟨_,h11,rfl⟩:=H 6 ⟨.data,by simp,rfl⟩ _ rfl
  replace h11:=h11 _ rfl
  obtain⟨_,h19,rfl⟩:=H 14 ⟨.data,by simp,rfl⟩ _ rfl
  replace h19:=h19 _ rfl
  have HI:=Lib.hid hi
  clear H F hi hL
  go_wp2_with fail
  exact hK _ _ (Below.refl _ _) HI.out rfl
 ·intro a wx hl L hi hL Q' hK
  try dsimp only at hi
  have HB:=Lib.hid hi
  clear hi hL
  obtain⟨_,rfl,_,rfl,_,rfl,_,rfl,_,rfl,_,rfl,_,rfl,_,rfl,_,rfl,_,rfl,_,rfl,_,rfl,_,rfl,_,rfl,_,rfl,_,rfl,rfl⟩:=hl
  simp only[List.setIfInBounds_toArray,List.set_cons_zero,List.set_cons_succ]
  go_wp2_with fail
  go_ret
  exact⟨ret_bool ((and_two HUX.out (Nat.mod_lt _ (by decide))).trans hmem.out.symm),HBO.out.trans (HB.out.mono HBO.out.size)⟩
set_option maxRecDepth 100000 in
set_option maxHeartbeats 2000000 in
theorem rhas_out0 (w:World) (s:ASet) (n:Int) (hn:n<0) :
 Calls Tryz.prog 18 #[.agg #[.int .u64 s.a,.int .u64 s.b,.int .u64 s.c,.int .u64 s.d],.int .i64 n] w fun e w'=>e=.returned (.bool false)∧Below w.heap.size w w':=by
 obtain⟨k,rfl⟩:∃ k:Nat,n=Int.negSucc k:=⟨(-n-1).toNat,by omega⟩
 go_enter Tryz.func18,Tryz.ntmps18
 go_wp2
 go_quiet (fail)
 go_wp2
 go_ret
 exact⟨rfl,below_drewN ((Below.refl _ w).alloc (Nat.le_refl _) _) _⟩
set_option maxRecDepth 100000 in
set_option maxHeartbeats 2000000 in
theorem rhas_out1 (w:World) (s:ASet) (n:Int) (hn:256≤n) :
 Calls Tryz.prog 18 #[.agg #[.int .u64 s.a,.int .u64 s.b,.int .u64 s.c,.int .u64 s.d],.int .i64 n] w fun e w'=>e=.returned (.bool false)∧Below w.heap.size w w':=by
 obtain⟨k,rfl⟩:∃ k:Nat,n=(k:Int):=⟨n.toNat,by omega⟩
 have hd:¬ (k:Int)<256:=by omega
 have hd2:decide ((k:Int)<256)=false:=by simp[hd]
 go_enter Tryz.func18,Tryz.ntmps18
 go_wp2
 go_quiet (fail)
 go_wp2
 go_ret
 exact⟨rfl,below_drewN ((Below.refl _ w).alloc (Nat.le_refl _) _) _⟩
theorem rhas_any (w:World) (s:ASet) (hs:s.Ok) (n:Int) :
 Calls Tryz.prog 18 #[.agg #[.int .u64 s.a,.int .u64 s.b,.int .u64 s.c,.int .u64 s.d],.int .i64 n] w fun e w'=>e=.returned (.bool (s.mem n))∧Below w.heap.size w w':=by
 by_cases h:0≤n∧n<256
 ·obtain⟨m,rfl⟩:∃ m:Nat,n=m:=⟨n.toNat,by omega⟩
  exact rhas_in w s hs m (by omega)
 ·rw[show s.mem n=false by unfold ASet.mem;simp[h]]
  by_cases h0:n<0
  ·exact rhas_out0 w s n h0
  ·exact rhas_out1 w s n (by omega)
set_option maxRecDepth 100000 in
set_option maxHeartbeats 4000000 in
theorem with_in (w:World) (s:ASet) (hs:s.Ok) (m:Nat) (hm:m<256) :
 Calls Tryz.prog 124 #[.agg #[.int .u64 s.a,.int .u64 s.b,.int .u64 s.c,.int .u64 s.d],.int .i64 m] w fun e w'=>e=.returned (.agg #[.int .u64 (s.add m).a,.int .u64 (s.add m).b,.int .u64 (s.add m).c,.int .u64 (s.add m).d])∧Below w.heap.size w w':=by
 obtain⟨wo,hwo⟩:∃ wo,wo=(w.alloc (.cells #[.int .u64 s.a,.int .u64 s.b,.int .u64 s.c,.int .u64 s.d] 54)).alloc (.cells #[.int .u64 0,.int .u64 0,.int .u64 0,.int .u64 0] 54):=⟨_,rfl⟩
 have HS0:=Lib.hid (show Whole wo w.heap.size 54 #[.int .u64 s.a,.int .u64 s.b,.int .u64 s.c,.int .u64 s.d] by rw[hwo];exact(Whole.new w 54 #[.int .u64 s.a,.int .u64 s.b,.int .u64 s.c,.int .u64 s.d]).alloc _)
 have HR0:=Lib.hid (show Whole wo (w.heap.size+1) 54 #[.int .u64 0,.int .u64 0,.int .u64 0,.int .u64 0] by rw[hwo];exact whole_two w _ #[.int .u64 0,.int .u64 0,.int .u64 0,.int .u64 0] _)
 have HBO:=Lib.hid (show Below w.heap.size w wo by rw[hwo];exact((Below.refl _ w).alloc (Nat.le_refl _) _).alloc (by simp) _)
 have k:wo.cell? ⟨w.heap.size,m/64,none⟩=some (.int .u64 (s.word (m/64))):=by
  have h:=HS0.out.cell (m/64)
  rwa [show(#[.int .u64 s.a,.int .u64 s.b,.int .u64 s.c,.int .u64 s.d]:Array Value)[m/64]?=some (.int .u64 (s.word (m/64))) by rw[← Array.getElem?_toList];exact s.cell_at (by omega)] at h
 obtain⟨x,hx⟩:∃ x,x=s.word (m/64):=⟨_,rfl⟩
 rw[← hx] at k
 have HX:=Lib.hid hx
 have HOX:=Lib.hid (or_two (x:=x) (j:=m%64) (by rw[hx];exact ASet.word_ok hs _) (Nat.mod_lt _ (by decide)))
 have HOY:=Lib.hid (bits_or_u64_nat x (2^(m%64)) (by rw[hx];exact ASet.word_ok hs _) (two_lt (Nat.mod_lt _ (by decide))))
 have htw:IntKind.u64.wrap (2^(m%64))=((2^(m%64):Nat):Int):=wrap_two (Nat.mod_lt _ (by decide))
 clear hx
 have h4:m/64<4:=by omega
 have hm':(m:Int)<256:=by omega
 go_enter Tryz.func124,Tryz.ntmps124
 go_upto_region 1 with(fail)
 rw[← hwo]
 clear hwo
 go_wp2_with (go_at_call 206;go_must (refine(inside_yes _ (m:Int) (by omega) (by omega)).mono ?_;rintro e w' ⟨rfl,rfl⟩))
 refine wp_region_last (fun w w'=>Below w.heap.size w w') [some 7,some 8,some 9,some 10,some 11,some 12,some 13,some 14,some 15] [isV (.int .i64 m),isV (.int .i64 ((m/64:Nat):Int)),isV (.pointer (some ⟨w.heap.size,m/64,none⟩)),isV (.int .u64 x),isV (.int .i64 m),isV (.int .i64 ((m%64:Nat):Int)),isV (.int .u64 ((2^(m%64):Nat):Int)),isV (.int .u64 ((x|||2^(m%64):Nat):Int)),isV (.pointer (some ⟨w.heap.size,m/64,none⟩))] (fun _ w'=>Below wo.heap.size wo w') 9 (by kernel_rfl) (by kernel_rfl) (by kernel_rfl) rfl (by decide) rfl rfl ((Below.refl _ _).drew) ⟨lasts_is _,lasts_is _,lasts_is _,lasts_is _,lasts_is _,lasts_is _,lasts_is _,lasts_is _,lasts_is _,trivial⟩ ⟨(fun _=>lastsR_is _),(fun _=>lastsR_is _),(fun _=>lastsR_is _),(fun _=>lastsR_is _),(fun _=>lastsR_is _),(fun _=>lastsR_is _),(fun _=>lastsR_is _),(fun _=>lastsR_is _),(fun _=>lastsR_is _),trivial⟩ ⟨?_,?_,?_,?_,?_,?_,?_,?_,?_,?_⟩
 ·intro L a wx Q' hL hi H F hK
  try dsimp only at hi
  have h1:a.tmps[1]?=some (.int .i64 m):=F 1 rfl
  have HI:=Lib.hid hi
  clear H F hi hL
  go_wp2_with fail
  exact hK _ _ (Below.refl _ _) HI.out rfl
 ·intro L a wx Q' hL hi H F hK
  try dsimp only at hi
  obtain⟨_,h7,rfl⟩:=H 0 ⟨.data,by simp,rfl⟩ _ rfl
  replace h7:=h7 _ rfl
  have HI:=Lib.hid hi
  clear H F hi hL
  go_wp2_with fail
  exact hK _ _ (Below.refl _ _) HI.out rfl
 ·intro L a wx Q' hL hi H F hK
  try dsimp only at hi
  obtain⟨_,h8,rfl⟩:=H 1 ⟨.data,by simp,rfl⟩ _ rfl
  replace h8:=h8 _ rfl
  have h2:a.tmps[2]?=some (.pointer (some ⟨w.heap.size,0,none⟩)):=F 2 rfl
  have HI:=Lib.hid hi
  clear H F hi hL
  go_wp2_with fail
  exact hK _ _ (Below.refl _ _) HI.out rfl
 ·intro L a wx Q' hL hi H F hK
  try dsimp only at hi
  obtain⟨_,h9,rfl⟩:=H 2 ⟨.data,by simp,rfl⟩ _ rfl
  replace h9:=h9 _ rfl
  have HI:=Lib.hid hi
  clear H F hi hL
  have kk:wx.cell? ⟨w.heap.size,m/64,none⟩=some (.int .u64 x):=cell_later HI.out k
  go_wp2_with fail
  exact hK _ _ (Below.refl _ _) HI.out rfl
 ·intro L a wx Q' hL hi H F hK
  try dsimp only at hi
  have h1:a.tmps[1]?=some (.int .i64 m):=F 1 rfl
  have HI:=Lib.hid hi
  clear H F hi hL
  go_wp2_with fail
  exact hK _ _ (Below.refl _ _) HI.out rfl
 ·intro L a wx Q' hL hi H F hK
  try dsimp only at hi
  obtain⟨_,h11,rfl⟩:=H 4 ⟨.data,by simp,rfl⟩ _ rfl
  replace h11:=h11 _ rfl
  have HI:=Lib.hid hi
  clear H F hi hL
  go_wp2_with fail
  exact hK _ _ (Below.refl _ _) HI.out rfl
 ·intro L a wx Q' hL hi H F hK
  try dsimp only at hi
  obtain⟨_,h12,rfl⟩:=H 5 ⟨.data,by simp,rfl⟩ _ rfl
  replace h12:=h12 _ rfl
  have HI:=Lib.hid hi
  clear H F hi hL
  go_wp2_with fail
  exact hK _ _ (Below.refl _ _) HI.out rfl
 ·intro L a wx Q' hL hi H F hK
  try dsimp only at hi
  obtain⟨_,h10,rfl⟩:=H 3 ⟨.data,by simp,rfl⟩ _ rfl
  replace h10:=h10 _ rfl
  obtain⟨_,h13,rfl⟩:=H 6 ⟨.data,by simp,rfl⟩ _ rfl
  replace h13:=h13 _ rfl
  have HI:=Lib.hid hi
  clear H F hi hL
  go_wp2_with fail
  exact hK _ _ (Below.refl _ _) HI.out (by first | exact congrArg (Value.int IntKind.u64) HOX.out.symm | exact congrArg (Value.int IntKind.u64) HOY.out.symm)
 ·intro L a wx Q' hL hi H F hK
  try dsimp only at hi
  obtain⟨_,h8,rfl⟩:=H 1 ⟨.data,by simp,rfl⟩ _ rfl
  replace h8:=h8 _ rfl
  have h2:a.tmps[2]?=some (.pointer (some ⟨w.heap.size,0,none⟩)):=F 2 rfl
  have HI:=Lib.hid hi
  clear H F hi hL
  go_wp2_with fail
  exact hK _ _ (Below.refl _ _) HI.out rfl
 ·intro a wx hl L hi hL Q' hK
  try dsimp only at hi
  have HB:=Lib.hid hi
  clear hi hL
  obtain⟨_,rfl,_,rfl,_,rfl,_,rfl,_,rfl,_,rfl,_,rfl,_,rfl,_,rfl,rfl⟩:=hl
  simp only[List.setIfInBounds_toArray,List.set_cons_zero,List.set_cons_succ]
  have HSX:=Lib.hid (Whole.under HB.out HS0.out HS0.out.lt)
  have HRX:=Lib.hid (Whole.under HB.out HR0.out HR0.out.lt)
  clear HS0 HR0 k
  obtain⟨t,ht⟩:∃ t,t=s.add m:=⟨_,rfl⟩
  have HT:=Lib.hid ht
  clear ht
  go_wp2_with (first | (refine wpList_store_blk rfl 52 _ _ rfl (w.heap.size) (m/64) (.int .u64 ((x|||2^(m%64):Nat):Int)) rfl rfl 54 _ HSX.out (by simp[Value.cells];omega) size52 rfl ?_;intro w1 S1 W1;have HS1:=Lib.hid S1;have HW1:=Lib.hid (show Whole w1 w.heap.size 54 #[.int .u64 t.a,.int .u64 t.b,.int .u64 t.c,.int .u64 t.d] by rw[HT.out];unfold ASet.add;rw[← HX.out];rw[show #[.int .u64 (s.put (m/64) (x|||2^(m%64))).a,.int .u64 (s.put (m/64) (x|||2^(m%64))).b,.int .u64 (s.put (m/64) (x|||2^(m%64))).c,.int .u64 (s.put (m/64) (x|||2^(m%64))).d]=splice #[.int .u64 s.a,.int .u64 s.b,.int .u64 s.c,.int .u64 s.d] (m/64) [.int .u64 ((x|||2^(m%64):Nat):Int)] from splice_set s (by omega) _];exact W1);clear S1 W1) | (refine wpList_load_row rfl 54 _ rfl (w.heap.size) rfl 54 _ (0,0) _ HW1.out Tryz.underlying54 rfl size54 ?_) | (refine wpList_store_blk rfl 54 _ _ rfl (w.heap.size+1) 0 (.agg #[.int .u64 t.a,.int .u64 t.b,.int .u64 t.c,.int .u64 t.d]) rfl rfl 54 _ (HS1.out.whole HRX.out (by omega)) (by simp[Value.cells]) size54 rfl ?_;intro w2 S2 W2;rw[splice_all _ _ (by rfl)] at W2;have HS2:=Lib.hid S2;have HW2:=Lib.hid (show Whole w2 (w.heap.size+1) 54 #[.int .u64 t.a,.int .u64 t.b,.int .u64 t.c,.int .u64 t.d] from W2);clear S2 W2))
  have e0:w2.cell? ⟨w.heap.size+1,0,none⟩=some (.int .u64 t.a):=HW2.out.cell 0
  have e1:w2.cell? ⟨w.heap.size+1,1,none⟩=some (.int .u64 t.b):=HW2.out.cell 1
  have e2:w2.cell? ⟨w.heap.size+1,2,none⟩=some (.int .u64 t.c):=HW2.out.cell 2
  have e3:w2.cell? ⟨w.heap.size+1,3,none⟩=some (.int .u64 t.d):=HW2.out.cell 3
  refine bodyPost_ret (v:=.agg #[.int .u64 t.a,.int .u64 t.b,.int .u64 t.c,.int .u64 t.d]) ?_ rfl ⟨by rw[HT.out],((HBO.out.trans (HB.out.mono HBO.out.size)).trans (HS1.out.below (Nat.le_refl _))).trans (HS2.out.below (by omega))⟩
  simp[results,Tryz.results124,go_sem,e0,e1,e2,e3]
set_option maxRecDepth 100000 in
set_option maxHeartbeats 2000000 in
theorem with_out0 (w:World) (s:ASet) (n:Int) (hn:n<0) :
 Calls Tryz.prog 124 #[.agg #[.int .u64 s.a,.int .u64 s.b,.int .u64 s.c,.int .u64 s.d],.int .i64 n] w fun e w'=>e=.returned (.agg #[.int .u64 s.a,.int .u64 s.b,.int .u64 s.c,.int .u64 s.d])∧Below w.heap.size w w':=by
 have hn1:¬ 0≤n:=by omega
 obtain⟨wo,hwo⟩:∃ wo,wo=(w.alloc (.cells #[.int .u64 s.a,.int .u64 s.b,.int .u64 s.c,.int .u64 s.d] 54)).alloc (.cells #[.int .u64 0,.int .u64 0,.int .u64 0,.int .u64 0] 54):=⟨_,rfl⟩
 have HS0:=Lib.hid (show Whole wo w.heap.size 54 #[.int .u64 s.a,.int .u64 s.b,.int .u64 s.c,.int .u64 s.d] by rw[hwo];exact(Whole.new w 54 #[.int .u64 s.a,.int .u64 s.b,.int .u64 s.c,.int .u64 s.d]).alloc _)
 have HR0:=Lib.hid (show Whole wo (w.heap.size+1) 54 #[.int .u64 0,.int .u64 0,.int .u64 0,.int .u64 0] by rw[hwo];exact whole_two w _ #[.int .u64 0,.int .u64 0,.int .u64 0,.int .u64 0] _)
 have HBO:=Lib.hid (show Below w.heap.size w wo by rw[hwo];exact((Below.refl _ w).alloc (Nat.le_refl _) _).alloc (by simp) _)
 go_enter Tryz.func124,Tryz.ntmps124
 go_upto_region 1 with(fail)
 rw[← hwo]
 clear hwo
 go_wp2_with (first | (go_at_call 206;go_must (refine(inside_lo _ n hn1).mono ?_;rintro e w' ⟨rfl,rfl⟩)) | (refine wpList_load_row rfl 54 _ rfl (w.heap.size) rfl 54 _ (0,0) _ (HS0.out) Tryz.underlying54 rfl size54 ?_) | (refine wpList_store_blk rfl 54 _ _ rfl (w.heap.size+1) 0 (.agg #[.int .u64 s.a,.int .u64 s.b,.int .u64 s.c,.int .u64 s.d]) rfl rfl 54 _ HR0.out (by simp[Value.cells]) size54 rfl ?_;intro w2 S2 W2;rw[splice_all _ _ (by rfl)] at W2;have HS2:=Lib.hid S2;have HW2:=Lib.hid (show Whole w2 (w.heap.size+1) 54 #[.int .u64 s.a,.int .u64 s.b,.int .u64 s.c,.int .u64 s.d] from W2);clear S2 W2))
 have e0:w2.cell? ⟨w.heap.size+1,0,none⟩=some (.int .u64 s.a):=HW2.out.cell 0
 have e1:w2.cell? ⟨w.heap.size+1,1,none⟩=some (.int .u64 s.b):=HW2.out.cell 1
 have e2:w2.cell? ⟨w.heap.size+1,2,none⟩=some (.int .u64 s.c):=HW2.out.cell 2
 have e3:w2.cell? ⟨w.heap.size+1,3,none⟩=some (.int .u64 s.d):=HW2.out.cell 3
 refine bodyPost_ret (v:=.agg #[.int .u64 s.a,.int .u64 s.b,.int .u64 s.c,.int .u64 s.d]) ?_ rfl ⟨rfl,HBO.out.trans (HS2.out.below (by omega))⟩
 simp[results,Tryz.results124,go_sem,e0,e1,e2,e3]
set_option maxRecDepth 100000 in
set_option maxHeartbeats 2000000 in
theorem with_out1 (w:World) (s:ASet) (n:Int) (hn:256≤n) :
 Calls Tryz.prog 124 #[.agg #[.int .u64 s.a,.int .u64 s.b,.int .u64 s.c,.int .u64 s.d],.int .i64 n] w fun e w'=>e=.returned (.agg #[.int .u64 s.a,.int .u64 s.b,.int .u64 s.c,.int .u64 s.d])∧Below w.heap.size w w':=by
 have hn0:0≤n:=by omega
 have hn1:¬ n<256:=by omega
 obtain⟨wo,hwo⟩:∃ wo,wo=(w.alloc (.cells #[.int .u64 s.a,.int .u64 s.b,.int .u64 s.c,.int .u64 s.d] 54)).alloc (.cells #[.int .u64 0,.int .u64 0,.int .u64 0,.int .u64 0] 54):=⟨_,rfl⟩
 have HS0:=Lib.hid (show Whole wo w.heap.size 54 #[.int .u64 s.a,.int .u64 s.b,.int .u64 s.c,.int .u64 s.d] by rw[hwo];exact(Whole.new w 54 #[.int .u64 s.a,.int .u64 s.b,.int .u64 s.c,.int .u64 s.d]).alloc _)
 have HR0:=Lib.hid (show Whole wo (w.heap.size+1) 54 #[.int .u64 0,.int .u64 0,.int .u64 0,.int .u64 0] by rw[hwo];exact whole_two w _ #[.int .u64 0,.int .u64 0,.int .u64 0,.int .u64 0] _)
 have HBO:=Lib.hid (show Below w.heap.size w wo by rw[hwo];exact((Below.refl _ w).alloc (Nat.le_refl _) _).alloc (by simp) _)
 go_enter Tryz.func124,Tryz.ntmps124
 go_upto_region 1 with(fail)
 rw[← hwo]
 clear hwo
 go_wp2_with (first | (go_at_call 206;go_must (refine(inside_hi _ n hn0 hn1).mono ?_;rintro e w' ⟨rfl,rfl⟩)) | (refine wpList_load_row rfl 54 _ rfl (w.heap.size) rfl 54 _ (0,0) _ (HS0.out) Tryz.underlying54 rfl size54 ?_) | (refine wpList_store_blk rfl 54 _ _ rfl (w.heap.size+1) 0 (.agg #[.int .u64 s.a,.int .u64 s.b,.int .u64 s.c,.int .u64 s.d]) rfl rfl 54 _ HR0.out (by simp[Value.cells]) size54 rfl ?_;intro w2 S2 W2;rw[splice_all _ _ (by rfl)] at W2;have HS2:=Lib.hid S2;have HW2:=Lib.hid (show Whole w2 (w.heap.size+1) 54 #[.int .u64 s.a,.int .u64 s.b,.int .u64 s.c,.int .u64 s.d] from W2);clear S2 W2))
 have e0:w2.cell? ⟨w.heap.size+1,0,none⟩=some (.int .u64 s.a):=HW2.out.cell 0
 have e1:w2.cell? ⟨w.heap.size+1,1,none⟩=some (.int .u64 s.b):=HW2.out.cell 1
 have e2:w2.cell? ⟨w.heap.size+1,2,none⟩=some (.int .u64 s.c):=HW2.out.cell 2
 have e3:w2.cell? ⟨w.heap.size+1,3,none⟩=some (.int .u64 s.d):=HW2.out.cell 3
 refine bodyPost_ret (v:=.agg #[.int .u64 s.a,.int .u64 s.b,.int .u64 s.c,.int .u64 s.d]) ?_ rfl ⟨rfl,HBO.out.trans (HS2.out.below (by omega))⟩
 simp[results,Tryz.results124,go_sem,e0,e1,e2,e3]
theorem with_any (w:World) (s:ASet) (hs:s.Ok) (n:Int) :
 Calls Tryz.prog 124 #[.agg #[.int .u64 s.a,.int .u64 s.b,.int .u64 s.c,.int .u64 s.d],.int .i64 n] w fun e w'=>e=.returned (.agg #[.int .u64 (s.with n).a,.int .u64 (s.with n).b,.int .u64 (s.with n).c,.int .u64 (s.with n).d])∧Below w.heap.size w w':=by
 unfold ASet.with
 by_cases h:0≤n∧n<256
 ·obtain⟨m,rfl⟩:∃ m:Nat,n=m:=⟨n.toNat,by omega⟩
  rw[if_pos h]
  exact with_in w s hs m (by omega)
 ·rw[if_neg h]
  by_cases h0:n<0
  ·exact with_out0 w s n h0
  ·exact with_out1 w s n (by omega)
set_option maxRecDepth 100000 in
set_option maxHeartbeats 4000000 in
theorem rwith_in (w:World) (s:ASet) (hs:s.Ok) (m:Nat) (hm:m<256) :
 Calls Tryz.prog 130 #[.agg #[.int .u64 s.a,.int .u64 s.b,.int .u64 s.c,.int .u64 s.d],.int .i64 m] w fun e w'=>e=.returned (.agg #[.int .u64 (s.add m).a,.int .u64 (s.add m).b,.int .u64 (s.add m).c,.int .u64 (s.add m).d])∧Below w.heap.size w w':=by
 obtain⟨wo,hwo⟩:∃ wo,wo=(w.alloc (.cells #[.int .u64 s.a,.int .u64 s.b,.int .u64 s.c,.int .u64 s.d] 54)).alloc (.cells #[.int .u64 0,.int .u64 0,.int .u64 0,.int .u64 0] 54):=⟨_,rfl⟩
 have HS0:=Lib.hid (show Whole wo w.heap.size 54 #[.int .u64 s.a,.int .u64 s.b,.int .u64 s.c,.int .u64 s.d] by rw[hwo];exact(Whole.new w 54 #[.int .u64 s.a,.int .u64 s.b,.int .u64 s.c,.int .u64 s.d]).alloc _)
 have HR0:=Lib.hid (show Whole wo (w.heap.size+1) 54 #[.int .u64 0,.int .u64 0,.int .u64 0,.int .u64 0] by rw[hwo];exact whole_two w _ #[.int .u64 0,.int .u64 0,.int .u64 0,.int .u64 0] _)
 have HBO:=Lib.hid (show Below w.heap.size w wo by rw[hwo];exact((Below.refl _ w).alloc (Nat.le_refl _) _).alloc (by simp) _)
 have k:wo.cell? ⟨w.heap.size,m/64,none⟩=some (.int .u64 (s.word (m/64))):=by
  have h:=HS0.out.cell (m/64)
  rwa [show(#[.int .u64 s.a,.int .u64 s.b,.int .u64 s.c,.int .u64 s.d]:Array Value)[m/64]?=some (.int .u64 (s.word (m/64))) by rw[← Array.getElem?_toList];exact s.cell_at (by omega)] at h
 obtain⟨x,hx⟩:∃ x,x=s.word (m/64):=⟨_,rfl⟩
 rw[← hx] at k
 have HX:=Lib.hid hx
 have HOX:=Lib.hid (or_two (x:=x) (j:=m%64) (by rw[hx];exact ASet.word_ok hs _) (Nat.mod_lt _ (by decide)))
 have HOY:=Lib.hid (bits_or_u64_nat x (2^(m%64)) (by rw[hx];exact ASet.word_ok hs _) (two_lt (Nat.mod_lt _ (by decide))))
 have htw:IntKind.u64.wrap (2^(m%64))=((2^(m%64):Nat):Int):=wrap_two (Nat.mod_lt _ (by decide))
 clear hx
 have h4:m/64<4:=by omega
 have hm':(m:Int)<256:=by omega
 go_enter Tryz.func130,Tryz.ntmps130
 go_upto_region 1 with(fail)
 rw[← hwo]
 clear hwo
 go_wp2_with (go_at_call 206;go_must (refine(inside_yes _ (m:Int) (by omega) (by omega)).mono ?_;rintro e w' ⟨rfl,rfl⟩))
 refine wp_region_last (fun w w'=>Below w.heap.size w w') [some 11,some 12,some 13,some 14,some 15,some 16,some 17,some 18,some 19,some 20] [isV (.int .i64 m),isV (.int .i64 ((m/64:Nat):Int)),isV (.int .i64 m),isV (.int .i64 ((m/64:Nat):Int)),isV (.pointer (some ⟨w.heap.size,m/64,none⟩)),isV (.int .u64 x),isV (.int .i64 m),isV (.int .u64 ((2^(m%64):Nat):Int)),isV (.int .u64 ((x|||2^(m%64):Nat):Int)),isV (.pointer (some ⟨w.heap.size,m/64,none⟩))] (fun _ w'=>Below wo.heap.size wo w') 10 (by kernel_rfl) (by kernel_rfl) (by kernel_rfl) rfl (by decide) rfl rfl ((Below.refl _ _).drew) ⟨lasts_is _,lasts_is _,lasts_is _,lasts_is _,lasts_is _,lasts_is _,lasts_is _,lasts_is _,lasts_is _,lasts_is _,trivial⟩ ⟨(fun _=>lastsR_is _),(fun _=>lastsR_is _),(fun _=>lastsR_is _),(fun _=>lastsR_is _),(fun _=>lastsR_is _),(fun _=>lastsR_is _),(fun _=>lastsR_is _),(fun _=>lastsR_is _),(fun _=>lastsR_is _),(fun _=>lastsR_is _),trivial⟩ ⟨?_,?_,?_,?_,?_,?_,?_,?_,?_,?_,?_⟩
 ·intro L a wx Q' hL hi H F hK
  try dsimp only at hi
  have h1:a.tmps[1]?=some (.int .i64 m):=F 1 rfl
  have HI:=Lib.hid hi
  clear H F hi hL
  go_wp2_with fail
  exact hK _ _ (Below.refl _ _) HI.out rfl
 ·intro L a wx Q' hL hi H F hK
  try dsimp only at hi
  obtain⟨_,h11,rfl⟩:=H 0 ⟨.data,by simp,rfl⟩ _ rfl
  replace h11:=h11 _ rfl
  have HI:=Lib.hid hi
  clear H F hi hL
  go_wp2_with fail
  exact hK _ _ (Below.refl _ _) HI.out rfl
 ·intro L a wx Q' hL hi H F hK
  try dsimp only at hi
  have h1:a.tmps[1]?=some (.int .i64 m):=F 1 rfl
  have HI:=Lib.hid hi
  clear H F hi hL
  go_wp2_with fail
  exact hK _ _ (Below.refl _ _) HI.out rfl
 ·intro L a wx Q' hL hi H F hK
  try dsimp only at hi
  obtain⟨_,h13,rfl⟩:=H 2 ⟨.data,by simp,rfl⟩ _ rfl
  replace h13:=h13 _ rfl
  have HI:=Lib.hid hi
  clear H F hi hL
  go_wp2_with fail
  exact hK _ _ (Below.refl _ _) HI.out rfl
 ·intro L a wx Q' hL hi H F hK
  try dsimp only at hi
  obtain⟨_,h14,rfl⟩:=H 3 ⟨.data,by simp,rfl⟩ _ rfl
  replace h14:=h14 _ rfl
  have h2:a.tmps[2]?=some (.pointer (some ⟨w.heap.size,0,none⟩)):=F 2 rfl
  have HI:=Lib.hid hi
  clear H F hi hL
  go_wp2_with fail
  exact hK _ _ (Below.refl _ _) HI.out rfl
 ·intro L a wx Q' hL hi H F hK
  try dsimp only at hi
  obtain⟨_,h15,rfl⟩:=H 4 ⟨.data,by simp,rfl⟩ _ rfl
  replace h15:=h15 _ rfl
  have HI:=Lib.hid hi
  clear H F hi hL
  have kk:wx.cell? ⟨w.heap.size,m/64,none⟩=some (.int .u64 x):=cell_later HI.out k
  go_wp2_with fail
  exact hK _ _ (Below.refl _ _) HI.out rfl
 ·intro L a wx Q' hL hi H F hK
  try dsimp only at hi
  have h1:a.tmps[1]?=some (.int .i64 m):=F 1 rfl
  have HI:=Lib.hid hi
  clear H F hi hL
  go_wp2_with fail
  exact hK _ _ (Below.refl _ _) HI.out rfl
 ·intro L a wx Q' hL hi H F hK
  try dsimp only at hi
  obtain⟨_,h17,rfl⟩:=H 6 ⟨.data,by simp,rfl⟩ _ rfl
  replace h17:=h17 _ rfl
  have HI:=Lib.hid hi
  clear H F hi hL
  go_wp2_with (go_at_call 64;go_must (refine(bit_any _ m hm).mono ?_;rintro e w1 ⟨rfl,rfl⟩))
  exact hK _ _ (Below.refl _ _) HI.out rfl
 ·intro L a wx Q' hL hi H F hK
  try dsimp only at hi
  obtain⟨_,h16,rfl⟩:=H 5 ⟨.data,by simp,rfl⟩ _ rfl
  replace h16:=h16 _ rfl
  obtain⟨_,h18,rfl⟩:=H 7 ⟨.data,by simp,rfl⟩ _ rfl
  replace h18:=h18 _ rfl
  have HI:=Lib.hid hi
  clear H F hi hL
  go_wp2_with fail
  exact hK _ _ (Below.refl _ _) HI.out (by first | exact congrArg (Value.int IntKind.u64) HOX.out.symm | exact congrArg (Value.int IntKind.u64) HOY.out.symm)
 ·intro L a wx Q' hL hi H F hK
  try dsimp only at hi
  obtain⟨_,h12,rfl⟩:=H 1 ⟨.data,by simp,rfl⟩ _ rfl
  replace h12:=h12 _ rfl
  have h2:a.tmps[2]?=some (.pointer (some ⟨w.heap.size,0,none⟩)):=F 2 rfl
  have HI:=Lib.hid hi
  clear H F hi hL
  go_wp2_with fail
  exact hK _ _ (Below.refl _ _) HI.out rfl
 ·intro a wx hl L hi hL Q' hK
  try dsimp only at hi
  have HB:=Lib.hid hi
  clear hi hL
  obtain⟨_,rfl,_,rfl,_,rfl,_,rfl,_,rfl,_,rfl,_,rfl,_,rfl,_,rfl,_,rfl,rfl⟩:=hl
  simp only[List.setIfInBounds_toArray,List.set_cons_zero,List.set_cons_succ]
  have HSX:=Lib.hid (Whole.under HB.out HS0.out HS0.out.lt)
  have HRX:=Lib.hid (Whole.under HB.out HR0.out HR0.out.lt)
  clear HS0 HR0 k
  obtain⟨t,ht⟩:∃ t,t=s.add m:=⟨_,rfl⟩
  have HT:=Lib.hid ht
  clear ht
  go_wp2_with (first | (refine wpList_store_blk rfl 52 _ _ rfl (w.heap.size) (m/64) (.int .u64 ((x|||2^(m%64):Nat):Int)) rfl rfl 54 _ HSX.out (by simp[Value.cells];omega) size52 rfl ?_;intro w1 S1 W1;have HS1:=Lib.hid S1;have HW1:=Lib.hid (show Whole w1 w.heap.size 54 #[.int .u64 t.a,.int .u64 t.b,.int .u64 t.c,.int .u64 t.d] by rw[HT.out];unfold ASet.add;rw[← HX.out];rw[show #[.int .u64 (s.put (m/64) (x|||2^(m%64))).a,.int .u64 (s.put (m/64) (x|||2^(m%64))).b,.int .u64 (s.put (m/64) (x|||2^(m%64))).c,.int .u64 (s.put (m/64) (x|||2^(m%64))).d]=splice #[.int .u64 s.a,.int .u64 s.b,.int .u64 s.c,.int .u64 s.d] (m/64) [.int .u64 ((x|||2^(m%64):Nat):Int)] from splice_set s (by omega) _];exact W1);clear S1 W1) | (refine wpList_load_row rfl 54 _ rfl (w.heap.size) rfl 54 _ (0,0) _ HW1.out Tryz.underlying54 rfl size54 ?_) | (refine wpList_store_blk rfl 54 _ _ rfl (w.heap.size+1) 0 (.agg #[.int .u64 t.a,.int .u64 t.b,.int .u64 t.c,.int .u64 t.d]) rfl rfl 54 _ (HS1.out.whole HRX.out (by omega)) (by simp[Value.cells]) size54 rfl ?_;intro w2 S2 W2;rw[splice_all _ _ (by rfl)] at W2;have HS2:=Lib.hid S2;have HW2:=Lib.hid (show Whole w2 (w.heap.size+1) 54 #[.int .u64 t.a,.int .u64 t.b,.int .u64 t.c,.int .u64 t.d] from W2);clear S2 W2))
  have e0:w2.cell? ⟨w.heap.size+1,0,none⟩=some (.int .u64 t.a):=HW2.out.cell 0
  have e1:w2.cell? ⟨w.heap.size+1,1,none⟩=some (.int .u64 t.b):=HW2.out.cell 1
  have e2:w2.cell? ⟨w.heap.size+1,2,none⟩=some (.int .u64 t.c):=HW2.out.cell 2
  have e3:w2.cell? ⟨w.heap.size+1,3,none⟩=some (.int .u64 t.d):=HW2.out.cell 3
  refine bodyPost_ret (v:=.agg #[.int .u64 t.a,.int .u64 t.b,.int .u64 t.c,.int .u64 t.d]) ?_ rfl ⟨by rw[HT.out],((HBO.out.trans (HB.out.mono HBO.out.size)).trans (HS1.out.below (Nat.le_refl _))).trans (HS2.out.below (by omega))⟩
  simp[results,Tryz.results130,go_sem,e0,e1,e2,e3]
set_option maxRecDepth 100000 in
set_option maxHeartbeats 2000000 in
theorem rwith_out0 (w:World) (s:ASet) (n:Int) (hn:n<0) :
 Calls Tryz.prog 130 #[.agg #[.int .u64 s.a,.int .u64 s.b,.int .u64 s.c,.int .u64 s.d],.int .i64 n] w fun e w'=>e=.returned (.agg #[.int .u64 s.a,.int .u64 s.b,.int .u64 s.c,.int .u64 s.d])∧Below w.heap.size w w':=by
 have hn1:¬ 0≤n:=by omega
 obtain⟨wo,hwo⟩:∃ wo,wo=(w.alloc (.cells #[.int .u64 s.a,.int .u64 s.b,.int .u64 s.c,.int .u64 s.d] 54)).alloc (.cells #[.int .u64 0,.int .u64 0,.int .u64 0,.int .u64 0] 54):=⟨_,rfl⟩
 have HS0:=Lib.hid (show Whole wo w.heap.size 54 #[.int .u64 s.a,.int .u64 s.b,.int .u64 s.c,.int .u64 s.d] by rw[hwo];exact(Whole.new w 54 #[.int .u64 s.a,.int .u64 s.b,.int .u64 s.c,.int .u64 s.d]).alloc _)
 have HR0:=Lib.hid (show Whole wo (w.heap.size+1) 54 #[.int .u64 0,.int .u64 0,.int .u64 0,.int .u64 0] by rw[hwo];exact whole_two w _ #[.int .u64 0,.int .u64 0,.int .u64 0,.int .u64 0] _)
 have HBO:=Lib.hid (show Below w.heap.size w wo by rw[hwo];exact((Below.refl _ w).alloc (Nat.le_refl _) _).alloc (by simp) _)
 go_enter Tryz.func130,Tryz.ntmps130
 go_upto_region 1 with(fail)
 rw[← hwo]
 clear hwo
 go_wp2_with (first | (go_at_call 206;go_must (refine(inside_lo _ n hn1).mono ?_;rintro e w' ⟨rfl,rfl⟩)) | (refine wpList_load_row rfl 54 _ rfl (w.heap.size) rfl 54 _ (0,0) _ (HS0.out) Tryz.underlying54 rfl size54 ?_) | (refine wpList_store_blk rfl 54 _ _ rfl (w.heap.size+1) 0 (.agg #[.int .u64 s.a,.int .u64 s.b,.int .u64 s.c,.int .u64 s.d]) rfl rfl 54 _ HR0.out (by simp[Value.cells]) size54 rfl ?_;intro w2 S2 W2;rw[splice_all _ _ (by rfl)] at W2;have HS2:=Lib.hid S2;have HW2:=Lib.hid (show Whole w2 (w.heap.size+1) 54 #[.int .u64 s.a,.int .u64 s.b,.int .u64 s.c,.int .u64 s.d] from W2);clear S2 W2))
 have e0:w2.cell? ⟨w.heap.size+1,0,none⟩=some (.int .u64 s.a):=HW2.out.cell 0
 have e1:w2.cell? ⟨w.heap.size+1,1,none⟩=some (.int .u64 s.b):=HW2.out.cell 1
 have e2:w2.cell? ⟨w.heap.size+1,2,none⟩=some (.int .u64 s.c):=HW2.out.cell 2
 have e3:w2.cell? ⟨w.heap.size+1,3,none⟩=some (.int .u64 s.d):=HW2.out.cell 3
 refine bodyPost_ret (v:=.agg #[.int .u64 s.a,.int .u64 s.b,.int .u64 s.c,.int .u64 s.d]) ?_ rfl ⟨rfl,HBO.out.trans (HS2.out.below (by omega))⟩
 simp[results,Tryz.results130,go_sem,e0,e1,e2,e3]
set_option maxRecDepth 100000 in
set_option maxHeartbeats 2000000 in
theorem rwith_out1 (w:World) (s:ASet) (n:Int) (hn:256≤n) :
 Calls Tryz.prog 130 #[.agg #[.int .u64 s.a,.int .u64 s.b,.int .u64 s.c,.int .u64 s.d],.int .i64 n] w fun e w'=>e=.returned (.agg #[.int .u64 s.a,.int .u64 s.b,.int .u64 s.c,.int .u64 s.d])∧Below w.heap.size w w':=by
 have hn0:0≤n:=by omega
 have hn1:¬ n<256:=by omega
 obtain⟨wo,hwo⟩:∃ wo,wo=(w.alloc (.cells #[.int .u64 s.a,.int .u64 s.b,.int .u64 s.c,.int .u64 s.d] 54)).alloc (.cells #[.int .u64 0,.int .u64 0,.int .u64 0,.int .u64 0] 54):=⟨_,rfl⟩
 have HS0:=Lib.hid (show Whole wo w.heap.size 54 #[.int .u64 s.a,.int .u64 s.b,.int .u64 s.c,.int .u64 s.d] by rw[hwo];exact(Whole.new w 54 #[.int .u64 s.a,.int .u64 s.b,.int .u64 s.c,.int .u64 s.d]).alloc _)
 have HR0:=Lib.hid (show Whole wo (w.heap.size+1) 54 #[.int .u64 0,.int .u64 0,.int .u64 0,.int .u64 0] by rw[hwo];exact whole_two w _ #[.int .u64 0,.int .u64 0,.int .u64 0,.int .u64 0] _)
 have HBO:=Lib.hid (show Below w.heap.size w wo by rw[hwo];exact((Below.refl _ w).alloc (Nat.le_refl _) _).alloc (by simp) _)
 go_enter Tryz.func130,Tryz.ntmps130
 go_upto_region 1 with(fail)
 rw[← hwo]
 clear hwo
 go_wp2_with (first | (go_at_call 206;go_must (refine(inside_hi _ n hn0 hn1).mono ?_;rintro e w' ⟨rfl,rfl⟩)) | (refine wpList_load_row rfl 54 _ rfl (w.heap.size) rfl 54 _ (0,0) _ (HS0.out) Tryz.underlying54 rfl size54 ?_) | (refine wpList_store_blk rfl 54 _ _ rfl (w.heap.size+1) 0 (.agg #[.int .u64 s.a,.int .u64 s.b,.int .u64 s.c,.int .u64 s.d]) rfl rfl 54 _ HR0.out (by simp[Value.cells]) size54 rfl ?_;intro w2 S2 W2;rw[splice_all _ _ (by rfl)] at W2;have HS2:=Lib.hid S2;have HW2:=Lib.hid (show Whole w2 (w.heap.size+1) 54 #[.int .u64 s.a,.int .u64 s.b,.int .u64 s.c,.int .u64 s.d] from W2);clear S2 W2))
 have e0:w2.cell? ⟨w.heap.size+1,0,none⟩=some (.int .u64 s.a):=HW2.out.cell 0
 have e1:w2.cell? ⟨w.heap.size+1,1,none⟩=some (.int .u64 s.b):=HW2.out.cell 1
 have e2:w2.cell? ⟨w.heap.size+1,2,none⟩=some (.int .u64 s.c):=HW2.out.cell 2
 have e3:w2.cell? ⟨w.heap.size+1,3,none⟩=some (.int .u64 s.d):=HW2.out.cell 3
 refine bodyPost_ret (v:=.agg #[.int .u64 s.a,.int .u64 s.b,.int .u64 s.c,.int .u64 s.d]) ?_ rfl ⟨rfl,HBO.out.trans (HS2.out.below (by omega))⟩
 simp[results,Tryz.results130,go_sem,e0,e1,e2,e3]
theorem rwith_any (w:World) (s:ASet) (hs:s.Ok) (n:Int) :
 Calls Tryz.prog 130 #[.agg #[.int .u64 s.a,.int .u64 s.b,.int .u64 s.c,.int .u64 s.d],.int .i64 n] w fun e w'=>e=.returned (.agg #[.int .u64 (s.with n).a,.int .u64 (s.with n).b,.int .u64 (s.with n).c,.int .u64 (s.with n).d])∧Below w.heap.size w w':=by
 unfold ASet.with
 by_cases h:0≤n∧n<256
 ·obtain⟨m,rfl⟩:∃ m:Nat,n=m:=⟨n.toNat,by omega⟩
  rw[if_pos h]
  exact rwith_in w s hs m (by omega)
 ·rw[if_neg h]
  by_cases h0:n<0
  ·exact rwith_out0 w s n h0
  ·exact rwith_out1 w s n (by omega)
end Go.Proofs.YtdcofoaihmongaaGreat
namespace Go.Proofs.YtdcofoaihmongaaGreat
open Go Go.RowKit
def ints (l:List Nat):List Value:=l.map fun n:Nat=>.int .i64 (n:Int)
theorem ints_app (a b:List Nat):ints (a++b)=ints a++ints b:=List.map_append
theorem ints_len (a:List Nat):(ints a).length=a.length:=by simp[ints]
def elemsTo (s:ASet) (k:Nat):List Nat:=(List.range k).filter s.has
def elems (s:ASet):List Nat:=elemsTo s 256
theorem elemsTo_len (s:ASet) (k:Nat):(elemsTo s k).length≤k:=by
 have:=List.length_filter_le s.has (List.range k)
 simpa[elemsTo] using this
theorem elemsTo_yes {s:ASet} {k:Nat} (h:s.has k=true):elemsTo s (k+1)=elemsTo s k++[k]:=by
 simp[elemsTo,List.range_succ,List.filter_append,h]
theorem elemsTo_no {s:ASet} {k:Nat} (h:s.has k=false):elemsTo s (k+1)=elemsTo s k:=by
 simp[elemsTo,List.range_succ,List.filter_append,h]
theorem ASet.mem_nat (s:ASet) {k:Nat} (h:k<256):s.mem (k:Int)=s.has k:=by
 unfold ASet.mem
 simp
 omega
theorem row_form {w:World} {base:Nat} {e:TypeId} {k n:Nat} {v:Value} {xs:List Value} (h:w.ownsRow base e k v n xs):∃ a c,v=.slice a n c:=by
 rcases h.2 with⟨rfl,h0⟩ | ⟨g,cap,cur,rfl,_⟩
 ·exact⟨none,0,by simp_all⟩
 ·exact⟨_,_,rfl⟩
theorem info3:infoB (Tryz.prog.info? 3) 1 8=true:=by kernel_rfl
theorem cell_one_new (w:World) (v:Value) (t:TypeId):∀ j u,([v]:List Value)[j]?=some u→(w.alloc (.cells #[v] t)).cell? ((⟨w.heap.size,0,none⟩:Addr).add j)=some u:=fun j u hj=>by
 rw[Addr.add_lit,Nat.zero_add]
 exact((Whole.new w t #[v]).cell j).trans (by simpa using hj)
set_option maxHeartbeats 4000000 in
theorem list_any (w:World) (s:ASet) (hs:s.Ok) :
 Calls Tryz.prog 123 #[.agg #[.int .u64 s.a,.int .u64 s.b,.int .u64 s.c,.int .u64 s.d]] w fun e w'=>∃ v,e=.returned v∧w'.ownsRow w.heap.size 3 1 v (elems s).length (ints (elems s))∧Below w.heap.size w w':=by
 obtain⟨i0,z,hi,hz0,hz1,hz2,hzs⟩:=infoOf info3
 have HS:=Lib.hid hs
 clear hs
 have HW0:=Lib.hid (Whole.new w 54 #[.int .u64 s.a,.int .u64 s.b,.int .u64 s.c,.int .u64 s.d])
 go_enter Tryz.func123,Tryz.ntmps123
 go_wp2_with fail
 go_loopw [3,5] (fun u i wr=>∃ k:Nat,k≤256∧i=.int .i64 k∧wr.ownsRow w.heap.size 3 1 u (elemsTo s k).length (ints (elemsTo s k))∧Below w.heap.size w wr∧Whole wr w.heap.size 54 #[.int .u64 s.a,.int .u64 s.b,.int .u64 s.c,.int .u64 s.d]) (fun _ i _=>256-(intOf i).toNat)
 case atStart=>exact⟨0,Nat.zero_le _,rfl,by simpa[elemsTo,ints] using World.ownsRow_nil _ _ _ _,(Below.refl _ w).alloc (Nat.le_refl _) _,HW0.out⟩
 case round =>
  clear HW0
  obtain⟨k,hk,rfl,hown,hb,hW⟩:=hrel
  have HO:=Lib.hid hown
  have HB:=Lib.hid hb
  have HWr:=Lib.hid hW
  clear hown hb hW
  have hlen:=elemsTo_len s k
  by_cases hlt:k<256
  ·have hkk:(k:Int)<256:=by omega
   have hload:True:=trivial
   by_cases hh:s.has k=true
   ·have HH:=Lib.hid hh
    clear hh
    go_wp2_with (first | (refine wpList_load_row rfl 54 _ rfl (w.heap.size) rfl 54 _ (0,0) _ HWr.out Tryz.underlying54 rfl size54 ?_) | (go_at_call 191;go_must (refine(show Calls Tryz.prog 191 _ _ (fun e w'=>e=.returned (.bool true)∧Below wr.heap.size wr w') from by have h:=has_any wr s HS.out (k:Int);rw[ASet.mem_nat s hlt,HH.out] at h;exact h).mono ?_;rintro e w1 ⟨rfl,hb1⟩;have HB1:=Lib.hid hb1;clear hb1)) | (at_builtin;refine wpList_append_own _ rfl _ _ 64 rfl w.heap.size 3 i0 z 1 8 Tryz.underlying64 hi hz0 hz1 hz2 hzs (by decide) _ _ _ rfl ((own_keep HB1.out HO.out (Nat.le_refl _)).alloc _) ⟨w1.heap.size,0,none⟩ 1 1 [.int .i64 (k:Int)] rfl rfl (cell_one_new _ _ _) ?c2 ?c3 ?c4 ?c5 ?_))
    case c2=>simp[Value.oneCell']
    case c3=>unfold maxLen;omega
    case c4=>omega
    case c5=>have:=HB.out.size;have:=HB1.out.size;simp;omega
    intro v' w2 hown' hgrow hnil
    have HO1:=Lib.hid (own_keep HB1.out HO.out (Nat.le_refl _))
    have hb2:Below w.heap.size w w2:=((HB.out.trans (HB1.out.mono HB.out.size)).alloc (by have:=HB.out.size;have:=HB1.out.size;omega) _).grown hgrow (by have:=HB.out.size;have:=HB1.out.size;simp;omega) (fun q hq=>by have:=(HO1.out.lt q hq).1;omega)
    have HWn:=Lib.hid (((Whole.under HB1.out HWr.out HWr.out.lt).alloc (.cells #[.int .i64 (k:Int)] 3)).grown hgrow (fun e=>own_blk_far HO1.out (Whole.under HB1.out HWr.out HWr.out.lt) (by decide) e.symm))
    have HN:=Lib.hid hown'
    have HB2:=Lib.hid hb2
    clear hgrow hnil hown' hb2
    go_wp2
    go_roundw
    case rel=>exact⟨k+1,by omega,by go_num,by rw[elemsTo_yes HH.out,List.length_append,ints_app];exact HN.out,HB2.out,HWn.out⟩
    case measure=>simp[intOf];omega
   ·have HH:=Lib.hid (Bool.eq_false_iff.2 hh)
    clear hh
    go_wp2_with (first | (refine wpList_load_row rfl 54 _ rfl (w.heap.size) rfl 54 _ (0,0) _ HWr.out Tryz.underlying54 rfl size54 ?_) | (go_at_call 191;go_must (refine(show Calls Tryz.prog 191 _ _ (fun e w'=>e=.returned (.bool false)∧Below wr.heap.size wr w') from by have h:=has_any wr s HS.out (k:Int);rw[ASet.mem_nat s hlt,HH.out] at h;exact h).mono ?_;rintro e w1 ⟨rfl,hb1⟩;have HB1:=Lib.hid hb1;clear hb1)))
    go_roundw
    case rel=>exact⟨k+1,by omega,by go_num,by rw[elemsTo_no HH.out];exact own_keep HB1.out HO.out (Nat.le_refl _),HB.out.trans (HB1.out.mono HB.out.size),Whole.under HB1.out HWr.out HWr.out.lt⟩
    case measure=>simp[intOf];omega
  ·obtain rfl:k=256:=by omega
   go_wp2_with fail
   go_ret
   exact⟨_,rfl,HO.out,HB.out⟩
end Go.Proofs.YtdcofoaihmongaaGreat
namespace Go.Proofs.YtdcofoaihmongaaGreat
open Go Go.RowKit
structure ARule where
 kind:Int
 src:ASet
 tgt:ASet
 self:Bool
 cls:Int
 perms:Int
 cond:Int
structure ARule.Ok (r:ARule):Prop where
 src:r.src.Ok
 tgt:r.tgt.Ok
def ARule.cells (r:ARule):List Value:=[.int .i64 r.kind,.int .u64 r.src.a,.int .u64 r.src.b,.int .u64 r.src.c,.int .u64 r.src.d,.int .u64 r.tgt.a,.int .u64 r.tgt.b,.int .u64 r.tgt.c,.int .u64 r.tgt.d,.bool r.self,.int .i64 r.cls,.int .u32 r.perms,.int .i64 r.cond]
def ARule.tgts (r:ARule) (s:Nat):ASet:=if r.self then r.tgt.with s else r.tgt
def ARule.pairsTo (r:ARule) (l:List Nat):List (Nat×Nat):=l.flatMap fun s=>(elems (r.tgts s)).map fun t=>(s,t)
def ARule.pairs (r:ARule):List (Nat×Nat):=r.pairsTo (elems r.src)
def pcell (p:Nat×Nat):List Value:=[.int .i64 (p.1:Int),.int .i64 (p.2:Int)]
def pcells (l:List (Nat×Nat)):List Value:=l.flatMap pcell
theorem pcells_app (a b:List (Nat×Nat)):pcells (a++b)=pcells a++pcells b:=List.flatMap_append
theorem pcells_one (a:List (Nat×Nat)):∀ u∈pcells a,u.oneCell'=true:=by
 intro u hu
 obtain⟨p,-,hp⟩:=List.mem_flatMap.1 hu
 simp[pcell] at hp
 rcases hp with rfl | rfl<;>rfl
theorem ints_one (a:List Nat):∀ u∈ints a,u.oneCell'=true:=by
 intro u hu
 obtain⟨p,-,rfl⟩:=List.mem_map.1 hu
 rfl
theorem own_apart {w:World} {b b':Nat} {e e':TypeId} {k k' n n':Nat} {v v':Value} {xs xs':List Value} (h:w.ownsRow b e k v n xs) (h':w.ownsRow b' e' k' v' n' xs') (hne:e≠e'):v.ownBlock=none∨v.ownBlock≠v'.ownBlock:=by
 rcases h.2 with⟨rfl,_⟩ | ⟨g,cap,cur,rfl,_,hg,_⟩
 ·exact .inl rfl
 ·refine .inr fun e1=>own_blk_far h' (g:=g) (t:=e) (cs:=cur) hg (fun e2=>hne e2.symm) ?_
  rw[← e1];rfl
theorem own_grown {w w':World} {b b':Nat} {e e':TypeId} {k k' n n':Nat} {v v':Value} {xs xs':List Value} (h:w.ownsRow b e k v n xs) (h':w.ownsRow b' e' k' v' n' xs') (hne:e≠e') (hg:w.grownBy w' v'.ownBlock):w'.ownsRow b e k v n xs :=
 h.kept hg (own_apart h h' hne)
theorem own_alloc {w:World} {b:Nat} {e:TypeId} {k n:Nat} {v:Value} {xs:List Value} (h:w.ownsRow b e k v n xs) (o:Obj):(w.alloc o).ownsRow b e k v n xs:=own_keep ((Below.refl _ w).alloc (Nat.le_refl _) o) h (Nat.le_refl _)
theorem own_drop {w:World} {b b':Nat} {e:TypeId} {k n:Nat} {v:Value} {xs:List Value} (h:w.ownsRow b e k v n xs) (hb:b'≤b):w.ownsRow b' e k v n xs:=own_low h hb
theorem int_cell {w:World} {base n c:Nat} {a:Option Addr} {l:List Nat} (h:w.ownsRow base 3 1 (.slice a n c) n (ints l)) {k y:Nat} (hk:l[k]?=some y):∃ g,a=some ⟨g,0,none⟩∧w.cell? ⟨g,k,none⟩=some (.int .i64 (y:Int)):=by
 have hl:=h.1
 rw[ints_len] at hl
 have hk0:k<l.length:=(List.getElem?_eq_some_iff.1 hk).1
 rcases h.2 with⟨h1,h2⟩ | ⟨g,cap,cur,h1,_,hg,_,_,_,h3⟩
 ·omega
 ·injection h1 with e1 e2 e3
  refine⟨g,e1,(Whole.cell (show Whole w g 3 cur from hg) k).trans ?_⟩
  rw[← Array.getElem?_toList,← List.getElem?_take_of_lt (show k<n*1 by omega),h3]
  simp[ints,hk]
theorem row_cap {w:World} {base n c k:Nat} {e:TypeId} {a:Option Addr} {xs:List Value} (h:w.ownsRow base e k (.slice a n c) n xs):n≤c:=by
 rcases h.2 with⟨h1,h2⟩ | ⟨g,cap,cur,h1,_,_,h4,_⟩
 ·omega
 ·injection h1 with e1 e2 e3
  omega
theorem info111:infoB (Tryz.prog.info? 111) 2 16=true:=by kernel_rfl
theorem pair_new (w:World) (u v:Value) (t:TypeId):∀ j x,([u,v]:List Value)[j]?=some x→(w.alloc (.cells #[u,v] t)).cell? ((⟨w.heap.size,0,none⟩:Addr).add j)=some x:=fun j x hj=>by
 rw[Addr.add_lit,Nat.zero_add]
 exact((Whole.new w t #[u,v]).cell j).trans (by simpa using hj)
def InR (w:World) (r:ARule) (a1:Option Addr) (c1 n1:Nat) (a2:Option Addr) (c2 n2:Nat) (l2:List Nat) (P:List (Nat×Nat)) (u:Value) (wr:World):Prop :=
 wr.ownsRow w.heap.size 111 2 u P.length (pcells P)∧wr.ownsRow w.heap.size 3 1 (.slice a1 n1 c1) n1 (ints (elems r.src))∧wr.ownsRow w.heap.size 3 1 (.slice a2 n2 c2) n2 (ints l2)∧Below w.heap.size w wr∧Whole wr w.heap.size 56 #[.int .i64 r.kind,.int .u64 r.src.a,.int .u64 r.src.b,.int .u64 r.src.c,.int .u64 r.src.d,.int .u64 r.tgt.a,.int .u64 r.tgt.b,.int .u64 r.tgt.c,.int .u64 r.tgt.d,.bool r.self,.int .i64 r.cls,.int .u32 r.perms,.int .i64 r.cond]
def OutR (w:World) (r:ARule) (a1:Option Addr) (c1 n1:Nat) (P:List (Nat×Nat)) (u:Value) (wr:World):Prop :=
 wr.ownsRow w.heap.size 111 2 u P.length (pcells P)∧wr.ownsRow w.heap.size 3 1 (.slice a1 n1 c1) n1 (ints (elems r.src))∧Below w.heap.size w wr∧Whole wr w.heap.size 56 #[.int .i64 r.kind,.int .u64 r.src.a,.int .u64 r.src.b,.int .u64 r.src.c,.int .u64 r.src.d,.int .u64 r.tgt.a,.int .u64 r.tgt.b,.int .u64 r.tgt.c,.int .u64 r.tgt.d,.bool r.self,.int .i64 r.cls,.int .u32 r.perms,.int .i64 r.cond]
theorem OutR.keep {w wr w':World} {r:ARule} {a1:Option Addr} {c1 n1:Nat} {P:List (Nat×Nat)} {u:Value} (h:OutR w r a1 c1 n1 P u wr) (hb:Below wr.heap.size wr w'):OutR w r a1 c1 n1 P u w' :=
 ⟨own_keep hb h.1 (Nat.le_refl _),own_keep hb h.2.1 (Nat.le_refl _),h.2.2.1.trans (hb.mono h.2.2.1.size),Whole.under hb h.2.2.2 h.2.2.2.lt⟩
theorem pairs_small (r:ARule) (l:List Nat):(r.pairsTo l).length≤l.length*256:=by
 induction l with
 | nil=>simp[ARule.pairsTo]
 | cons s l ih =>
  have h1:=elemsTo_len (r.tgts s) 256
  have e:(r.pairsTo (s::l)).length=(elems (r.tgts s)).length+(r.pairsTo l).length:=by simp[ARule.pairsTo]
  rw[e,List.length_cons,Nat.add_mul]
  unfold elems
  omega
theorem pairsTo_snoc (r:ARule) (l:List Nat) (s:Nat):r.pairsTo (l++[s])=r.pairsTo l++(elems (r.tgts s)).map fun t=>(s,t):=by simp[ARule.pairsTo]
theorem InR.more {w wr w2:World} {r:ARule} {a1 a2:Option Addr} {c1 n1 c2 n2:Nat} {l2:List Nat} {P:List (Nat×Nat)} {u v':Value} {s y:Nat} (h:InR w r a1 c1 n1 a2 c2 n2 l2 P u wr)
 (hown:w2.ownsRow w.heap.size 111 2 v' (P.length+1) (pcells P++pcell (s,y))) (hg:(wr.alloc (.cells #[.int .i64 (s:Int),.int .i64 (y:Int)] 111)).grownBy w2 u.ownBlock):InR w r a1 c1 n1 a2 c2 n2 l2 (P++[(s,y)]) v' w2:=by
 obtain⟨h1,h2,h3,h4,h5⟩:=h
 have ho:=own_alloc h1 (.cells #[.int .i64 (s:Int),.int .i64 (y:Int)] 111)
 refine⟨?_,own_grown (own_alloc h2 _) ho (by decide) hg,own_grown (own_alloc h3 _) ho (by decide) hg,(h4.alloc h4.size _).grown hg (by have:=h4.size;simp;omega) (fun q hq=>by have:=(h1.lt q hq).1;omega),(h5.alloc _).grown hg (fun e=>own_blk_far h1 h5 (by decide) e.symm)⟩
 rw[List.length_append,pcells_app]
 exact hown
set_option maxRecDepth 100000 in
set_option maxHeartbeats 8000000 in
theorem rule_any (w:World) (r:ARule) (hr:r.Ok) :
 Calls Tryz.prog 59 #[.agg #[.int .i64 r.kind,.int .u64 r.src.a,.int .u64 r.src.b,.int .u64 r.src.c,.int .u64 r.src.d,.int .u64 r.tgt.a,.int .u64 r.tgt.b,.int .u64 r.tgt.c,.int .u64 r.tgt.d,.bool r.self,.int .i64 r.cls,.int .u32 r.perms,.int .i64 r.cond]] w fun e w'=>∃ v,e=.returned v∧w'.ownsRow w.heap.size 111 2 v r.pairs.length (pcells r.pairs)∧Below w.heap.size w w':=by
 obtain⟨i0,z,hi,hz0,hz1,hz2,hzs⟩:=infoOf info111
 have HR:=Lib.hid hr
 clear hr
 have HW0:=Lib.hid (Whole.new w 56 #[.int .i64 r.kind,.int .u64 r.src.a,.int .u64 r.src.b,.int .u64 r.src.c,.int .u64 r.src.d,.int .u64 r.tgt.a,.int .u64 r.tgt.b,.int .u64 r.tgt.c,.int .u64 r.tgt.d,.bool r.self,.int .i64 r.cls,.int .u32 r.perms,.int .i64 r.cond])
 have k1:(w.alloc (.cells #[.int .i64 r.kind,.int .u64 r.src.a,.int .u64 r.src.b,.int .u64 r.src.c,.int .u64 r.src.d,.int .u64 r.tgt.a,.int .u64 r.tgt.b,.int .u64 r.tgt.c,.int .u64 r.tgt.d,.bool r.self,.int .i64 r.cls,.int .u32 r.perms,.int .i64 r.cond] 56)).cell? ⟨w.heap.size,1,none⟩=some (.int .u64 r.src.a):=HW0.out.cell 1
 have k2:(w.alloc (.cells #[.int .i64 r.kind,.int .u64 r.src.a,.int .u64 r.src.b,.int .u64 r.src.c,.int .u64 r.src.d,.int .u64 r.tgt.a,.int .u64 r.tgt.b,.int .u64 r.tgt.c,.int .u64 r.tgt.d,.bool r.self,.int .i64 r.cls,.int .u32 r.perms,.int .i64 r.cond] 56)).cell? ⟨w.heap.size,2,none⟩=some (.int .u64 r.src.b):=HW0.out.cell 2
 have k3:(w.alloc (.cells #[.int .i64 r.kind,.int .u64 r.src.a,.int .u64 r.src.b,.int .u64 r.src.c,.int .u64 r.src.d,.int .u64 r.tgt.a,.int .u64 r.tgt.b,.int .u64 r.tgt.c,.int .u64 r.tgt.d,.bool r.self,.int .i64 r.cls,.int .u32 r.perms,.int .i64 r.cond] 56)).cell? ⟨w.heap.size,3,none⟩=some (.int .u64 r.src.c):=HW0.out.cell 3
 have k4:(w.alloc (.cells #[.int .i64 r.kind,.int .u64 r.src.a,.int .u64 r.src.b,.int .u64 r.src.c,.int .u64 r.src.d,.int .u64 r.tgt.a,.int .u64 r.tgt.b,.int .u64 r.tgt.c,.int .u64 r.tgt.d,.bool r.self,.int .i64 r.cls,.int .u32 r.perms,.int .i64 r.cond] 56)).cell? ⟨w.heap.size,4,none⟩=some (.int .u64 r.src.d):=HW0.out.cell 4
 go_enter Tryz.func59,Tryz.ntmps59
 go_wp2_with (go_at_call 123;go_must (refine(list_any _ r.src HR.out.src).mono ?_;rintro e w1 ⟨v1,rfl,hl1,hb1⟩;have HL0:=Lib.hid hl1;have HB0:=Lib.hid hb1;obtain⟨a1,c1,hv1⟩:=row_form hl1;subst hv1;clear hl1 hb1))
 clear k1 k2 k3 k4
 obtain⟨n1,hn1⟩:∃ n,n=(elems r.src).length:=⟨_,rfl⟩
 have HN1:=Lib.hid hn1
 have HL1:Hid (w1.ownsRow w.heap.size 3 1 (.slice a1 n1 c1) n1 (ints (elems r.src))):=by
  have h:=HL0.out
  rw[← hn1] at h
  exact own_drop h (by simp)
 clear HL0
 rw[← hn1]
 have HO1:=Lib.hid (show OutR w r a1 c1 n1 [] (.slice none 0 0) w1 from⟨World.ownsRow_nil _ _ _ _,HL1.out,((Below.refl _ w).alloc (Nat.le_refl _) _).trans (HB0.out.mono (by simp)),Whole.under HB0.out HW0.out (by simp)⟩)
 have hn1b:n1≤256:=by rw[hn1];exact elemsTo_len _ _
 have hc1:=row_cap HL1.out
 clear hn1 HL1 HB0 HW0
 go_loopw [3,13] (fun u i wr=>∃ k:Nat,k≤n1∧i=.int .i64 k∧OutR w r a1 c1 n1 (r.pairsTo ((elems r.src).take k)) u wr) (fun _ i _=>n1-(intOf i).toNat)
 case atStart=>exact⟨0,Nat.zero_le _,rfl,HO1.out⟩
 case round =>
  clear HO1
  obtain⟨k,hk,rfl,hO⟩:=hrel
  have HO:=Lib.hid hO
  clear hO
  by_cases hlt:k<n1
  ·obtain⟨s,hs⟩:∃ s,(elems r.src)[k]?=some s:=⟨_,List.getElem?_eq_getElem (by have:=HN1.out;omega)⟩
   obtain⟨g1,rfl,hcell⟩:=int_cell HO.out.2.1 hs
   have HS:=Lib.hid hs
   have hs256:s<256:=by
    have:=List.mem_of_getElem? hs
    simp[elems,elemsTo] at this
    exact this.1
   clear hs
   have hP:=pairs_small r ((elems r.src).take k)
   have hP2:=List.length_take_le k (elems r.src)
   obtain⟨P,hPe⟩:∃ P,P=r.pairsTo ((elems r.src).take k):=⟨_,rfl⟩
   rw[← hPe] at HO hP
   have HPE:=Lib.hid hPe
   have hPl:P.length≤65536:=Nat.le_trans hP (by omega)
   clear hPe hP hP2
   have k5:wr.cell? ⟨w.heap.size,5,none⟩=some (.int .u64 r.tgt.a):=(show Hid (Whole wr w.heap.size 56 #[.int .i64 r.kind,.int .u64 r.src.a,.int .u64 r.src.b,.int .u64 r.src.c,.int .u64 r.src.d,.int .u64 r.tgt.a,.int .u64 r.tgt.b,.int .u64 r.tgt.c,.int .u64 r.tgt.d,.bool r.self,.int .i64 r.cls,.int .u32 r.perms,.int .i64 r.cond]) from HO.out.2.2.2).out.cell 5
   have k6:wr.cell? ⟨w.heap.size,6,none⟩=some (.int .u64 r.tgt.b):=(show Hid (Whole wr w.heap.size 56 #[.int .i64 r.kind,.int .u64 r.src.a,.int .u64 r.src.b,.int .u64 r.src.c,.int .u64 r.src.d,.int .u64 r.tgt.a,.int .u64 r.tgt.b,.int .u64 r.tgt.c,.int .u64 r.tgt.d,.bool r.self,.int .i64 r.cls,.int .u32 r.perms,.int .i64 r.cond]) from HO.out.2.2.2).out.cell 6
   have k7:wr.cell? ⟨w.heap.size,7,none⟩=some (.int .u64 r.tgt.c):=(show Hid (Whole wr w.heap.size 56 #[.int .i64 r.kind,.int .u64 r.src.a,.int .u64 r.src.b,.int .u64 r.src.c,.int .u64 r.src.d,.int .u64 r.tgt.a,.int .u64 r.tgt.b,.int .u64 r.tgt.c,.int .u64 r.tgt.d,.bool r.self,.int .i64 r.cls,.int .u32 r.perms,.int .i64 r.cond]) from HO.out.2.2.2).out.cell 7
   have k8:wr.cell? ⟨w.heap.size,8,none⟩=some (.int .u64 r.tgt.d):=(show Hid (Whole wr w.heap.size 56 #[.int .i64 r.kind,.int .u64 r.src.a,.int .u64 r.src.b,.int .u64 r.src.c,.int .u64 r.src.d,.int .u64 r.tgt.a,.int .u64 r.tgt.b,.int .u64 r.tgt.c,.int .u64 r.tgt.d,.bool r.self,.int .i64 r.cls,.int .u32 r.perms,.int .i64 r.cond]) from HO.out.2.2.2).out.cell 8
   have k9:wr.cell? ⟨w.heap.size,9,none⟩=some (.bool r.self):=(show Hid (Whole wr w.heap.size 56 #[.int .i64 r.kind,.int .u64 r.src.a,.int .u64 r.src.b,.int .u64 r.src.c,.int .u64 r.src.d,.int .u64 r.tgt.a,.int .u64 r.tgt.b,.int .u64 r.tgt.c,.int .u64 r.tgt.d,.bool r.self,.int .i64 r.cls,.int .u32 r.perms,.int .i64 r.cond]) from HO.out.2.2.2).out.cell 9
   by_cases hsf:r.self=true
   ·rw[hsf] at k9
    have HSF:=Lib.hid hsf
    clear hsf
    go_wp2_with (first | (refine wpList_store_blk rfl 54 _ _ rfl (wr.heap.size) 0 (.agg #[.int .u64 r.tgt.a,.int .u64 r.tgt.b,.int .u64 r.tgt.c,.int .u64 r.tgt.d]) rfl rfl 54 _ (Whole.new wr 54 _) (by simp[Value.cells]) size54 rfl ?_;intro w2 S2 W2;rw[splice_all _ _ (by rfl)] at W2;have HB2:=Lib.hid (show Below wr.heap.size wr w2 from((Below.refl _ wr).alloc (Nat.le_refl _) _).trans (S2.below (Nat.le_refl _)));have HW2:=Lib.hid (show Whole w2 wr.heap.size 54 #[.int .u64 r.tgt.a,.int .u64 r.tgt.b,.int .u64 r.tgt.c,.int .u64 r.tgt.d] from W2);have kz:w2.cell? ⟨w.heap.size,9,none⟩=some (.bool true):=cell_later HB2.out k9;clear S2 W2 k5 k6 k7 k8 k9) | (refine wpList_load_row rfl 54 _ rfl (wr.heap.size) rfl 54 _ (0,0) _ HW4.out Tryz.underlying54 rfl size54 ?_) | (refine wpList_load_row rfl 54 _ rfl (wr.heap.size) rfl 54 _ (0,0) _ HW2.out Tryz.underlying54 rfl size54 ?_) | (go_at_call 124;go_must (refine(with_any w2 r.tgt HR.out.tgt (s:Int)).mono ?_;rintro e w3 ⟨rfl,hb3⟩;have HB3:=Lib.hid (HB2.out.trans (hb3.mono HB2.out.size));have HW3:=Lib.hid (Whole.under hb3 HW2.out HW2.out.lt);clear hb3 HW2 kz)) | (refine wpList_store_blk rfl 54 _ _ rfl (wr.heap.size) 0 (.agg #[.int .u64 (r.tgt.with s).a,.int .u64 (r.tgt.with s).b,.int .u64 (r.tgt.with s).c,.int .u64 (r.tgt.with s).d]) rfl rfl 54 _ HW3.out (by simp[Value.cells]) size54 rfl ?_;intro w4 S4 W4;rw[splice_all _ _ (by rfl)] at W4;have HB4:=Lib.hid (HB3.out.trans (S4.below (Nat.le_refl _)));have HW4:=Lib.hid (show Whole w4 wr.heap.size 54 #[.int .u64 (r.tgt.with s).a,.int .u64 (r.tgt.with s).b,.int .u64 (r.tgt.with s).c,.int .u64 (r.tgt.with s).d] from W4);clear S4 W4 HW3) | (go_at_call 123;go_must (refine(list_any w4 (r.tgt.with s) (ASet.with_ok HR.out.tgt _)).mono ?_;rintro e w5 ⟨v2,rfl,hl2,hb5⟩;have HO5:=Lib.hid (HO.out.keep (HB4.out.trans (hb5.mono HB4.out.size)));have HLZ:=Lib.hid (own_drop (b':=w.heap.size) hl2 (by have:=HO.out.2.2.1.size;have:=HB4.out.size;omega));obtain⟨a2,c2,hv2⟩:=row_form hl2;subst hv2;clear hl2 hb5)))
    obtain⟨n2,hn2⟩:∃ n,n=(elems (r.tgt.with s)).length:=⟨_,rfl⟩
    rw[← hn2] at HLZ ⊢
    have HN2:=Lib.hid hn2
    have hn2b:n2≤256:=by rw[hn2];exact elemsTo_len _ _
    have hc2:=row_cap HLZ.out
    have HT:=Lib.hid (show elems (r.tgts s)=elems (r.tgt.with s) by unfold ARule.tgts;have hsf:=HSF.out;simp[hsf])
    clear hn2 HSF
    go_loopw [3,27] (fun u i wq=>∃ q:Nat,q≤n2∧i=.int .i64 q∧InR w r (some ⟨g1,0,none⟩) c1 n1 a2 c2 n2 (elems (r.tgt.with s)) (P++((elems (r.tgt.with s)).take q).map fun t=>(s,t)) u wq) (fun _ i _=>n2-(intOf i).toNat)
    case atStart=>exact⟨0,Nat.zero_le _,rfl,by simpa using(show InR w r (some ⟨g1,0,none⟩) c1 n1 a2 c2 n2 (elems (r.tgt.with s)) P _ w5 from⟨HO5.out.1,HO5.out.2.1,HLZ.out,HO5.out.2.2.1,HO5.out.2.2.2⟩)⟩
    case round =>
     clear HO5 HLZ
     obtain⟨q,hq,rfl,hI⟩:=hrel
     have HI:=Lib.hid hI
     clear hI
     by_cases hqlt:q<n2
     ·obtain⟨y,hy⟩:∃ y,(elems (r.tgt.with s))[q]?=some y:=⟨_,List.getElem?_eq_getElem (by have:=HN2.out;omega)⟩
      obtain⟨g2,rfl,hcell2⟩:=int_cell HI.out.2.2.1 hy
      have HY:=Lib.hid hy
      clear hy
      have hlp:(P++((elems (r.tgt.with s)).take q).map fun t=>(s,t)).length≤65536+q:=by rw[List.length_append,List.length_map];have:=List.length_take_le q (elems (r.tgt.with s));omega
      obtain⟨PQ,hPQ⟩:∃ PQ,PQ=P++((elems (r.tgt.with s)).take q).map fun t=>(s,t):=⟨_,rfl⟩
      rw[← hPQ] at HI hlp
      have HPQ:=Lib.hid hPQ
      clear hPQ
      have HII:=HI
      go_wp2_with (at_builtin;go_must (refine wpList_append_own _ rfl _ _ 109 rfl w.heap.size 111 i0 z 2 16 Tryz.underlying109 hi hz0 hz1 hz2 hzs (by decide) _ _ _ rfl (own_alloc HI.out.1 _) ⟨wr.heap.size,0,none⟩ 1 1 [.int .i64 (s:Int),.int .i64 (y:Int)] rfl rfl (pair_new _ _ _ _) ?c2 ?c3 ?c4 ?c5 ?_))
      case c2=>simp[Value.oneCell']
      case c3=>unfold maxLen;omega
      case c4=>omega
      case c5=>have:=HI.out.2.2.2.1.size;simp;omega
      intro v' w9 hown' hgrow hnil
      have HN9:=Lib.hid (HII.out.more (s:=s) (y:=y) hown' hgrow)
      clear hgrow hnil hown'
      go_wp2
      go_roundw
      case rel=>exact⟨q+1,by omega,by go_num,by rw[take_snoc HY.out,List.map_append,← List.append_assoc,← HPQ.out];exact HN9.out⟩
      case measure=>simp[intOf];omega
     ·obtain rfl:q=n2:=by omega
      have HOO:=Lib.hid (show OutR w r (some ⟨g1,0,none⟩) c1 n1 (r.pairsTo ((elems r.src).take (k+1))) _ wr by
       rw[take_snoc HS.out,pairsTo_snoc,← HPE.out,HT.out]
       have h:=HI.out
       rw[List.take_of_length_le (by rw[HN2.out];exact Nat.le_refl _)] at h
       exact⟨h.1,h.2.1,h.2.2.2.1,h.2.2.2.2⟩)
      go_wp2_with fail
      go_roundw
      case rel=>exact⟨k+1,by omega,by go_num,HOO.out⟩
      case measure=>simp[intOf];omega
   ·rw[Bool.eq_false_iff.2 hsf] at k9
    have HSF:=Lib.hid hsf
    clear hsf
    go_wp2_with (first | (refine wpList_store_blk rfl 54 _ _ rfl (wr.heap.size) 0 (.agg #[.int .u64 r.tgt.a,.int .u64 r.tgt.b,.int .u64 r.tgt.c,.int .u64 r.tgt.d]) rfl rfl 54 _ (Whole.new wr 54 _) (by simp[Value.cells]) size54 rfl ?_;intro w2 S2 W2;rw[splice_all _ _ (by rfl)] at W2;have HB2:=Lib.hid (show Below wr.heap.size wr w2 from((Below.refl _ wr).alloc (Nat.le_refl _) _).trans (S2.below (Nat.le_refl _)));have HW2:=Lib.hid (show Whole w2 wr.heap.size 54 #[.int .u64 r.tgt.a,.int .u64 r.tgt.b,.int .u64 r.tgt.c,.int .u64 r.tgt.d] from W2);have kz:w2.cell? ⟨w.heap.size,9,none⟩=some (.bool false):=cell_later HB2.out k9;clear S2 W2 k5 k6 k7 k8 k9) | (refine wpList_load_row rfl 54 _ rfl (wr.heap.size) rfl 54 _ (0,0) _ HW2.out Tryz.underlying54 rfl size54 ?_) | (go_at_call 123;go_must (refine(list_any w2 r.tgt HR.out.tgt).mono ?_;rintro e w5 ⟨v2,rfl,hl2,hb5⟩;have HO5:=Lib.hid (HO.out.keep (HB2.out.trans (hb5.mono HB2.out.size)));have HLZ:=Lib.hid (own_drop (b':=w.heap.size) hl2 (by have:=HO.out.2.2.1.size;have:=HB2.out.size;omega));obtain⟨a2,c2,hv2⟩:=row_form hl2;subst hv2;clear hl2 hb5 kz)))
    obtain⟨n2,hn2⟩:∃ n,n=(elems r.tgt).length:=⟨_,rfl⟩
    rw[← hn2] at HLZ ⊢
    have HN2:=Lib.hid hn2
    have hn2b:n2≤256:=by rw[hn2];exact elemsTo_len _ _
    have hc2:=row_cap HLZ.out
    have HT:=Lib.hid (show elems (r.tgts s)=elems r.tgt by unfold ARule.tgts;have hsf:=HSF.out;simp[hsf])
    clear hn2 HSF
    go_loopw [3,27] (fun u i wq=>∃ q:Nat,q≤n2∧i=.int .i64 q∧InR w r (some ⟨g1,0,none⟩) c1 n1 a2 c2 n2 (elems r.tgt) (P++((elems r.tgt).take q).map fun t=>(s,t)) u wq) (fun _ i _=>n2-(intOf i).toNat)
    case atStart=>exact⟨0,Nat.zero_le _,rfl,by simpa using(show InR w r (some ⟨g1,0,none⟩) c1 n1 a2 c2 n2 (elems r.tgt) P _ w5 from⟨HO5.out.1,HO5.out.2.1,HLZ.out,HO5.out.2.2.1,HO5.out.2.2.2⟩)⟩
    case round =>
     clear HO5 HLZ
     obtain⟨q,hq,rfl,hI⟩:=hrel
     have HI:=Lib.hid hI
     clear hI
     by_cases hqlt:q<n2
     ·obtain⟨y,hy⟩:∃ y,(elems r.tgt)[q]?=some y:=⟨_,List.getElem?_eq_getElem (by have:=HN2.out;omega)⟩
      obtain⟨g2,rfl,hcell2⟩:=int_cell HI.out.2.2.1 hy
      have HY:=Lib.hid hy
      clear hy
      have hlp:(P++((elems r.tgt).take q).map fun t=>(s,t)).length≤65536+q:=by rw[List.length_append,List.length_map];have:=List.length_take_le q (elems r.tgt);omega
      obtain⟨PQ,hPQ⟩:∃ PQ,PQ=P++((elems r.tgt).take q).map fun t=>(s,t):=⟨_,rfl⟩
      rw[← hPQ] at HI hlp
      have HPQ:=Lib.hid hPQ
      clear hPQ
      have HII:=HI
      go_wp2_with (at_builtin;go_must (refine wpList_append_own _ rfl _ _ 109 rfl w.heap.size 111 i0 z 2 16 Tryz.underlying109 hi hz0 hz1 hz2 hzs (by decide) _ _ _ rfl (own_alloc HI.out.1 _) ⟨wr.heap.size,0,none⟩ 1 1 [.int .i64 (s:Int),.int .i64 (y:Int)] rfl rfl (pair_new _ _ _ _) ?c2 ?c3 ?c4 ?c5 ?_))
      case c2=>simp[Value.oneCell']
      case c3=>unfold maxLen;omega
      case c4=>omega
      case c5=>have:=HI.out.2.2.2.1.size;simp;omega
      intro v' w9 hown' hgrow hnil
      have HN9:=Lib.hid (HII.out.more (s:=s) (y:=y) hown' hgrow)
      clear hgrow hnil hown'
      go_wp2
      go_roundw
      case rel=>exact⟨q+1,by omega,by go_num,by rw[take_snoc HY.out,List.map_append,← List.append_assoc,← HPQ.out];exact HN9.out⟩
      case measure=>simp[intOf];omega
     ·obtain rfl:q=n2:=by omega
      have HOO:=Lib.hid (show OutR w r (some ⟨g1,0,none⟩) c1 n1 (r.pairsTo ((elems r.src).take (k+1))) _ wr by
       rw[take_snoc HS.out,pairsTo_snoc,← HPE.out,HT.out]
       have h:=HI.out
       rw[List.take_of_length_le (by rw[HN2.out];exact Nat.le_refl _)] at h
       exact⟨h.1,h.2.1,h.2.2.2.1,h.2.2.2.2⟩)
      go_wp2_with fail
      go_roundw
      case rel=>exact⟨k+1,by omega,by go_num,HOO.out⟩
      case measure=>simp[intOf];omega
  ·obtain rfl:k=n1:=by omega
   go_wp2_with fail
   go_ret
   refine⟨_,rfl,?_,HO.out.2.2.1⟩
   have h:=HO.out.1
   rw[List.take_of_length_le (by rw[HN1.out];exact Nat.le_refl _)] at h
   exact h
end Go.Proofs.YtdcofoaihmongaaGreat
namespace Go.Proofs.YtdcofoaihmongaaGreat
open Go Go.RowKit
def OutS (w:World) (r:ARule) (P:List (Nat×Nat)) (u:Value) (wr:World):Prop :=
 wr.ownsRow w.heap.size 111 2 u P.length (pcells P)∧Below w.heap.size w wr∧Whole wr w.heap.size 56 #[.int .i64 r.kind,.int .u64 r.src.a,.int .u64 r.src.b,.int .u64 r.src.c,.int .u64 r.src.d,.int .u64 r.tgt.a,.int .u64 r.tgt.b,.int .u64 r.tgt.c,.int .u64 r.tgt.d,.bool r.self,.int .i64 r.cls,.int .u32 r.perms,.int .i64 r.cond]
theorem OutS.keep {w wr w':World} {r:ARule} {P:List (Nat×Nat)} {u:Value} (h:OutS w r P u wr) (hb:Below wr.heap.size wr w'):OutS w r P u w' :=
 ⟨own_keep hb h.1 (Nat.le_refl _),h.2.1.trans (hb.mono h.2.1.size),Whole.under hb h.2.2 h.2.2.lt⟩
theorem OutS.more {w wr w2:World} {r:ARule} {P:List (Nat×Nat)} {u v':Value} {s y:Nat} (h:OutS w r P u wr)
 (hown:w2.ownsRow w.heap.size 111 2 v' (P.length+1) (pcells P++pcell (s,y))) (hg:(wr.alloc (.cells #[.int .i64 (s:Int),.int .i64 (y:Int)] 111)).grownBy w2 u.ownBlock):OutS w r (P++[(s,y)]) v' w2:=by
 obtain⟨h1,h4,h5⟩:=h
 refine⟨?_,(h4.alloc h4.size _).grown hg (by have:=h4.size;simp;omega) (fun q hq=>by have:=(h1.lt q hq).1;omega),(h5.alloc _).grown hg (fun e=>own_blk_far h1 h5 (by decide) e.symm)⟩
 rw[List.length_append,pcells_app]
 exact hown
end Go.Proofs.YtdcofoaihmongaaGreat
namespace Go.Proofs.YtdcofoaihmongaaGreat
open Go Go.WideMaps Go.RowKit
structure AEntry where
 src:Int
 tgt:Int
 cls:Int
 cond:Int
 allow:Int
 audit:Int
 dont:Int
deriving DecidableEq
def AEntry.cells (x:AEntry):List Value:=[.int .i64 x.src,.int .i64 x.tgt,.int .i64 x.cls,.int .i64 x.cond,.int .u32 x.allow,.int .u32 x.audit,.int .u32 x.dont]
theorem entry_len (x:AEntry):x.cells.length=7:=rfl
theorem rule_len (x:ARule):x.cells.length=13:=rfl
theorem info52:infoB (Tryz.prog.info? 52) 1 8=true:=by kernel_rfl
theorem cOf22:Tryz.prog.cellsOf 52=1:=by kernel_rfl
theorem eqw (d:Nat) (a b:Int) (w:World):(Op.equalIn (d+1) 52 (.int .u64 a) (.int .u64 b)).run Tryz.prog w=.ok (decide (a=b)) w:=by
 by_cases h:a=b<;>simp[Op.equalIn,run_underlying Tryz.underlying52,h]
theorem equ (d:Nat) (a b:Int) (w:World):(Op.equalIn (d+1) 50 (.int .u32 a) (.int .u32 b)).run Tryz.prog w=.ok (decide (a=b)) w:=by
 by_cases h:a=b<;>simp[Op.equalIn,run_underlying Tryz.underlying50,h]
theorem eqw9 (a b:Int) (w:World):(Op.equalIn 9999 52 (.int .u64 a) (.int .u64 b)).run Tryz.prog w=.ok (decide (a=b)) w:=eqw 9998 a b w
theorem equ9 (a b:Int) (w:World):(Op.equalIn 9999 50 (.int .u32 a) (.int .u32 b)).run Tryz.prog w=.ok (decide (a=b)) w:=equ 9998 a b w
theorem eq_set (x0 x1 x2 x3 y0 y1 y2 y3:Int) (w:World):(Op.equalIn 10000 54 (.agg #[.int .u64 x0,.int .u64 x1,.int .u64 x2,.int .u64 x3]) (.agg #[.int .u64 y0,.int .u64 y1,.int .u64 y2,.int .u64 y3])).run Tryz.prog w=.ok (decide (x0=y0∧x1=y1∧x2=y2∧x3=y3)) w:=by
 obtain⟨i0,z,hi,_⟩:=infoOf info52
 rw[show(10000:Nat)=9999+1 from rfl,run_equalIn_array w 9999 _ _ Tryz.underlying54 hi,cOf22]
 have p0:∀ x0 x1 x2 x3:Int,(part 52 #[.int .u64 x0,.int .u64 x1,.int .u64 x2,.int .u64 x3] (0*1)).run Tryz.prog w=.ok (.int .u64 x0) w:=fun x0 x1 x2 x3=>by kernel_rfl
 have p1:∀ x0 x1 x2 x3:Int,(part 52 #[.int .u64 x0,.int .u64 x1,.int .u64 x2,.int .u64 x3] (1*1)).run Tryz.prog w=.ok (.int .u64 x1) w:=fun x0 x1 x2 x3=>by kernel_rfl
 have p2:∀ x0 x1 x2 x3:Int,(part 52 #[.int .u64 x0,.int .u64 x1,.int .u64 x2,.int .u64 x3] (2*1)).run Tryz.prog w=.ok (.int .u64 x2) w:=fun x0 x1 x2 x3=>by kernel_rfl
 have p3:∀ x0 x1 x2 x3:Int,(part 52 #[.int .u64 x0,.int .u64 x1,.int .u64 x2,.int .u64 x3] (3*1)).run Tryz.prog w=.ok (.int .u64 x3) w:=fun x0 x1 x2 x3=>by kernel_rfl
 rw[show List.range 4=[0,1,2,3] from rfl]
 simp only[Op.eqItems,Sem.run_bind,p0,Result.andThen_ok,eqw9]
 by_cases h0:x0=y0<;>by_cases h1:x1=y1<;>by_cases h2:x2=y2<;>by_cases h3:x3=y3<;>simp[h0,h1,h2,h3,Sem.run_bind,p1,p2,p3,eqw9]
theorem eq_fields {xs ys:Array Value} {W:World} {d:Nat}:∀ (fs:List Field) (rs:List Bool),fs.length=rs.length→(fs.all fun f=>f.name != "_")=true→(∀ (i:Nat) (f:Field) (r:Bool),fs[i]?=some f→rs[i]?=some r→∃ x y,(part f.type xs f.offset).run Tryz.prog W=.ok x W∧(part f.type ys f.offset).run Tryz.prog W=.ok y W∧(Op.equalIn d f.type x y).run Tryz.prog W=.ok r W)→(Op.eqFields d xs ys fs).run Tryz.prog W=.ok (rs.all id) W
 | [],[],_,_,_=>rfl
 | f::fs,r::rs,hl,hn,h=>by
  obtain⟨x,y,h1,h2,h3⟩:=h 0 f r rfl rfl
  have ih:=eq_fields fs rs (by simpa using hl) (by simp at hn;simpa using hn.2) fun i g s hg hs=>h (i+1) g s (by simpa using hg) (by simpa using hs)
  unfold Op.eqFields
  have hne:f.name≠"_":=by simp at hn;exact hn.1
  rw[if_pos hne]
  simp only[Sem.run_bind,h1,h2,h3,Result.andThen_ok]
  cases r with
  | false=>simp
  | true=>simpa using ih
 | [],_::_,h,_,_=>by simp at h
 | _::_,[],h,_,_=>by simp at h
end Go.Proofs.YtdcofoaihmongaaGreat
namespace Go.Proofs.YtdcofoaihmongaaGreat
open Go Go.RowKit
def cmpI (a b:Int):Int:=if a<b then -1 else if b<a then 1 else 0
theorem cmpI_zero {a b:Int}:cmpI a b=0↔a=b:=by
 unfold cmpI
 split
 ·constructor<;>intro h<;>omega
 ·split
  ·constructor<;>intro h<;>omega
  ·constructor<;>intro h<;>omega
theorem cmpI_neg {a b:Int}:cmpI a b<0↔a<b:=by
 unfold cmpI
 split
 ·constructor<;>intro h<;>omega
 ·split
  ·constructor<;>intro h<;>omega
  ·constructor<;>intro h<;>omega
def orI:List Int→Int
 | []=>0
 | x::l=>if x=0 then orI l else x
theorem orI_skip:∀ {l:List Int} {k:Nat},(∀ j,j<k→l[j]?=some 0)→orI l=orI (l.drop k)
 | _,0,_=>rfl
 | [],k+1,h=>by simp
 | x::l,k+1,h=>by
  have h0:=h 0 (by omega)
  simp at h0
  subst h0
  rw[List.drop_succ_cons,← orI_skip (l:=l) (k:=k) fun j hj=>by have:=h (j+1) (by omega);simpa using this]
  simp[orI]
theorem compare_0 (w:World) (a b:Int) (h:a<b):Calls Tryz.prog 210 #[.int .i64 a,.int .i64 b] w fun e w'=>e=.returned (.int .i64 (-1))∧w=w':=by
 go_enter Tryz.func210,Tryz.ntmps210
 go_wp2
 go_ret
 exact⟨rfl,rfl⟩
theorem compare_1 (w:World) (a b:Int) (h:b<a):Calls Tryz.prog 210 #[.int .i64 a,.int .i64 b] w fun e w'=>e=.returned (.int .i64 1)∧w=w':=by
 have h1:¬ a<b:=by omega
 go_enter Tryz.func210,Tryz.ntmps210
 go_wp2
 go_ret
 exact⟨rfl,rfl⟩
theorem compare_2 (w:World) (a b:Int) (h:a=b):Calls Tryz.prog 210 #[.int .i64 a,.int .i64 b] w fun e w'=>e=.returned (.int .i64 0)∧w=w':=by
 subst h
 go_enter Tryz.func210,Tryz.ntmps210
 go_wp2
 go_ret
 exact⟨rfl,rfl⟩
theorem compare_any (w:World) (a b:Int):Calls Tryz.prog 210 #[.int .i64 a,.int .i64 b] w fun e w'=>e=.returned (.int .i64 (cmpI a b))∧w=w':=by
 unfold cmpI
 by_cases h:a<b
 ·rw[if_pos h];exact compare_0 w a b h
 ·rw[if_neg h]
  by_cases h1:b<a
  ·rw[if_pos h1];exact compare_1 w a b h1
  ·rw[if_neg h1];exact compare_2 w a b (by omega)
def anInt (x:Int):Value:=.int .i64 x
set_option maxHeartbeats 2000000 in
theorem or_any (w:World) (v:Value) (l:List Int) (h:SliceAt w v 1 l.length (l.map anInt)):Calls Tryz.prog 209 #[v] w fun e w'=>e=.returned (.int .i64 (orI l))∧w=w':=by
 obtain⟨a,c,rfl,hac,hmx,HA⟩:=h.form (by decide)
 have H1:=Lib.hid HA
 clear HA h
 obtain⟨N,hN⟩:∃ N,N=l.length:=⟨_,rfl⟩
 rw[← hN] at H1 hac hmx ⊢
 have HN:=Lib.hid hN
 clear hN
 go_enter Tryz.func209,Tryz.ntmps209
 go_wp2
 go_loop [8] (fun i=>∃ n:Nat,n≤N∧i=.int .i64 n∧Hid (∀ j,j<n→l[j]?=some 0)) (fun i=>N-(intOf i).toNat)
 case atStart=>exact⟨0,Nat.zero_le _,rfl,fun j hj=>by omega⟩
 case round =>
  obtain⟨n,hn,rfl,hpre⟩:=hrel
  by_cases hlt:n<N
  ·obtain⟨b,off,rfl,hc⟩:=H1.out n hlt
   obtain⟨y,hy⟩:∃ y,l[n]?=some y:=⟨_,List.getElem?_eq_getElem (by have:=HN.out;omega)⟩
   have c0:w.cell? ⟨b,off+n*1,none⟩=some (.int .i64 y):=hc 0 _ (by simp[hy,anInt])
   rw[Nat.mul_one] at c0
   have HY:=Lib.hid hy
   clear hy hc
   by_cases h0:y=0
   ·subst h0
    go_wp2
    go_round
    case rel=>exact⟨n+1,by omega,by go_num,fun j hj=>by
     by_cases hjn:j=n
     ·subst hjn;exact HY.out
     ·exact hpre.out j (by omega)⟩
    case measure=>simp[intOf];omega
   ·go_wp2
    go_ret
    refine⟨ret_int ?_,rfl⟩
    rw[orI_skip hpre.out]
    have hl:n<l.length:=by have:=HN.out;omega
    rw[List.drop_eq_getElem_cons hl]
    have e:l[n]=y:=Option.some.inj ((List.getElem?_eq_getElem hl).symm.trans HY.out)
    rw[e]
    simp[orI,h0]
  ·obtain rfl:n=N:=by omega
   go_wp2
   go_ret
   refine⟨ret_int ?_,rfl⟩
   rw[orI_skip hpre.out,List.drop_of_length_le (by rw[HN.out];exact Nat.le_refl _)]
   rfl
end Go.Proofs.YtdcofoaihmongaaGreat
namespace Go.Proofs.YtdcofoaihmongaaGreat
open Go Go.RowKit
def Grows (w w':World):Prop:=∃ q os,w'=Sort.grow (w.drewN q) os
theorem Grows.refl (w:World):Grows w w:=⟨0,#[],by rw[Sort.grow_empty];rfl⟩
theorem Grows.drewN {w w':World} (h:Grows w w') (n:Nat):Grows w (w'.drewN n):=by
 obtain⟨q,os,rfl⟩:=h
 exact⟨q+n,os,by simp[Sort.grow,World.drewN,Nat.add_assoc]⟩
theorem Grows.drew {w w':World} (h:Grows w w'):Grows w w'.drew:=h.drewN 1
theorem Grows.alloc {w w':World} (h:Grows w w') (o:Obj):Grows w (w'.alloc o):=by
 obtain⟨q,os,rfl⟩:=h
 exact⟨q,os++#[o],by rw[Sort.alloc_eq_grow,Sort.grow_grow]⟩
theorem Grows.trans {a b c:World} (h:Grows a b) (k:Grows b c):Grows a c:=by
 obtain⟨q,os,rfl⟩:=k
 obtain⟨q',os',h'⟩:=h.drewN q
 exact⟨q',os'++os,by rw[h',Sort.grow_grow]⟩
theorem Grows.below {w w':World} (h:Grows w w'):Below w.heap.size w w':=by
 obtain⟨q,os,rfl⟩:=h
 refine⟨rfl,rfl,rfl,by simp[Sort.grow,World.drewN],fun k hk=>?_⟩
 show(w.heap++os)[k]?=w.heap[k]?
 exact Array.getElem?_append_left hk
theorem row_ints {w:World} {g:Nat} {l:List Int} (hl:l.length≤100) (h:Whole w g 3 (l.map anInt).toArray):SliceAt w (.slice (some ⟨g,0,none⟩) l.length l.length) 1 l.length (l.map anInt):=by
 refine⟨by simp,by unfold maxLen;omega,fun u hu=>?_,.inr ⟨_,_,rfl,Nat.le_refl _,fun j u hj=>?_⟩⟩
 ·obtain⟨x,-,rfl⟩:=List.mem_map.1 hu
  rfl
 ·rw[Addr.add_lit,Nat.zero_add]
  exact(h.cell j).trans (by rw[← Array.getElem?_toList];exact hj)
def beforeI (x y:AEntry):Int:=orI [cmpI x.src y.src,cmpI x.tgt y.tgt,cmpI x.cls y.cls,cmpI x.cond y.cond]
set_option maxHeartbeats 4000000 in
theorem before_any (w:World) (x y:AEntry):Calls Tryz.prog 126 #[.agg #[.int .i64 x.src,.int .i64 x.tgt,.int .i64 x.cls,.int .i64 x.cond,.int .u32 x.allow,.int .u32 x.audit,.int .u32 x.dont],.agg #[.int .i64 y.src,.int .i64 y.tgt,.int .i64 y.cls,.int .i64 y.cond,.int .u32 y.allow,.int .u32 y.audit,.int .u32 y.dont]] w fun e w'=>e=.returned (.int .i64 (beforeI x y))∧Grows w w':=by
 unfold beforeI
 obtain⟨wo,hwo⟩:∃ wo,wo=(w.alloc (.cells #[.int .i64 x.src,.int .i64 x.tgt,.int .i64 x.cls,.int .i64 x.cond,.int .u32 x.allow,.int .u32 x.audit,.int .u32 x.dont] 94)).alloc (.cells #[.int .i64 y.src,.int .i64 y.tgt,.int .i64 y.cls,.int .i64 y.cond,.int .u32 y.allow,.int .u32 y.audit,.int .u32 y.dont] 94):=⟨_,rfl⟩
 have HX:=Lib.hid (show Whole wo w.heap.size 94 #[.int .i64 x.src,.int .i64 x.tgt,.int .i64 x.cls,.int .i64 x.cond,.int .u32 x.allow,.int .u32 x.audit,.int .u32 x.dont] by rw[hwo];exact(Whole.new w 94 #[.int .i64 x.src,.int .i64 x.tgt,.int .i64 x.cls,.int .i64 x.cond,.int .u32 x.allow,.int .u32 x.audit,.int .u32 x.dont]).alloc _)
 have HY:=Lib.hid (show Whole wo (w.heap.size+1) 94 #[.int .i64 y.src,.int .i64 y.tgt,.int .i64 y.cls,.int .i64 y.cond,.int .u32 y.allow,.int .u32 y.audit,.int .u32 y.dont] by rw[hwo];exact whole_two w _ #[.int .i64 y.src,.int .i64 y.tgt,.int .i64 y.cls,.int .i64 y.cond,.int .u32 y.allow,.int .u32 y.audit,.int .u32 y.dont] _)
 have HG:=Lib.hid (show Grows w wo by rw[hwo];exact((Grows.refl w).alloc _).alloc _)
 go_enter Tryz.func126,Tryz.ntmps126
 go_upto_region 1 with(fail)
 rw[← hwo]
 clear hwo
 refine wp_region_last (fun w w'=>Below w.heap.size w w') [some 5,some 6,some 7,some 8,some 9,some 10,some 11,some 12,some 13,some 14,some 15,some 16,some 17,some 18,some 19,some 20,some 21,some 22,some 23,some 24,some 25,some 26] [isV (.pointer (some ⟨w.heap.size,0,none⟩)),isV (.int .i64 x.src),isV (.pointer (some ⟨w.heap.size+1,0,none⟩)),isV (.int .i64 y.src),isV (.int .i64 (cmpI x.src y.src)),isV (.pointer (some ⟨w.heap.size,1,none⟩)),isV (.int .i64 x.tgt),isV (.pointer (some ⟨w.heap.size+1,1,none⟩)),isV (.int .i64 y.tgt),isV (.int .i64 (cmpI x.tgt y.tgt)),isV (.pointer (some ⟨w.heap.size,2,none⟩)),isV (.int .i64 x.cls),isV (.pointer (some ⟨w.heap.size+1,2,none⟩)),isV (.int .i64 y.cls),isV (.int .i64 (cmpI x.cls y.cls)),isV (.pointer (some ⟨w.heap.size,3,none⟩)),isV (.int .i64 x.cond),isV (.pointer (some ⟨w.heap.size+1,3,none⟩)),isV (.int .i64 y.cond),isV (.int .i64 (cmpI x.cond y.cond)),fun u w'=>∃ g,u=.slice (some ⟨g,0,none⟩) 4 4∧Whole w' g 3 #[.int .i64 (cmpI x.src y.src),.int .i64 (cmpI x.tgt y.tgt),.int .i64 (cmpI x.cls y.cls),.int .i64 (cmpI x.cond y.cond)],isV (.int .i64 (orI [cmpI x.src y.src,cmpI x.tgt y.tgt,cmpI x.cls y.cls,cmpI x.cond y.cond]))] (fun _ w'=>Grows wo w') 22 (by kernel_rfl) (by kernel_rfl) (by kernel_rfl) rfl (by decide) rfl rfl ((Grows.refl _).drew) ⟨lasts_is _,lasts_is _,lasts_is _,lasts_is _,lasts_is _,lasts_is _,lasts_is _,lasts_is _,lasts_is _,lasts_is _,lasts_is _,lasts_is _,lasts_is _,lasts_is _,lasts_is _,lasts_is _,lasts_is _,lasts_is _,lasts_is _,lasts_is _,(fun u wa wb ⟨g,h1,h2⟩ hb=>⟨g,h1,Whole.under hb h2 h2.lt⟩),lasts_is _,trivial⟩ ⟨(fun _=>lastsR_is _),(fun _=>lastsR_is _),(fun _=>lastsR_is _),(fun _=>lastsR_is _),(fun _=>lastsR_is _),(fun _=>lastsR_is _),(fun _=>lastsR_is _),(fun _=>lastsR_is _),(fun _=>lastsR_is _),(fun _=>lastsR_is _),(fun _=>lastsR_is _),(fun _=>lastsR_is _),(fun _=>lastsR_is _),(fun _=>lastsR_is _),(fun _=>lastsR_is _),(fun _=>lastsR_is _),(fun _=>lastsR_is _),(fun _=>lastsR_is _),(fun _=>lastsR_is _),(fun _=>lastsR_is _),(fun _=>(fun u wa wb ⟨g,h1,h2⟩ hb=>⟨g,h1,Whole.under hb h2 h2.lt⟩)),(fun _=>lastsR_is _),trivial⟩ ⟨?_,?_,?_,?_,?_,?_,?_,?_,?_,?_,?_,?_,?_,?_,?_,?_,?_,?_,?_,?_,?_,?_,?_⟩
 ·intro L a wx Q' hL hi H F hK
  try dsimp only at hi
  have h2:a.tmps[2]?=some (.pointer (some ⟨w.heap.size,0,none⟩)):=F 2 rfl
  have HI:=Lib.hid hi
  clear H F hi hL
  go_wp2_with fail
  exact hK _ _ (Below.refl _ _) HI.out rfl
 ·intro L a wx Q' hL hi H F hK
  try dsimp only at hi
  obtain⟨_,h5,rfl⟩:=H 0 ⟨.data,by simp,rfl⟩ _ rfl
  replace h5:=h5 _ rfl
  have HI:=Lib.hid hi
  clear H F hi hL
  have kq0:wx.cell? ⟨w.heap.size,0,none⟩=some (.int .i64 x.src):=(Whole.under HI.out.below HX.out HX.out.lt).cell 0
  go_wp2_with fail
  exact hK _ _ (Below.refl _ _) HI.out rfl
 ·intro L a wx Q' hL hi H F hK
  try dsimp only at hi
  have h3:a.tmps[3]?=some (.pointer (some ⟨w.heap.size+1,0,none⟩)):=F 3 rfl
  have HI:=Lib.hid hi
  clear H F hi hL
  go_wp2_with fail
  exact hK _ _ (Below.refl _ _) HI.out rfl
 ·intro L a wx Q' hL hi H F hK
  try dsimp only at hi
  obtain⟨_,h7,rfl⟩:=H 2 ⟨.data,by simp,rfl⟩ _ rfl
  replace h7:=h7 _ rfl
  have HI:=Lib.hid hi
  clear H F hi hL
  have kq0:wx.cell? ⟨w.heap.size+1,0,none⟩=some (.int .i64 y.src):=(Whole.under HI.out.below HY.out HY.out.lt).cell 0
  go_wp2_with fail
  exact hK _ _ (Below.refl _ _) HI.out rfl
 ·intro L a wx Q' hL hi H F hK
  try dsimp only at hi
  obtain⟨_,h6,rfl⟩:=H 1 ⟨.data,by simp,rfl⟩ _ rfl
  replace h6:=h6 _ rfl
  obtain⟨_,h8,rfl⟩:=H 3 ⟨.data,by simp,rfl⟩ _ rfl
  replace h8:=h8 _ rfl
  have HI:=Lib.hid hi
  clear H F hi hL
  go_wp2_with (go_at_call 210;go_must (refine(compare_any _ _ _).mono ?_;rintro e w1 ⟨rfl,rfl⟩))
  exact hK _ _ (Below.refl _ _) HI.out rfl
 ·intro L a wx Q' hL hi H F hK
  try dsimp only at hi
  have h2:a.tmps[2]?=some (.pointer (some ⟨w.heap.size,0,none⟩)):=F 2 rfl
  have HI:=Lib.hid hi
  clear H F hi hL
  go_wp2_with fail
  exact hK _ _ (Below.refl _ _) HI.out rfl
 ·intro L a wx Q' hL hi H F hK
  try dsimp only at hi
  obtain⟨_,h10,rfl⟩:=H 5 ⟨.data,by simp,rfl⟩ _ rfl
  replace h10:=h10 _ rfl
  have HI:=Lib.hid hi
  clear H F hi hL
  have kq0:wx.cell? ⟨w.heap.size,1,none⟩=some (.int .i64 x.tgt):=(Whole.under HI.out.below HX.out HX.out.lt).cell 1
  go_wp2_with fail
  exact hK _ _ (Below.refl _ _) HI.out rfl
 ·intro L a wx Q' hL hi H F hK
  try dsimp only at hi
  have h3:a.tmps[3]?=some (.pointer (some ⟨w.heap.size+1,0,none⟩)):=F 3 rfl
  have HI:=Lib.hid hi
  clear H F hi hL
  go_wp2_with fail
  exact hK _ _ (Below.refl _ _) HI.out rfl
 ·intro L a wx Q' hL hi H F hK
  try dsimp only at hi
  obtain⟨_,h12,rfl⟩:=H 7 ⟨.data,by simp,rfl⟩ _ rfl
  replace h12:=h12 _ rfl
  have HI:=Lib.hid hi
  clear H F hi hL
  have kq0:wx.cell? ⟨w.heap.size+1,1,none⟩=some (.int .i64 y.tgt):=(Whole.under HI.out.below HY.out HY.out.lt).cell 1
  go_wp2_with fail
  exact hK _ _ (Below.refl _ _) HI.out rfl
 ·intro L a wx Q' hL hi H F hK
  try dsimp only at hi
  obtain⟨_,h11,rfl⟩:=H 6 ⟨.data,by simp,rfl⟩ _ rfl
  replace h11:=h11 _ rfl
  obtain⟨_,h13,rfl⟩:=H 8 ⟨.data,by simp,rfl⟩ _ rfl
  replace h13:=h13 _ rfl
  have HI:=Lib.hid hi
  clear H F hi hL
  go_wp2_with (go_at_call 210;go_must (refine(compare_any _ _ _).mono ?_;rintro e w1 ⟨rfl,rfl⟩))
  exact hK _ _ (Below.refl _ _) HI.out rfl
 ·intro L a wx Q' hL hi H F hK
  try dsimp only at hi
  have h2:a.tmps[2]?=some (.pointer (some ⟨w.heap.size,0,none⟩)):=F 2 rfl
  have HI:=Lib.hid hi
  clear H F hi hL
  go_wp2_with fail
  exact hK _ _ (Below.refl _ _) HI.out rfl
 ·intro L a wx Q' hL hi H F hK
  try dsimp only at hi
  obtain⟨_,h15,rfl⟩:=H 10 ⟨.data,by simp,rfl⟩ _ rfl
  replace h15:=h15 _ rfl
  have HI:=Lib.hid hi
  clear H F hi hL
  have kq0:wx.cell? ⟨w.heap.size,2,none⟩=some (.int .i64 x.cls):=(Whole.under HI.out.below HX.out HX.out.lt).cell 2
  go_wp2_with fail
  exact hK _ _ (Below.refl _ _) HI.out rfl
 ·intro L a wx Q' hL hi H F hK
  try dsimp only at hi
  have h3:a.tmps[3]?=some (.pointer (some ⟨w.heap.size+1,0,none⟩)):=F 3 rfl
  have HI:=Lib.hid hi
  clear H F hi hL
  go_wp2_with fail
  exact hK _ _ (Below.refl _ _) HI.out rfl
 ·intro L a wx Q' hL hi H F hK
  try dsimp only at hi
  obtain⟨_,h17,rfl⟩:=H 12 ⟨.data,by simp,rfl⟩ _ rfl
  replace h17:=h17 _ rfl
  have HI:=Lib.hid hi
  clear H F hi hL
  have kq0:wx.cell? ⟨w.heap.size+1,2,none⟩=some (.int .i64 y.cls):=(Whole.under HI.out.below HY.out HY.out.lt).cell 2
  go_wp2_with fail
  exact hK _ _ (Below.refl _ _) HI.out rfl
 ·intro L a wx Q' hL hi H F hK
  try dsimp only at hi
  obtain⟨_,h16,rfl⟩:=H 11 ⟨.data,by simp,rfl⟩ _ rfl
  replace h16:=h16 _ rfl
  obtain⟨_,h18,rfl⟩:=H 13 ⟨.data,by simp,rfl⟩ _ rfl
  replace h18:=h18 _ rfl
  have HI:=Lib.hid hi
  clear H F hi hL
  go_wp2_with (go_at_call 210;go_must (refine(compare_any _ _ _).mono ?_;rintro e w1 ⟨rfl,rfl⟩))
  exact hK _ _ (Below.refl _ _) HI.out rfl
 ·intro L a wx Q' hL hi H F hK
  try dsimp only at hi
  have h2:a.tmps[2]?=some (.pointer (some ⟨w.heap.size,0,none⟩)):=F 2 rfl
  have HI:=Lib.hid hi
  clear H F hi hL
  go_wp2_with fail
  exact hK _ _ (Below.refl _ _) HI.out rfl
 ·intro L a wx Q' hL hi H F hK
  try dsimp only at hi
  obtain⟨_,h20,rfl⟩:=H 15 ⟨.data,by simp,rfl⟩ _ rfl
  replace h20:=h20 _ rfl
  have HI:=Lib.hid hi
  clear H F hi hL
  have kq0:wx.cell? ⟨w.heap.size,3,none⟩=some (.int .i64 x.cond):=(Whole.under HI.out.below HX.out HX.out.lt).cell 3
  go_wp2_with fail
  exact hK _ _ (Below.refl _ _) HI.out rfl
 ·intro L a wx Q' hL hi H F hK
  try dsimp only at hi
  have h3:a.tmps[3]?=some (.pointer (some ⟨w.heap.size+1,0,none⟩)):=F 3 rfl
  have HI:=Lib.hid hi
  clear H F hi hL
  go_wp2_with fail
  exact hK _ _ (Below.refl _ _) HI.out rfl
 ·intro L a wx Q' hL hi H F hK
  try dsimp only at hi
  obtain⟨_,h22,rfl⟩:=H 17 ⟨.data,by simp,rfl⟩ _ rfl
  replace h22:=h22 _ rfl
  have HI:=Lib.hid hi
  clear H F hi hL
  have kq0:wx.cell? ⟨w.heap.size+1,3,none⟩=some (.int .i64 y.cond):=(Whole.under HI.out.below HY.out HY.out.lt).cell 3
  go_wp2_with fail
  exact hK _ _ (Below.refl _ _) HI.out rfl
 ·intro L a wx Q' hL hi H F hK
  try dsimp only at hi
  obtain⟨_,h21,rfl⟩:=H 16 ⟨.data,by simp,rfl⟩ _ rfl
  replace h21:=h21 _ rfl
  obtain⟨_,h23,rfl⟩:=H 18 ⟨.data,by simp,rfl⟩ _ rfl
  replace h23:=h23 _ rfl
  have HI:=Lib.hid hi
  clear H F hi hL
  go_wp2_with (go_at_call 210;go_must (refine(compare_any _ _ _).mono ?_;rintro e w1 ⟨rfl,rfl⟩))
  exact hK _ _ (Below.refl _ _) HI.out rfl
 ·intro L a wx Q' hL hi H F hK
  try dsimp only at hi
  obtain⟨_,h9,rfl⟩:=H 4 ⟨.data,by simp,rfl⟩ _ rfl
  replace h9:=h9 _ rfl
  obtain⟨_,h14,rfl⟩:=H 9 ⟨.data,by simp,rfl⟩ _ rfl
  replace h14:=h14 _ rfl
  obtain⟨_,h19,rfl⟩:=H 14 ⟨.data,by simp,rfl⟩ _ rfl
  replace h19:=h19 _ rfl
  obtain⟨_,h24,rfl⟩:=H 19 ⟨.data,by simp,rfl⟩ _ rfl
  replace h24:=h24 _ rfl
  have HI:=Lib.hid hi
  clear H F hi hL
  go_wp2_with fail
  have hb:=(Below.refl wx.heap.size wx).alloc (Nat.le_refl _) (.cells #[.int .i64 (cmpI x.src y.src),.int .i64 (cmpI x.tgt y.tgt),.int .i64 (cmpI x.cls y.cls),.int .i64 (cmpI x.cond y.cond)] 3)
  exact hK _ _ hb (HI.out.alloc _) ⟨wx.heap.size,rfl,Whole.new wx 3 _⟩
 ·intro L a wx Q' hL hi H F hK
  try dsimp only at hi
  obtain⟨v25,h25,hv25⟩:=H 20 ⟨.data,by simp,rfl⟩ _ rfl
  replace h25:=h25 _ rfl
  have HV25:=Lib.hid hv25
  clear hv25
  have HI:=Lib.hid hi
  clear H F hi hL
  obtain⟨g,rfl,hw⟩:=HV25.out
  have HS:=Lib.hid (row_ints (l:=[cmpI x.src y.src,cmpI x.tgt y.tgt,cmpI x.cls y.cls,cmpI x.cond y.cond]) (by simp) hw)
  clear HV25 hw
  go_wp2_with (go_at_call 209;go_must (refine(or_any _ _ [cmpI x.src y.src,cmpI x.tgt y.tgt,cmpI x.cls y.cls,cmpI x.cond y.cond] HS.out).mono ?_;rintro e w1 ⟨rfl,rfl⟩))
  exact hK _ _ (Below.refl _ _) HI.out rfl
 ·intro a wx hl L hi hL Q' hK
  try dsimp only at hi
  have HB:=Lib.hid hi
  clear hi hL
  obtain⟨_,rfl,_,rfl,_,rfl,_,rfl,_,rfl,_,rfl,_,rfl,_,rfl,_,rfl,_,rfl,_,rfl,_,rfl,_,rfl,_,rfl,_,rfl,_,rfl,_,rfl,_,rfl,_,rfl,_,rfl,u25,hu25,_,rfl,rfl⟩:=hl
  have HU25:=Lib.hid hu25
  clear hu25
  simp only[List.setIfInBounds_toArray,List.set_cons_zero,List.set_cons_succ]
  go_wp2_with fail
  go_ret
  exact⟨rfl,HG.out.trans HB.out⟩
end Go.Proofs.YtdcofoaihmongaaGreat
namespace Go.Proofs.YtdcofoaihmongaaGreat
open Go Go.RowKit
def ASet.least (s:ASet):Int:=match (elems s).head? with
 | some n=>(n:Int)
 | none=>-1
end Go.Proofs.YtdcofoaihmongaaGreat
namespace Go.Proofs.YtdcofoaihmongaaGreat
open Go Go.RowKit
theorem zero_ok:ASet.zero.Ok:=by constructor<;>(show(0:Nat)<18446744073709551616;decide)
end Go.Proofs.YtdcofoaihmongaaGreat
namespace Go.Proofs.YtdcofoaihmongaaGreat
open Go Go.RowKit
structure AVec where
 allow:Int
 audit:Int
 dont:Int
deriving DecidableEq
def AVec.or (u v:AVec):AVec:=⟨bits .or .u32 u.allow v.allow,bits .or .u32 u.audit v.audit,bits .or .u32 u.dont v.dont⟩
def vecOf (k p:Int):AVec:=if k=1 then ⟨p,0,0⟩ else if k=2 then ⟨0,p,0⟩ else if k=3 then ⟨0,0,p⟩ else ⟨0,0,0⟩
theorem whole_three (w:World) (o o2:Obj) (cs:Array Value) (t:TypeId):Whole (((w.alloc o).alloc o2).alloc (.cells cs t)) (w.heap.size+2) t cs:=by
 have:=Whole.new ((w.alloc o).alloc o2) t cs
 simpa using this
theorem size107:(Tryz.prog.info? 107).map (·.size)=some 3:=by kernel_rfl
set_option maxHeartbeats 2000000 in
theorem vor_any (w:World) (u v:AVec):Calls Tryz.prog 60 #[.agg #[.int .u32 u.allow,.int .u32 u.audit,.int .u32 u.dont],.agg #[.int .u32 v.allow,.int .u32 v.audit,.int .u32 v.dont]] w fun e w'=>e=.returned (.agg #[.int .u32 (u.or v).allow,.int .u32 (u.or v).audit,.int .u32 (u.or v).dont])∧Below w.heap.size w w':=by
 go_enter Tryz.func60,Tryz.ntmps60
 go_wp2_with (refine wpList_store_blk rfl 107 _ _ rfl (w.heap.size+2) 0 (.agg #[.int .u32 (bits .or .u32 u.allow v.allow),.int .u32 (bits .or .u32 u.audit v.audit),.int .u32 (bits .or .u32 u.dont v.dont)]) rfl rfl 107 _ (whole_three w _ _ #[.int .u32 0,.int .u32 0,.int .u32 0] _) (by simp[Value.cells]) size107 rfl ?_;intro w2 S2 W2;rw[splice_all _ _ (by rfl)] at W2;have HS2:=Lib.hid S2;have HW2:=Lib.hid (show Whole w2 (w.heap.size+2) 107 #[.int .u32 (bits .or .u32 u.allow v.allow),.int .u32 (bits .or .u32 u.audit v.audit),.int .u32 (bits .or .u32 u.dont v.dont)] from W2);clear S2 W2)
 have e0:w2.cell? ⟨w.heap.size+1+1,0,none⟩=some (.int .u32 (bits .or .u32 u.allow v.allow)):=HW2.out.cell 0
 have e1:w2.cell? ⟨w.heap.size+1+1,1,none⟩=some (.int .u32 (bits .or .u32 u.audit v.audit)):=HW2.out.cell 1
 have e2:w2.cell? ⟨w.heap.size+1+1,2,none⟩=some (.int .u32 (bits .or .u32 u.dont v.dont)):=HW2.out.cell 2
 refine bodyPost_ret (v:=.agg #[.int .u32 (bits .or .u32 u.allow v.allow),.int .u32 (bits .or .u32 u.audit v.audit),.int .u32 (bits .or .u32 u.dont v.dont)]) ?_ rfl ⟨rfl,((((Below.refl _ w).alloc (Nat.le_refl _) _).alloc (by simp) _).alloc (by simp;omega) _).trans (HS2.out.below (by omega))⟩
 simp[results,Tryz.results60,go_sem,e0,e1,e2]
set_option maxHeartbeats 2000000 in
theorem of_1 (w:World) (k p:Int) (h:k=1):Calls Tryz.prog 58 #[.int .i64 k,.int .u32 p] w fun e w'=>e=.returned (.agg #[.int .u32 p,.int .u32 0,.int .u32 0])∧Below w.heap.size w w':=by
 subst h
 go_enter Tryz.func58,Tryz.ntmps58
 go_wp2_with (refine wpList_store_blk rfl 107 _ _ rfl (w.heap.size) 0 (.agg #[.int .u32 p,.int .u32 0,.int .u32 0]) rfl rfl 107 _ (Whole.new w 107 #[.int .u32 0,.int .u32 0,.int .u32 0]) (by simp[Value.cells]) size107 rfl ?_;intro w2 S2 W2;rw[splice_all _ _ (by rfl)] at W2;have HS2:=Lib.hid S2;have HW2:=Lib.hid (show Whole w2 (w.heap.size) 107 #[.int .u32 p,.int .u32 0,.int .u32 0] from W2);clear S2 W2)
 have e0:w2.cell? ⟨w.heap.size,0,none⟩=some (.int .u32 p):=HW2.out.cell 0
 have e1:w2.cell? ⟨w.heap.size,1,none⟩=some (.int .u32 0):=HW2.out.cell 1
 have e2:w2.cell? ⟨w.heap.size,2,none⟩=some (.int .u32 0):=HW2.out.cell 2
 refine bodyPost_ret (v:=.agg #[.int .u32 p,.int .u32 0,.int .u32 0]) ?_ rfl ⟨rfl,((Below.refl _ w).alloc (Nat.le_refl _) _).trans (HS2.out.below (Nat.le_refl _))⟩
 simp[results,Tryz.results58,go_sem,e0,e1,e2]
set_option maxHeartbeats 2000000 in
theorem of_2 (w:World) (k p:Int) (h:k=2):Calls Tryz.prog 58 #[.int .i64 k,.int .u32 p] w fun e w'=>e=.returned (.agg #[.int .u32 0,.int .u32 p,.int .u32 0])∧Below w.heap.size w w':=by
 subst h
 go_enter Tryz.func58,Tryz.ntmps58
 go_wp2_with (refine wpList_store_blk rfl 107 _ _ rfl (w.heap.size) 0 (.agg #[.int .u32 0,.int .u32 p,.int .u32 0]) rfl rfl 107 _ (Whole.new w 107 #[.int .u32 0,.int .u32 0,.int .u32 0]) (by simp[Value.cells]) size107 rfl ?_;intro w2 S2 W2;rw[splice_all _ _ (by rfl)] at W2;have HS2:=Lib.hid S2;have HW2:=Lib.hid (show Whole w2 (w.heap.size) 107 #[.int .u32 0,.int .u32 p,.int .u32 0] from W2);clear S2 W2)
 have e0:w2.cell? ⟨w.heap.size,0,none⟩=some (.int .u32 0):=HW2.out.cell 0
 have e1:w2.cell? ⟨w.heap.size,1,none⟩=some (.int .u32 p):=HW2.out.cell 1
 have e2:w2.cell? ⟨w.heap.size,2,none⟩=some (.int .u32 0):=HW2.out.cell 2
 refine bodyPost_ret (v:=.agg #[.int .u32 0,.int .u32 p,.int .u32 0]) ?_ rfl ⟨rfl,((Below.refl _ w).alloc (Nat.le_refl _) _).trans (HS2.out.below (Nat.le_refl _))⟩
 simp[results,Tryz.results58,go_sem,e0,e1,e2]
set_option maxHeartbeats 2000000 in
theorem of_3 (w:World) (k p:Int) (h:k=3):Calls Tryz.prog 58 #[.int .i64 k,.int .u32 p] w fun e w'=>e=.returned (.agg #[.int .u32 0,.int .u32 0,.int .u32 p])∧Below w.heap.size w w':=by
 subst h
 go_enter Tryz.func58,Tryz.ntmps58
 go_wp2_with (refine wpList_store_blk rfl 107 _ _ rfl (w.heap.size) 0 (.agg #[.int .u32 0,.int .u32 0,.int .u32 p]) rfl rfl 107 _ (Whole.new w 107 #[.int .u32 0,.int .u32 0,.int .u32 0]) (by simp[Value.cells]) size107 rfl ?_;intro w2 S2 W2;rw[splice_all _ _ (by rfl)] at W2;have HS2:=Lib.hid S2;have HW2:=Lib.hid (show Whole w2 (w.heap.size) 107 #[.int .u32 0,.int .u32 0,.int .u32 p] from W2);clear S2 W2)
 have e0:w2.cell? ⟨w.heap.size,0,none⟩=some (.int .u32 0):=HW2.out.cell 0
 have e1:w2.cell? ⟨w.heap.size,1,none⟩=some (.int .u32 0):=HW2.out.cell 1
 have e2:w2.cell? ⟨w.heap.size,2,none⟩=some (.int .u32 p):=HW2.out.cell 2
 refine bodyPost_ret (v:=.agg #[.int .u32 0,.int .u32 0,.int .u32 p]) ?_ rfl ⟨rfl,((Below.refl _ w).alloc (Nat.le_refl _) _).trans (HS2.out.below (Nat.le_refl _))⟩
 simp[results,Tryz.results58,go_sem,e0,e1,e2]
set_option maxHeartbeats 2000000 in
theorem of_4 (w:World) (k p:Int) (h1:¬ k=1) (h2:¬ k=2) (h3:¬ k=3):Calls Tryz.prog 58 #[.int .i64 k,.int .u32 p] w fun e w'=>e=.returned (.agg #[.int .u32 0,.int .u32 0,.int .u32 0])∧Below w.heap.size w w':=by
 go_enter Tryz.func58,Tryz.ntmps58
 go_wp2_with (refine wpList_store_blk rfl 107 _ _ rfl (w.heap.size) 0 (.agg #[.int .u32 0,.int .u32 0,.int .u32 0]) rfl rfl 107 _ (Whole.new w 107 #[.int .u32 0,.int .u32 0,.int .u32 0]) (by simp[Value.cells]) size107 rfl ?_;intro w2 S2 W2;rw[splice_all _ _ (by rfl)] at W2;have HS2:=Lib.hid S2;have HW2:=Lib.hid (show Whole w2 (w.heap.size) 107 #[.int .u32 0,.int .u32 0,.int .u32 0] from W2);clear S2 W2)
 have e0:w2.cell? ⟨w.heap.size,0,none⟩=some (.int .u32 0):=HW2.out.cell 0
 have e1:w2.cell? ⟨w.heap.size,1,none⟩=some (.int .u32 0):=HW2.out.cell 1
 have e2:w2.cell? ⟨w.heap.size,2,none⟩=some (.int .u32 0):=HW2.out.cell 2
 refine bodyPost_ret (v:=.agg #[.int .u32 0,.int .u32 0,.int .u32 0]) ?_ rfl ⟨rfl,((Below.refl _ w).alloc (Nat.le_refl _) _).trans (HS2.out.below (Nat.le_refl _))⟩
 simp[results,Tryz.results58,go_sem,e0,e1,e2]
theorem of_vec (w:World) (k p:Int):Calls Tryz.prog 58 #[.int .i64 k,.int .u32 p] w fun e w'=>e=.returned (.agg #[.int .u32 (vecOf k p).allow,.int .u32 (vecOf k p).audit,.int .u32 (vecOf k p).dont])∧Below w.heap.size w w':=by
 unfold vecOf
 by_cases h1:k=1
 ·rw[if_pos h1];exact of_1 w k p h1
 ·rw[if_neg h1]
  by_cases h2:k=2
  ·rw[if_pos h2];exact of_2 w k p h2
  ·rw[if_neg h2]
   by_cases h3:k=3
   ·rw[if_pos h3];exact of_3 w k p h3
   ·rw[if_neg h3];exact of_4 w k p h1 h2 h3
end Go.Proofs.YtdcofoaihmongaaGreat
namespace Go.Proofs.YtdcofoaihmongaaGreat
open Go Go.RowKit
theorem size94:(Tryz.prog.info? 94).map (·.size)=some 7:=by kernel_rfl
theorem size50:(Tryz.prog.info? 50).map (·.size)=some 1:=by kernel_rfl
end Go.Proofs.YtdcofoaihmongaaGreat
namespace Go.Proofs.YtdcofoaihmongaaGreat
open Go Go.RowKit
def AEntry.vec (x:AEntry) (k:Int):Int:=if k=1 then x.allow else if k=2 then x.audit else x.dont
end Go.Proofs.YtdcofoaihmongaaGreat
namespace Go.Proofs.YtdcofoaihmongaaGreat
open Go Go.WideMaps Go.RowKit
theorem laid_out:laidOutB Tryz.prog=true:=by kernel_rfl
theorem law76:KeyLaw Tryz.prog 113:=deep_law_laid laid_out (m:=5) (by decide) (of_decide_eq_true (by kernel_rfl)) (by kernel_rfl) (by kernel_rfl)
theorem keyed76:Maps.Keyed Tryz.prog 113:=Maps.Keyed.of_law law76
end Go.Proofs.YtdcofoaihmongaaGreat
namespace Go.Proofs.YtdcofoaihmongaaGreat
open Go Go.WideMaps Go.RowKit
theorem sizeT:∃ m,Tryz.prog.types.size=m+1:=⟨Tryz.prog.types.size-1,by have:0<Tryz.prog.types.size:=of_decide_eq_true (by kernel_rfl);omega⟩
theorem lit3 (m:Nat) {a:Int} (wa:(Lit.int .i64 a).wf=true):Tryz.prog.keyLits (m+1) 3 [.int .i64 a]=some [.int .i64 a]:=by
 unfold Program.keyLits
 simp[Tryz.underlying3,wa]
theorem key76 {a b c d:Int} (wa:(Lit.int .i64 a).wf=true) (wb:(Lit.int .i64 b).wf=true) (wc:(Lit.int .i64 c).wf=true) (wd:(Lit.int .i64 d).wf=true) :
 ∃ l,keyOf Tryz.prog 113 (.agg #[.int .i64 a,.int .i64 b,.int .i64 c,.int .i64 d])=some l:=by
 obtain⟨m,hm⟩:=sizeT
 have hu:Tryz.prog.underlying 113=some (.struct (Tryz.prog.fieldsOf 113)):=by kernel_rfl
 have hk:Tryz.prog.keyType 113=true:=by kernel_rfl
 have hc:Tryz.prog.cellsOf 113=4:=by kernel_rfl
 have hc3:Tryz.prog.cellsOf 3=1:=by kernel_rfl
 have hf:(Tryz.prog.fieldsOf 113).toList.map (fun f=>(f.type,f.offset))=[(3,0),(3,1),(3,2),(3,3)]:=by kernel_rfl
 have hn:(Tryz.prog.fieldsOf 113).all (fun f=>f.name != "_")=true:=by kernel_rfl
 have hform:(Value.agg #[.int .i64 a,.int .i64 b,.int .i64 c,.int .i64 d]).formed Tryz.prog 113=true:=by kernel_rfl
 unfold keyOf
 simp only[hu]
 rw[if_pos (by rw[hk,hform];rfl),hm]
 unfold Program.keyLits
 simp only[hu,Value.cells]
 rw[if_pos ⟨by rw[hc];rfl,hn⟩]
 generalize (Tryz.prog.fieldsOf 113).toList=fs at hf
 obtain⟨f0,f1,f2,f3,rfl⟩:∃ f0 f1 f2 f3,fs=[f0,f1,f2,f3]:=by
  rcases fs with _ | ⟨f0,_ | ⟨f1,_ | ⟨f2,_ | ⟨f3,_ | ⟨f4,r⟩⟩⟩⟩⟩
  ·simp at hf
  ·simp at hf
  ·simp at hf
  ·simp at hf
  ·exact⟨_,_,_,_,rfl⟩
  ·simp at hf
 simp only[List.map_cons,List.map_nil,List.cons.injEq,Prod.mk.injEq,and_true] at hf
 obtain⟨⟨t0,o0⟩,⟨t1,o1⟩,⟨t2,o2⟩,⟨t3,o3⟩⟩:=hf
 obtain⟨m',rfl⟩:∃ m',m=m'+1:=⟨m-1,by have h:1<Tryz.prog.types.size:=of_decide_eq_true (by kernel_rfl);omega⟩
 simp[List.mapM_cons,t0,o0,t1,o1,t2,o2,t3,o3,hc3,lit3,wa,wb,wc,wd]
end Go.Proofs.YtdcofoaihmongaaGreat
namespace Go.Proofs.YtdcofoaihmongaaGreat
open Go Go.RowKit
def sortE_ren:Go.Shelf.Ren:=⟨fun | 6=>125 | 15=>208 | 14=>207 | 28=>262 | 29=>263 | 20=>254 | 21=>255 | 22=>256 | 23=>257 | 24=>258 | 25=>259 | 26=>260 | 27=>261 | 46=>289 | 47=>290 | 48=>291 | 49=>292 | 50=>293 | 57=>305 | n=>n,fun | 22=>47 | 24=>94 | 25=>220 | 3=>3 | 39=>246 | 0=>0 | 53=>50 | 55=>52 | 4=>4 | 46=>325 | 45=>324 | 50=>161 | 5=>5 | 9=>9 | 66=>352 | 70=>356 | 76=>362 | 77=>363 | n=>n,fun | n=>n⟩
theorem sortE:Go.Proofs.SlLaysF0.n6 Tryz.prog sortE_ren:={
 mixed:=by kernel_rfl
 f6:=⟨Tryz.f125.name,by decide,Tryz.func125.trans (congrArg some (by kernel_rfl))⟩
 f14:=⟨Tryz.f207.name,by decide,Tryz.func207.trans (congrArg some (by kernel_rfl))⟩
 f15:=Tryz.func208.trans (congrArg some (by kernel_rfl))
 f20:=⟨Tryz.f254.name,by decide,Tryz.func254.trans (congrArg some (by kernel_rfl))⟩
 f21:=⟨Tryz.f255.name,by decide,Tryz.func255.trans (congrArg some (by kernel_rfl))⟩
 f22:=⟨Tryz.f256.name,by decide,Tryz.func256.trans (congrArg some (by kernel_rfl))⟩
 f23:=⟨Tryz.f257.name,by decide,Tryz.func257.trans (congrArg some (by kernel_rfl))⟩
 f24:=⟨Tryz.f258.name,by decide,Tryz.func258.trans (congrArg some (by kernel_rfl))⟩
 f25:=⟨Tryz.f259.name,by decide,Tryz.func259.trans (congrArg some (by kernel_rfl))⟩
 f26:=⟨Tryz.f260.name,by decide,Tryz.func260.trans (congrArg some (by kernel_rfl))⟩
 f27:=⟨Tryz.f261.name,by decide,Tryz.func261.trans (congrArg some (by kernel_rfl))⟩
 f28:=Tryz.func262.trans (congrArg some (by kernel_rfl))
 f29:=Tryz.func263.trans (congrArg some (by kernel_rfl))
 f46:=⟨Tryz.f289.name,by decide,Tryz.func289.trans (congrArg some (by kernel_rfl))⟩
 f47:=Tryz.func290.trans (congrArg some (by kernel_rfl))
 f48:=Tryz.func291.trans (congrArg some (by kernel_rfl))
 f49:=⟨Tryz.f292.name,by decide,Tryz.func292.trans (congrArg some (by kernel_rfl))⟩
 f50:=⟨Tryz.f293.name,by decide,Tryz.func293.trans (congrArg some (by kernel_rfl))⟩
 f57:=⟨Tryz.f305.name,by decide,Tryz.func305.trans (congrArg some (by kernel_rfl))⟩
 t0:=Tryz.underlying0
 a0:=Tryz.isAgg0
 z0:=Tryz.sizeOf0
 v0:=Tryz.zeroValue0
 t3:=Tryz.underlying3
 a3:=Tryz.isAgg3
 z3:=Tryz.sizeOf3
 v3:=Tryz.zeroValue3
 t4:=Tryz.underlying4
 a4:=Tryz.isAgg4
 z4:=Tryz.sizeOf4
 v4:=Tryz.zeroValue4
 t5:=Tryz.underlying5
 a5:=Tryz.isAgg5
 z5:=Tryz.sizeOf5
 v5:=Tryz.zeroValue5
 t9:=Tryz.underlying9
 a9:=Tryz.isAgg9
 z9:=Tryz.sizeOf9
 v9:=Tryz.zeroValue9
 t22:=Tryz.underlying47
 a22:=Tryz.isAgg47
 z22:=Tryz.sizeOf47
 v22:=Tryz.zeroValue47
 t25:=Tryz.underlying220
 a25:=Tryz.isAgg220
 z25:=Tryz.sizeOf220
 v25:=Tryz.zeroValue220
 t39:=Tryz.underlying246
 a39:=Tryz.isAgg246
 z39:=Tryz.sizeOf246
 v39:=Tryz.zeroValue246
 t45:=Tryz.underlying324
 a45:=Tryz.isAgg324
 z45:=Tryz.sizeOf324
 v45:=Tryz.zeroValue324
 t46:=Tryz.underlying325
 a46:=Tryz.isAgg325
 z46:=Tryz.sizeOf325
 v46:=Tryz.zeroValue325
 t50:=Tryz.underlying161
 a50:=Tryz.isAgg161
 z50:=Tryz.sizeOf161
 v50:=Tryz.zeroValue161
 t53:=Tryz.underlying50
 a53:=Tryz.isAgg50
 z53:=Tryz.sizeOf50
 v53:=Tryz.zeroValue50
 t55:=Tryz.underlying52
 a55:=Tryz.isAgg52
 z55:=Tryz.sizeOf52
 v55:=Tryz.zeroValue52
 t66:=Tryz.underlying352
 a66:=Tryz.isAgg352
 z66:=Tryz.sizeOf352
 v66:=Tryz.zeroValue352
 t70:=Tryz.underlying356
 a70:=Tryz.isAgg356
 z70:=Tryz.sizeOf356
 v70:=Tryz.zeroValue356
 t76:=Tryz.underlying362
 a76:=Tryz.isAgg362
 z76:=Tryz.sizeOf362
 v76:=Tryz.zeroValue362
 t77:=Tryz.underlying363
 a77:=Tryz.isAgg363
 z77:=Tryz.sizeOf363
 v77:=Tryz.zeroValue363 }
end Go.Proofs.YtdcofoaihmongaaGreat
namespace Go.Proofs.YtdcofoaihmongaaGreat
open Go Go.Sort
instance:Inhabited AEntry:=⟨⟨0,0,0,0,0,0,0⟩⟩
theorem lt_before (x y:AEntry):ltOf beforeI x y=decide (x.src<y.src∨x.src=y.src∧(x.tgt<y.tgt∨x.tgt=y.tgt∧(x.cls<y.cls∨x.cls=y.cls∧x.cond<y.cond))):=by
 unfold ltOf beforeI
 simp only[orI,cmpI_zero]
 by_cases h0:x.src=y.src
 ·by_cases h1:x.tgt=y.tgt
  ·by_cases h2:x.cls=y.cls
   ·by_cases h3:x.cond=y.cond
    ·simp[h0,h1,h2,h3]
    ·simp[h0,h1,h2,h3,cmpI_neg]
   ·simp[h0,h1,h2,cmpI_neg]
  ·simp[h0,h1,cmpI_neg]
 ·simp[h0,cmpI_neg]
theorem swo_before:SWO (ltOf beforeI) where
 irrefl x:=by rw[lt_before];simp
 trans x y z h1 h2:=by rw[lt_before] at *;simp at *;omega
 ntrans x y z h1 h2:=by rw[lt_before] at *;simp at *;omega
theorem sorted_list {α:Type} [Inhabited α] {lt:α→α→Bool} {d:Array α} (h:SortedIn lt 0 d.size d):d.toList.Pairwise fun x y=>lt y x=false:=by
 rw[List.pairwise_iff_getElem]
 intro i j hi hj hij
 have:=h i j (Nat.zero_le _) hij (by simpa using hj)
 simpa[getElem!_pos d i (by simpa using hi),getElem!_pos d j (by simpa using hj)] using this
theorem perm_list {α:Type} [Inhabited α] {d d':Array α} (h:PermIn 0 d.size d d'):d'.toList.Perm d.toList:=by
 have h2:=h.2.2
 have e:d'.extract 0 d.size=d':=by rw[← h.1];simp
 rw[e] at h2
 simpa using h2
structure Key4 where
 src:Int
 tgt:Int
 cls:Int
 cond:Int
deriving DecidableEq
def AEntry.key (e:AEntry):Key4:=⟨e.src,e.tgt,e.cls,e.cond⟩
def AEntry.vecs (e:AEntry):AVec:=⟨e.allow,e.audit,e.dont⟩
def AVec.zero:AVec:=⟨0,0,0⟩
instance:DecidableEq AVec:=fun a b=>decidable_of_iff (a.allow=b.allow∧a.audit=b.audit∧a.dont=b.dont) (by cases a;cases b;simp)
def mkE (k:Key4) (v:AVec):AEntry:=⟨k.src,k.tgt,k.cls,k.cond,v.allow,v.audit,v.dont⟩
theorem mkE_key (k:Key4) (v:AVec):(mkE k v).key=k:=rfl
theorem mkE_vecs (k:Key4) (v:AVec):(mkE k v).vecs=v:=rfl
theorem mkE_eta (e:AEntry):mkE e.key e.vecs=e:=rfl
theorem entry_ext {x y:AEntry} (h1:x.key=y.key) (h2:x.vecs=y.vecs):x=y:=by rw[← mkE_eta x,← mkE_eta y,h1,h2]
def I64 (a:Int):Prop:=-9223372036854775808≤a∧a<9223372036854775808
def U32 (a:Int):Prop:=0≤a∧a<4294967296
structure Key4.Ok (k:Key4):Prop where
 src:I64 k.src
 tgt:I64 k.tgt
 cls:I64 k.cls
 cond:I64 k.cond
structure AVec.Ok (v:AVec):Prop where
 allow:U32 v.allow
 audit:U32 v.audit
 dont:U32 v.dont
def Bef (x y:AEntry):Prop:=ltOf beforeI x y=true
theorem Bef.irrefl (x:AEntry):¬ Bef x x:=by unfold Bef;rw[swo_before.irrefl];simp
theorem Bef.trans (x y z:AEntry):Bef x y→Bef y z→Bef x z:=swo_before.trans x y z
theorem bef_total {x y:AEntry} (h:x.key≠y.key) (h2:ltOf beforeI y x=false):Bef x y:=by
 unfold Bef
 rw[lt_before] at *
 have h:¬ (x.src=y.src∧x.tgt=y.tgt∧x.cls=y.cls∧x.cond=y.cond):=fun⟨a,b,c,d⟩=>h (by unfold AEntry.key;rw[a,b,c,d])
 simp at h2 ⊢
 omega
structure Canon (f:Key4→AVec) (l:List AEntry):Prop where
 ord:l.Pairwise Bef
 mem:∀ e,e∈l↔e.vecs=f e.key∧f e.key≠AVec.zero
def kvVal (p:Key4×AVec):Value×Value:=(.agg #[.int .i64 p.1.src,.int .i64 p.1.tgt,.int .i64 p.1.cls,.int .i64 p.1.cond],.agg #[.int .u32 p.2.allow,.int .u32 p.2.audit,.int .u32 p.2.dont])
def nz (p:Key4×AVec):Bool:=decide (p.2≠AVec.zero)
def outL (E:List (Key4×AVec)):List AEntry:=(E.filter nz).map fun p=>mkE p.1 p.2
theorem canon_sorted {f:Key4→AVec} {D:List (Key4×AVec)} (hn:(D.map Prod.fst).Nodup) (h1:∀ p∈D,p.2=f p.1) (h2:∀ k,f k≠AVec.zero→k∈D.map Prod.fst)
 {l':List AEntry} (hpl:l'.Perm (outL D)) (hs:l'.Pairwise fun x y=>ltOf beforeI y x=false):Canon f l':=by
 unfold outL at hpl
 have hnod:(l'.map AEntry.key).Nodup:=by
  rw[(hpl.map AEntry.key).nodup_iff,List.map_map]
  have:(AEntry.key∘fun p:Key4×AVec=>mkE p.1 p.2)=Prod.fst:=rfl
  rw[this]
  exact hn.sublist (List.filter_sublist.map _)
 refine⟨?_,fun e=>?_⟩
 ·have h:=hs.and (List.pairwise_map.1 hnod)
  exact h.imp fun⟨a,b⟩=>bef_total b a
 ·rw[hpl.mem_iff,List.mem_map]
  constructor
  ·rintro⟨⟨k,v⟩,hp,rfl⟩
   simp only[List.mem_filter,nz,decide_eq_true_eq] at hp
   have:=h1 _ hp.1
   exact⟨this,fun h=>hp.2 (this.trans h)⟩
  ·rintro⟨ha,hb⟩
   obtain⟨⟨k,v⟩,hm,hk⟩:=List.mem_map.1 (h2 _ hb)
   have hk:k=e.key:=hk
   subst hk
   have hv:v=f e.key:=h1 _ hm
   subst hv
   refine⟨(e.key,f e.key),List.mem_filter.2 ⟨hm,by simpa[nz] using hb⟩,?_⟩
   show mkE e.key (f e.key)=e
   rw[← ha,mkE_eta]
def updV (f:Key4→AVec) (k:Key4) (v:AVec):Key4→AVec:=fun x=>if x=k then (f k).or v else f x
def accum (l:List (Key4×AVec)):Key4→AVec:=l.foldl (fun f p=>updV f p.1 p.2) fun _=>AVec.zero
theorem accum_snoc (l:List (Key4×AVec)) (p:Key4×AVec):accum (l++[p])=updV (accum l) p.1 p.2:=by simp[accum,List.foldl_append]
theorem accum_nil:accum []=fun _=>AVec.zero:=rfl
theorem wrap32 (n:Int):IntKind.u32.wrap n=n%4294967296:=by simp[IntKind.wrap,IntKind.signed,IntKind.bits]
theorem or_bv (a b:Int):bits .or .u32 a b=((BitVec.ofInt 32 a|||BitVec.ofInt 32 b).toNat:Int):=by
 show IntKind.u32.wrap ((BitVec.ofInt 32 a|||BitVec.ofInt 32 b).toNat:Int)=_
 have h:=(BitVec.ofInt 32 a|||BitVec.ofInt 32 b).isLt
 rw[wrap32]
 omega
theorem or_u32 (a b:Int):U32 (bits .or .u32 a b):=by
 rw[or_bv]
 have h:=(BitVec.ofInt 32 a|||BitVec.ofInt 32 b).isLt
 exact⟨by omega,by omega⟩
theorem bv_or (a b:Int):BitVec.ofInt 32 (bits .or .u32 a b)=BitVec.ofInt 32 a|||BitVec.ofInt 32 b:=by rw[or_bv,BitVec.ofInt_natCast,BitVec.ofNat_toNat];simp
theorem bv_self {a:Int} (h:U32 a):((BitVec.ofInt 32 a).toNat:Int)=a:=by
 obtain⟨n,rfl⟩:∃ n:Nat,a=n:=⟨a.toNat,by have:=h.1;omega⟩
 rw[BitVec.ofInt_natCast,BitVec.toNat_ofNat,Nat.mod_eq_of_lt (by have:=h.2;omega)]
theorem or_comm32 (a b:Int):bits .or .u32 a b=bits .or .u32 b a:=by rw[or_bv,or_bv,BitVec.or_comm]
theorem or_assoc32 (a b c:Int):bits .or .u32 (bits .or .u32 a b) c=bits .or .u32 a (bits .or .u32 b c):=by rw[or_bv,or_bv a (bits .or .u32 b c),bv_or,bv_or,BitVec.or_assoc]
theorem or_zero32 {a:Int} (h:U32 a):bits .or .u32 a 0=a:=by rw[or_bv,show BitVec.ofInt 32 0=0#32 from rfl,BitVec.or_zero,bv_self h]
theorem or_self32 {a:Int} (h:U32 a):bits .or .u32 a a=a:=by rw[or_bv,BitVec.or_self,bv_self h]
theorem or_eq_zero32 {a b:Int} (ha:U32 a) (hb:U32 b) (h:bits .or .u32 a b=0):a=0∧b=0:=by
 rw[or_bv] at h
 have h':BitVec.ofInt 32 a|||BitVec.ofInt 32 b=0#32:=by
  apply BitVec.eq_of_toNat_eq;simpa using h
 have h1:BitVec.ofInt 32 a=0#32:=(BitVec.or_eq_zero_iff.1 h').1
 have h2:BitVec.ofInt 32 b=0#32:=(BitVec.or_eq_zero_iff.1 h').2
 exact⟨by rw[← bv_self ha,h1];rfl,by rw[← bv_self hb,h2];rfl⟩
theorem AVec.or_ok (u v:AVec):(u.or v).Ok:=⟨or_u32 _ _,or_u32 _ _,or_u32 _ _⟩
theorem AVec.or_comm (u v:AVec):u.or v=v.or u:=by simp only[AVec.or,or_comm32 u.allow,or_comm32 u.audit,or_comm32 u.dont]
theorem AVec.or_assoc (u v x:AVec):(u.or v).or x=u.or (v.or x):=by simp only[AVec.or,or_assoc32]
theorem AVec.or_zero {u:AVec} (h:u.Ok):u.or AVec.zero=u:=by simp only[AVec.or,AVec.zero,or_zero32 h.allow,or_zero32 h.audit,or_zero32 h.dont]
theorem AVec.zero_or {u:AVec} (h:u.Ok):AVec.zero.or u=u:=by rw[AVec.or_comm,AVec.or_zero h]
theorem AVec.or_self {u:AVec} (h:u.Ok):u.or u=u:=by simp only[AVec.or,or_self32 h.allow,or_self32 h.audit,or_self32 h.dont]
theorem AVec.zero_ok:AVec.zero.Ok:=by constructor<;>exact⟨by decide,by decide⟩
theorem AVec.or_eq_zero {u v:AVec} (hu:u.Ok) (hv:v.Ok) (h:u.or v=AVec.zero):u=AVec.zero∧v=AVec.zero:=by
 simp only[AVec.or,AVec.zero,AVec.mk.injEq] at h
 have h1:=or_eq_zero32 hu.allow hv.allow h.1
 have h2:=or_eq_zero32 hu.audit hv.audit h.2.1
 have h3:=or_eq_zero32 hu.dont hv.dont h.2.2
 cases u;cases v
 simp only[AVec.zero,AVec.mk.injEq] at *
 exact⟨⟨h1.1,h2.1,h3.1⟩,h1.2,h2.2,h3.2⟩
end Go.Proofs.YtdcofoaihmongaaGreat
namespace Go.Proofs.YtdcofoaihmongaaGreat
open Go Go.Shelf Go.RowKit Go.Sort
theorem lays_before (blk off size:Nat) (w:World):CmpLays Tryz.prog 126 #[] AEntry.cells 7 beforeI blk off size w :=
 fun _ _ _ _ x y=>(before_any _ x y).mono fun _ _ ⟨he,q,os,hw⟩=>⟨he,q,os,hw⟩
theorem sortE_any (blk off cap:Nat) (d:Array AEntry) (w:World) (hH:HoldsK AEntry.cells 7 w blk off d) (hblk:blk<w.heap.size) (hsz:d.size<4611686018427387904) :
 Calls Tryz.prog 125 #[.slice (some ⟨blk,off,none⟩) d.size cap,.func (.func 126) #[] #[]] w fun e w'=>e=.returned (.tuple #[])∧∃ d' n os,PermIn 0 d.size d d'∧SortedIn (ltOf beforeI) 0 d.size d'∧w'=sortWorldK AEntry.cells 7 w blk off n d' os:=by
 have eg:∀ args w,(callFunc 126 args).run Tryz.prog w=.ok (.enter 126 args) w:=enters_of Tryz.func126 (by kernel_rfl) rfl
 exact AnyQ.slices_SortFunc sortE 7 Tryz.isAgg94 Tryz.sizeOf94 AEntry.cells (fun _=>rfl) (fun x v hv=>by simp[AEntry.cells] at hv;rcases hv with rfl | rfl | rfl | rfl | rfl | rfl | rfl<;>rfl) beforeI swo_before 126 #[] blk off cap d w eg (lays_before blk off d.size w) hH hblk hsz
end Go.Proofs.YtdcofoaihmongaaGreat
namespace Go.Proofs.YtdcofoaihmongaaGreat
open Go Go.Shelf Go.RowKit Go.Sort
section
variable {α:Type} [Inhabited α] {enc:α→List Value} {k:Nat}
theorem flatK_list (hk:∀ x,(enc x).length=k) (d:Array α):(flatK enc k d).toList=d.toList.flatMap enc:=by
 refine eq_of_at (by rw[flat_length hk];simp) fun i hi=>?_
 have hi':i<d.size*k:=by simpa using hi
 have k0:0<k:=by rcases Nat.eq_zero_or_pos k with h | h;·subst h;simp at hi'
                 ·exact h
 have hd:i/k<d.size:=(Nat.div_lt_iff_lt_mul k0).2 hi'
 have h1:=flat_at hk (l:=d.toList) (i:=i/k) (t:=d[i/k]!) (by rw[Array.getElem?_toList,getElem!_pos d _ hd,Array.getElem?_eq_getElem hd]) (i%k) (Nat.mod_lt _ k0)
 rw[Nat.div_add_mod' i k] at h1
 have hi2:i<(flatK enc k d).size:=by simpa using hi'
 rw[h1,Array.getElem?_toList,Array.getElem?_eq_getElem hi2,← getElem!_pos (flatK enc k d) i hi2,get_flatK _ _ _ _ hi']
 have hm:i%k<(enc d[i/k]!).length:=by rw[hk];exact Nat.mod_lt _ k0
 rw[getElem!_pos (enc d[i/k]!) (i%k) hm,List.getElem?_eq_getElem hm]
theorem holdsK_of {w:World} {g:Nat} {t:TypeId} {cur:Array Value} {n:Nat} {l:List α} (hk:∀ x,(enc x).length=k) (hW:Whole w g t cur) (hn:l.length=n) (ht:cur.toList.take (n*k)=l.flatMap enc):HoldsK enc k w g 0 l.toArray:=by
 intro j hj
 have hj':j<n*k:=by rw[← hn];simpa using hj
 have hf:=flatK_list hk l.toArray
 refine⟨?_,hW.frozen _⟩
 rw[Nat.zero_add,hW.cell,getElem!_pos _ j hj]
 have h1:cur.toList[j]?=(l.flatMap enc)[j]?:=by rw[← ht,List.getElem?_take,if_pos hj']
 rw[← Array.getElem?_toList,h1]
 have:l.flatMap enc=(flatK enc k l.toArray).toList:=by rw[hf]
 rw[this,Array.getElem?_toList,Array.getElem?_eq_getElem hj]
 rfl
theorem heap_mapBlock_other {w:World} {b i:Nat} {f:Array Value→Array Value} (h:i≠b):(mapBlock w b f).heap[i]?=w.heap[i]?:=by
 simp[mapBlock,Array.getElem?_modify,Ne.symm h]
theorem sorted_after {w:World} {g n:Nat} {d d':Array α} {os:Array Obj} {base:Nat} (hk:∀ x,(enc x).length=k) (h1:∀ x,∀ v∈enc x,v.oneCell'=true) (hH:HoldsK enc k w g 0 d) (hg:g<w.heap.size) (hs:d'.size=d.size) (hb:base≤g) {cap:Nat} (hc:d.size≤cap) (hm:d.size≤maxLen) :
 SliceAt (sortWorldK enc k w g 0 n d' os) (.slice (some ⟨g,0,none⟩) d.size cap) k d'.toList.length (d'.toList.flatMap enc)∧Below base w (sortWorldK enc k w g 0 n d' os):=by
 have hH':HoldsK enc k (sortWorldK enc k w g 0 n d' os) g 0 d':=holdsK_grow enc k _ _ _ _ _ (by simp[putRowK,hg]) (holdsK_putRowK enc k _ _ _ d d' (holdsK_ahead enc k _ _ _ _ _ hH) hs)
 constructor
 ·refine⟨flat_length hk _,by simpa[hs] using hm,fun u hu=>?_,.inr ⟨⟨g,0,none⟩,cap,by simp[hs],by simpa[hs] using hc,fun j u hj=>?_⟩⟩
  ·obtain⟨x,-,hx⟩:=List.mem_flatMap.1 hu
   exact h1 x u hx
  ·rw[← flatK_list hk d',Array.getElem?_toList] at hj
   obtain⟨hlt,he⟩:=Array.getElem?_eq_some_iff.1 hj
   have:=(hH' j hlt).1
   rw[getElem!_pos _ j hlt,he] at this
   rw[Addr.add_lit]
   exact this
 ·refine⟨rfl,rfl,rfl,by simp[sortWorldK,putRowK],fun i hi=>?_⟩
  have hi':i<(putRowK enc k (Sort.ahead w n) g 0 d').heap.size:=by simp[putRowK];omega
  unfold sortWorldK
  rw[heap_grow_old _ _ hi']
  exact heap_mapBlock_other (by omega)
end
theorem AEntry.len (x:AEntry):x.cells.length=7:=rfl
theorem AEntry.one (x:AEntry):∀ v∈x.cells,v.oneCell'=true:=fun v hv=>by simp[AEntry.cells] at hv;rcases hv with rfl | rfl | rfl | rfl | rfl | rfl | rfl<;>rfl
theorem sort_any (w:World) (v:Value) (l:List AEntry) (base:Nat) (h:w.ownsRow base 94 7 v l.length (l.flatMap AEntry.cells)) (hsz:l.length<4611686018427387904) (hb:base≤w.heap.size) :
 Calls Tryz.prog 125 #[v,.func (.func 126) #[] #[]] w fun e w'=>e=.returned (.tuple #[])∧∃ l':List AEntry,l'.Perm l∧l'.Pairwise (fun x y=>ltOf beforeI y x=false)∧SliceAt w' v 7 l'.length (l'.flatMap AEntry.cells)∧Below base w w':=by
 rcases Nat.eq_zero_or_pos l.length with h0 | h0
 ·have hl:l=[]:=List.eq_nil_of_length_eq_zero h0
  subst hl
  have hs:=SliceAt.of_own h (by simp)
  obtain⟨a,c,rfl,-⟩:=hs.form (by decide)
  refine(AnyF.slices_SortFunc_none sortE a c _ w).mono ?_
  rintro e w' ⟨rfl,rfl⟩
  exact⟨rfl,[],List.Perm.refl _,List.Pairwise.nil,hs,Below.refl _ _⟩
 ·obtain⟨g,cap,cur,rfl,hg,hW,hn,hcm,hcs,ht⟩:=own_open h h0
  have hH:=holdsK_of AEntry.len hW rfl ht
  have hc:=sortE_any g 0 cap l.toArray w hH hW.lt (by simpa using hsz)
  refine hc.mono ?_
  rintro e w' ⟨rfl,d',n,os,hp,hs,rfl⟩
  have hsz':d'.size=l.toArray.size:=hp.1.symm▸rfl
  have hA:=sorted_after (n:=n) (os:=os) (base:=base) AEntry.len AEntry.one hH hW.lt hsz' hg (cap:=cap) (by simpa using hn) (by simp;omega)
  refine⟨rfl,d'.toList,by simpa using perm_list hp,?_,hA.1,hA.2⟩
  exact sorted_list (by rw[hsz'];exact hs)
end Go.Proofs.YtdcofoaihmongaaGreat
namespace Go.Proofs.YtdcofoaihmongaaGreat
open Go Go.WideMaps Go.RowKit Go.Sort
theorem size113:(Tryz.prog.info? 113).map (·.size)=some 4:=by kernel_rfl
theorem info94:infoB (Tryz.prog.info? 94) 7 48=true:=by kernel_rfl
set_option maxRecDepth 100000 in
theorem eq_vec (x y:AVec) (w:World):(Op.equalIn 10000 107 (.agg #[.int .u32 x.allow,.int .u32 x.audit,.int .u32 x.dont]) (.agg #[.int .u32 y.allow,.int .u32 y.audit,.int .u32 y.dont])).run Tryz.prog w=.ok (([decide (x.allow=y.allow),decide (x.audit=y.audit),decide (x.dont=y.dont)]:List Bool).all id) w:=by
 have hf:(Tryz.prog.fieldsOf 107).toList.map (fun f=>(f.type,f.offset))=[(50,0),(50,1),(50,2)]:=by kernel_rfl
 rw[run_equalIn_agg w 9999 107 _ _ (by kernel_rfl) (by kernel_rfl)]
 refine eq_fields _ _ (by kernel_rfl) (by kernel_rfl) fun i f r hi hr=>?_
 have hm:=congrArg (fun z:List (Nat×Nat)=>z[i]?) hf
 simp only[List.getElem?_map,hi,Option.map_some] at hm
 have hlt:i<3:=(List.getElem?_eq_some_iff.1 hr).1
 match i,hlt with
 | 0,_ =>
  obtain⟨h1,h2⟩:=Prod.mk.inj (Option.some.inj hm)
  obtain rfl:=Option.some.inj hr
  rw[h1,h2]
  exact⟨.int .u32 x.allow,.int .u32 y.allow,by kernel_rfl,by kernel_rfl,equ9 _ _ _⟩
 | 1,_ =>
  obtain⟨h1,h2⟩:=Prod.mk.inj (Option.some.inj hm)
  obtain rfl:=Option.some.inj hr
  rw[h1,h2]
  exact⟨.int .u32 x.audit,.int .u32 y.audit,by kernel_rfl,by kernel_rfl,equ9 _ _ _⟩
 | 2,_ =>
  obtain⟨h1,h2⟩:=Prod.mk.inj (Option.some.inj hm)
  obtain rfl:=Option.some.inj hr
  rw[h1,h2]
  exact⟨.int .u32 x.dont,.int .u32 y.dont,by kernel_rfl,by kernel_rfl,equ9 _ _ _⟩
theorem eq_vec0 (v:AVec) (w:World):(Op.equalIn 10000 107 (.agg #[.int .u32 v.allow,.int .u32 v.audit,.int .u32 v.dont]) (.agg #[.int .u32 0,.int .u32 0,.int .u32 0])).run Tryz.prog w=.ok (decide (v=AVec.zero)) w:=by
 have h:=eq_vec v ⟨0,0,0⟩ w
 dsimp only at h
 rw[h]
 obtain⟨a,b,c⟩:=v
 simp[AVec.zero]
theorem own_step {w w':World} {base:Nat} {e:TypeId} {k n:Nat} {v:Value} {xs:List Value} (h:w.ownsRow base e k v n xs) (hb:∀ g,v.ownBlock=some g→w'.heap[g]?=w.heap[g]?):w'.ownsRow base e k v n xs :=
 ⟨h.1,h.2.imp id fun⟨g,cap,cur,hv,hg,hh,r⟩=>⟨g,cap,cur,hv,hg,(hb g (by rw[hv];rfl)).trans hh,r⟩⟩
theorem own_at {w:World} {base:Nat} {e:TypeId} {k n:Nat} {v:Value} {xs:List Value} (h:w.ownsRow base e k v n xs) {g:Nat} (hg:v.ownBlock=some g):base≤g∧∃ cur,w.heap[g]?=some (.cells cur e (0,0)):=by
 rcases h.2 with⟨rfl,_⟩ | ⟨g',cap,cur,rfl,hb,hh,_⟩
 ·simp[Value.ownBlock] at hg
 ·have e1:g'=g:=by simpa[Value.ownBlock] using hg
  subst e1
  exact⟨hb,cur,hh⟩
theorem row_new (w:World) (cs:List Value) (t:TypeId):∀ j u,cs[j]?=some u→(w.alloc (.cells cs.toArray t)).cell? ((⟨w.heap.size,0,none⟩:Addr).add j)=some u:=fun j u hj=>by
 rw[Addr.add_lit,Nat.zero_add]
 exact((Whole.new w t cs.toArray).cell j).trans (by simpa using hj)
theorem two_b6 {wn w5 w6:World} {o1 o2:Obj} (h5:Sto ((wn.alloc o1).alloc o2) w5 wn.heap.size) (h6:Sto w5 w6 (wn.heap.size+1)):Below wn.heap.size wn w6 :=
 ((((Below.refl _ wn).alloc (Nat.le_refl _) _).alloc (by simp) _).trans (h5.below (Nat.le_refl _))).trans (h6.below (by omega))
theorem Below.of_iter {w w':World} {r B:Nat} (h:w.grownBy w' (some r)) (hr:B≤r) (hB:B≤w.heap.size) (hs:w'.heap.size=w.heap.size):Below B w w' :=
 ⟨h.os,h.tape,h.output,by omega,fun k hk=>h.block k (by omega) (fun e=>by cases e;omega)⟩
def unkv:Value×Value→Key4×AVec
 | (.agg #[.int _ a,.int _ b,.int _ c,.int _ d],.agg #[.int _ x,.int _ y,.int _ z])=>(⟨a,b,c,d⟩,⟨x,y,z⟩)
 | _=>(⟨0,0,0,0⟩,⟨0,0,0⟩)
theorem unkv_kv (p:Key4×AVec):unkv (kvVal p)=p:=rfl
theorem kv_perm {a b:List (Key4×AVec)} (h:(a.map kvVal).Perm (b.map kvVal)):a.Perm b:=by
 have:=h.map unkv
 rw[List.map_map,List.map_map] at this
 have e:unkv∘kvVal=id:=funext unkv_kv
 simpa[e] using this
theorem outL_snoc (E:List (Key4×AVec)) (p:Key4×AVec):outL (E++[p])=outL E++(if nz p then [mkE p.1 p.2] else []):=by
 unfold outL
 rw[List.filter_append,List.map_append]
 congr 1
 cases h:nz p<;>simp[h]
theorem outL_perm {a b:List (Key4×AVec)} (h:a.Perm b):(outL a).Perm (outL b):=(h.filter nz).map _
theorem outL_len (E:List (Key4×AVec)):(outL E).length≤E.length:=by unfold outL;rw[List.length_map];exact List.length_filter_le _ _
theorem ecells_one (l:List AEntry):∀ u∈l.flatMap AEntry.cells,u.oneCell'=true:=by
 intro u hu
 obtain⟨x,-,hx⟩:=List.mem_flatMap.1 hu
 simp[AEntry.cells] at hx
 rcases hx with rfl | rfl | rfl | rfl | rfl | rfl | rfl<;>rfl
structure Gath (w wr:World) (mb r:Nat) (D E:List (Key4×AVec)) (left:List (Value×Value)) (u:Value):Prop where
 perm:(D.map kvVal).Perm (left++E.map kvVal)
 row:wr.ownsRow w.heap.size 94 7 u (outL E).length ((outL E).flatMap AEntry.cells)
 rng:Ranging wr Tryz.prog 113 mb r (D.map kvVal) left
 blw:Below w.heap.size w wr
 mlt:mb<w.heap.size
 rle:w.heap.size≤r
structure GMid (w wr:World) (mb r:Nat) (D E:List (Key4×AVec)) (p:Key4×AVec) (left:List (Value×Value)) (u:Value):Prop where
 perm:(D.map kvVal).Perm (left++(E++[p]).map kvVal)
 row:wr.ownsRow w.heap.size 94 7 u (outL E).length ((outL E).flatMap AEntry.cells)
 rng:Ranging wr Tryz.prog 113 mb r (D.map kvVal) left
 blw:Below w.heap.size w wr
 mlt:mb<w.heap.size
 rle:w.heap.size≤r
theorem Ranging.iter {P:Program} {k:TypeId} {w:World} {b r:Nat} {D left:List (Value×Value)} (h:Ranging w P k b r D left):∃ x y z t,w.heap[r]?=some (.mapIter x y z t):=by
 obtain⟨es,clock,since,seen,c0,_,_,_,_,hr,_⟩:=h
 exact⟨_,_,_,_,hr⟩
theorem Gath.small {w wr:World} {mb r:Nat} {D E:List (Key4×AVec)} {left:List (Value×Value)} {u:Value} (h:Gath w wr mb r D E left u):(outL E).length≤D.length:=by
 have:=h.perm.length_eq
 simp at this
 have:=outL_len E
 omega
theorem GMid.small {w wr:World} {mb r:Nat} {D E:List (Key4×AVec)} {p:Key4×AVec} {left:List (Value×Value)} {u:Value} (h:GMid w wr mb r D E p left u):(outL E).length+1≤D.length:=by
 have:=h.perm.length_eq
 simp at this
 have:=outL_len E
 omega
theorem Gath.next {w wr wn:World} {mb r:Nat} {D E:List (Key4×AVec)} {p:Key4×AVec} {left left':List (Value×Value)} {u:Value} (h:Gath w wr mb r D E left u) (hp:left.Perm (kvVal p::left'))
 (hr:Ranging wn Tryz.prog 113 mb r (D.map kvVal) left') (hg:wr.grownBy wn (some r)) (hs:wn.heap.size=wr.heap.size):GMid w wn mb r D E p left' u:=by
 refine⟨?_,own_step h.row fun g hg'=>?_,hr,h.blw.trans (Below.of_iter hg h.rle h.blw.size hs),h.mlt,h.rle⟩
 ·refine h.perm.trans ((hp.append_right _).trans ?_)
  rw[List.map_append,List.map_singleton,← List.append_assoc]
  exact(List.perm_append_singleton _ _).symm
 ·obtain⟨_,cur,hh⟩:=own_at h.row hg'
  refine hg.block g (Array.getElem?_eq_some_iff.1 hh).1 (fun e=>?_)
  cases e
  obtain⟨x,y,z,t,hi⟩:=h.rng.iter
  rw[hi] at hh
  cases hh
theorem GMid.own {w wn w6:World} {mb r:Nat} {D E:List (Key4×AVec)} {p:Key4×AVec} {left:List (Value×Value)} {u:Value} (h:GMid w wn mb r D E p left u) (hb:Below wn.heap.size wn w6):w6.ownsRow w.heap.size 94 7 u (outL E).length ((outL E).flatMap AEntry.cells):=own_keep hb h.row (Nat.le_refl _)
theorem GMid.skip {w wn w6:World} {mb r:Nat} {D E:List (Key4×AVec)} {p:Key4×AVec} {left:List (Value×Value)} {u:Value} (h:GMid w wn mb r D E p left u) (hz:nz p=false) (hb:Below wn.heap.size wn w6):Gath w w6 mb r D (E++[p]) left u :=
 ⟨h.perm,by rw[outL_snoc,hz];simpa using h.own hb,h.rng.kept (hb.block _ h.rng.map.lt) (hb.block _ h.rng.lt),h.blw.trans (hb.mono h.blw.size),h.mlt,h.rle⟩
theorem GMid.more {w wn w6 w7:World} {mb r:Nat} {D E:List (Key4×AVec)} {p:Key4×AVec} {left:List (Value×Value)} {u u':Value} {o:Obj} (h:GMid w wn mb r D E p left u) (hz:nz p=true) (hb:Below wn.heap.size wn w6)
 (hown:w7.ownsRow w.heap.size 94 7 u' ((outL E).length+1) ((outL E).flatMap AEntry.cells++AEntry.cells (mkE p.1 p.2))) (hg:(w6.alloc o).grownBy w7 u.ownBlock):Gath w w7 mb r D (E++[p]) left u':=by
 have hrow:=h.own hb
 have hb1:=hb.alloc (Nat.le_trans (Nat.le_refl _) hb.size) o
 have hR:=h.rng.kept (hb1.block _ h.rng.map.lt) (hb1.block _ h.rng.lt)
 have hbw:Below w.heap.size w (w6.alloc o):=h.blw.trans (hb1.mono h.blw.size)
 have hne:∀ g,u.ownBlock=some g→w.heap.size≤g∧g≠r:=fun g hg'=>by
  obtain⟨h1,cur,hh⟩:=own_at (own_alloc hrow o) hg'
  refine⟨h1,fun e=>?_⟩
  subst e
  obtain⟨x,y,z,t,hi⟩:=hR.iter
  rw[hi] at hh
  cases hh
 refine⟨h.perm,?_,hR.kept (hg.block _ hR.map.lt fun e=>?_) (hg.block _ hR.lt fun e=>(hne _ e.symm).2 rfl),hbw.grown hg (by have:=hb.size;have:=h.blw.size;simp;omega) (fun q hq=>(hne q hq).1),h.mlt,h.rle⟩
 ·rw[outL_snoc,hz]
  simpa using hown
 ·have:=(hne _ e.symm).1
  have:=h.mlt
  omega
set_option maxRecDepth 100000 in
set_option maxHeartbeats 8000000 in
theorem entries_any (w:World) (mb:Nat) (D:List (Key4×AVec)) (h:MapAt w Tryz.prog 113 mb (D.map kvVal)) (hD:D.length≤100000000) :
 Calls Tryz.prog 61 #[.map (some mb)] w fun e w'=>∃ (v:Value) (l':List AEntry),e=.returned v∧l'.Perm (outL D)∧l'.Pairwise (fun x y=>ltOf beforeI y x=false)∧SliceAt w' v 7 l'.length (l'.flatMap AEntry.cells)∧Below w.heap.size w w':=by
 obtain⟨i0,z,hi,hz0,hz1,hz2,hzs⟩:=infoOf info94
 have HM0:=Lib.hid h
 clear h
 go_enter Tryz.func61,Tryz.ntmps61
 go_wp2_with (first | (refine wpList_range_at _ rfl (.tmp 6) 105 rfl 113 107 Tryz.underlying105 mb (D.map kvVal) rfl HM0.out ?_;intro w3 hr3 hg3 hs3;have HR3:=Lib.hid hr3;have HG3:=Lib.hid hg3;have HS3:=Lib.hid hs3;clear hr3 hg3 hs3))
 have HG0:=Lib.hid (show Gath w w3 mb w.heap.size D [] (D.map kvVal) (.slice none 0 0) from⟨by simp,World.ownsRow_nil _ _ _ _,HR3.out,⟨HG3.out.os,HG3.out.tape,HG3.out.output,by have:=HS3.out;omega,fun k hk=>HG3.out.block k hk (fun e=>by cases e)⟩,HM0.out.lt,Nat.le_refl _⟩)
 clear HR3 HG3 HS3 HM0
 simp only[Act.put,List.setIfInBounds_toArray,List.set_cons_zero,List.set_cons_succ]
 go_loopw [3] (fun u wr=>∃ E left,Gath w wr mb w.heap.size D E left u) (fun _ wr=>wr.rangeLeft mb w.heap.size)
 case atStart=>exact⟨_,_,HG0.out⟩
 case round =>
  clear HG0
  obtain⟨E,left,hG⟩:=hrel
  have hlen:=hG.rng.left_eq
  have HLE:=Lib.hid hlen
  have HG:=Lib.hid hG
  clear hlen
  rcases hG.rng.next 0 with⟨h0,hrun⟩ | ⟨key,val,left',wn,hp,hrun,hrg,hgr,hsz,hen⟩
  ·have HE0:=Lib.hid h0
   clear h0 hG
   go_wp2_with (first | (go_at_call 125;go_must (refine(sort_any _ _ (outL E) w.heap.size HG.out.row (by have:=HG.out.small;omega) HG.out.blw.size).mono ?_;rintro e w8 ⟨rfl,l',hp8,hs8,hsl8,hb8⟩;have HQ:=Lib.hid (And.intro hp8 (And.intro hs8 (And.intro hsl8 hb8)));clear hp8 hs8 hsl8 hb8)))
   go_ret
   obtain⟨hp8,hs8,hsl8,hb8⟩:=HQ.out
   refine⟨_,l',rfl,hp8.trans (outL_perm (kv_perm ?_)),hs8,hsl8,HG.out.blw.trans hb8⟩
   have:=HG.out.perm
   rw[HE0.out] at this
   exact(by simpa using this.symm)
  ·have hmem:(key,val)∈D.map kvVal:=hG.perm.mem_iff.2 (List.mem_append_left _ (hp.mem_iff.2 (by simp)))
   obtain⟨⟨k,v⟩,-,he⟩:=List.mem_map.1 hmem
   obtain⟨rfl,rfl⟩:.agg #[.int .i64 k.src,.int .i64 k.tgt,.int .i64 k.cls,.int .i64 k.cond]=key∧.agg #[.int .u32 v.allow,.int .u32 v.audit,.int .u32 v.dont]=val:=Prod.mk.inj he
   have HM:=Lib.hid (hG.next (p:=(k,v)) hp hrg hgr hsz)
   have HLL:=Lib.hid (And.intro hp hsz)
   clear hmem he hp hrg hgr hsz hG
   by_cases hv:v=AVec.zero
   ·have HNZ:=Lib.hid (show nz (k,v)=false by simp[nz,hv])
    have q:∀ W:World,(Op.equalIn 10000 107 (.agg #[.int .u32 v.allow,.int .u32 v.audit,.int .u32 v.dont]) (.agg #[.int .u32 0,.int .u32 0,.int .u32 0])).run Tryz.prog W=.ok true W:=fun W=>by rw[eq_vec0];simp[hv]
    have HVZ:=Lib.hid hv
    clear hv
    go_wp2_with (first | (refine wpList_store_blk rfl 113 _ _ rfl wn.heap.size 0 (.agg #[.int .i64 k.src,.int .i64 k.tgt,.int .i64 k.cls,.int .i64 k.cond]) rfl rfl 113 _ ((Whole.new wn 113 _).alloc _) (by simp[Value.cells]) size113 rfl ?_;intro w5 S5 W5;rw[splice_all _ _ (by rfl)] at W5;have HS5:=Lib.hid S5;have HK5:=Lib.hid (show Whole w5 wn.heap.size 113 #[.int .i64 k.src,.int .i64 k.tgt,.int .i64 k.cls,.int .i64 k.cond] from W5);clear S5 W5) | (refine wpList_store_blk rfl 107 _ _ rfl (wn.heap.size+1) 0 (.agg #[.int .u32 v.allow,.int .u32 v.audit,.int .u32 v.dont]) rfl rfl 107 _ (HS5.out.whole (whole_two wn _ _ _) (by omega)) (by simp[Value.cells]) size107 rfl ?_;intro w6 S6 W6;rw[splice_all _ _ (by rfl)] at W6;have HS6:=Lib.hid S6;have HV6:=Lib.hid (show Whole w6 (wn.heap.size+1) 107 #[.int .u32 v.allow,.int .u32 v.audit,.int .u32 v.dont] from W6);have HB6:=Lib.hid (two_b6 HS5.out HS6.out);clear S6 W6;have a0:w6.cell? ⟨wn.heap.size,0,none⟩=some (.int .i64 k.src):=(HS6.out.whole HK5.out (by omega)).cell 0;have a1:w6.cell? ⟨wn.heap.size,1,none⟩=some (.int .i64 k.tgt):=(HS6.out.whole HK5.out (by omega)).cell 1;have a2:w6.cell? ⟨wn.heap.size,2,none⟩=some (.int .i64 k.cls):=(HS6.out.whole HK5.out (by omega)).cell 2;have a3:w6.cell? ⟨wn.heap.size,3,none⟩=some (.int .i64 k.cond):=(HS6.out.whole HK5.out (by omega)).cell 3;have b0:w6.cell? ⟨wn.heap.size+1,0,none⟩=some (.int .u32 v.allow):=HV6.out.cell 0;have b1:w6.cell? ⟨wn.heap.size+1,1,none⟩=some (.int .u32 v.audit):=HV6.out.cell 1;have b2:w6.cell? ⟨wn.heap.size+1,2,none⟩=some (.int .u32 v.dont):=HV6.out.cell 2))
    go_roundw
    case rel=>exact⟨E++[(k,v)],left',HM.out.skip HNZ.out HB6.out⟩
    case measure =>
     have h1:=(HM.out.skip HNZ.out HB6.out).rng.left_eq
     have h2:=HLL.out.1.length_eq
     have h3:=HLE.out
     simp only[List.length_cons] at h2
     omega
   ·have HNZ:=Lib.hid (show nz (k,v)=true by simp[nz,hv])
    have q:∀ W:World,(Op.equalIn 10000 107 (.agg #[.int .u32 v.allow,.int .u32 v.audit,.int .u32 v.dont]) (.agg #[.int .u32 0,.int .u32 0,.int .u32 0])).run Tryz.prog W=.ok false W:=fun W=>by rw[eq_vec0];simp[hv]
    have HVZ:=Lib.hid hv
    clear hv
    have hsm:=HM.out.small
    go_wp2_with (first | (refine wpList_store_blk rfl 113 _ _ rfl wn.heap.size 0 (.agg #[.int .i64 k.src,.int .i64 k.tgt,.int .i64 k.cls,.int .i64 k.cond]) rfl rfl 113 _ ((Whole.new wn 113 _).alloc _) (by simp[Value.cells]) size113 rfl ?_;intro w5 S5 W5;rw[splice_all _ _ (by rfl)] at W5;have HS5:=Lib.hid S5;have HK5:=Lib.hid (show Whole w5 wn.heap.size 113 #[.int .i64 k.src,.int .i64 k.tgt,.int .i64 k.cls,.int .i64 k.cond] from W5);clear S5 W5) | (refine wpList_store_blk rfl 107 _ _ rfl (wn.heap.size+1) 0 (.agg #[.int .u32 v.allow,.int .u32 v.audit,.int .u32 v.dont]) rfl rfl 107 _ (HS5.out.whole (whole_two wn _ _ _) (by omega)) (by simp[Value.cells]) size107 rfl ?_;intro w6 S6 W6;rw[splice_all _ _ (by rfl)] at W6;have HS6:=Lib.hid S6;have HV6:=Lib.hid (show Whole w6 (wn.heap.size+1) 107 #[.int .u32 v.allow,.int .u32 v.audit,.int .u32 v.dont] from W6);have HB6:=Lib.hid (two_b6 HS5.out HS6.out);clear S6 W6;have a0:w6.cell? ⟨wn.heap.size,0,none⟩=some (.int .i64 k.src):=(HS6.out.whole HK5.out (by omega)).cell 0;have a1:w6.cell? ⟨wn.heap.size,1,none⟩=some (.int .i64 k.tgt):=(HS6.out.whole HK5.out (by omega)).cell 1;have a2:w6.cell? ⟨wn.heap.size,2,none⟩=some (.int .i64 k.cls):=(HS6.out.whole HK5.out (by omega)).cell 2;have a3:w6.cell? ⟨wn.heap.size,3,none⟩=some (.int .i64 k.cond):=(HS6.out.whole HK5.out (by omega)).cell 3;have b0:w6.cell? ⟨wn.heap.size+1,0,none⟩=some (.int .u32 v.allow):=HV6.out.cell 0;have b1:w6.cell? ⟨wn.heap.size+1,1,none⟩=some (.int .u32 v.audit):=HV6.out.cell 1;have b2:w6.cell? ⟨wn.heap.size+1,2,none⟩=some (.int .u32 v.dont):=HV6.out.cell 2) | (have hZ:=HNZ;clear hZ;at_builtin;go_must (refine wpList_append_own _ rfl _ _ 47 rfl w.heap.size 94 i0 z 7 48 Tryz.underlying47 hi hz0 hz1 hz2 hzs (by decide) _ _ _ rfl (own_alloc (HM.out.own HB6.out) _) ⟨w6.heap.size,0,none⟩ 1 1 [.int .i64 k.src,.int .i64 k.tgt,.int .i64 k.cls,.int .i64 k.cond,.int .u32 v.allow,.int .u32 v.audit,.int .u32 v.dont] rfl rfl (row_new _ _ _) ?c2 ?c3 ?c4 ?c5 ?_)))
    case c2=>simp[Value.oneCell']
    case c3=>unfold maxLen;omega
    case c4=>omega
    case c5=>have:=HM.out.blw.size;have:=HB6.out.size;simp;omega
    intro v' w9 hown' hgrow hnil
    have HN9:=Lib.hid (HM.out.more HNZ.out HB6.out hown' hgrow)
    clear hgrow hnil hown' a0 a1 a2 a3 b0 b1 b2
    go_wp2
    go_roundw
    case rel=>exact⟨E++[(k,v)],left',HN9.out⟩
    case measure =>
     have h1:=HN9.out.rng.left_eq
     have h2:=HLL.out.1.length_eq
     have h3:=HLE.out
     simp only[List.length_cons] at h2
     omega
end Go.Proofs.YtdcofoaihmongaaGreat
namespace Go.Proofs.YtdcofoaihmongaaGreat
open Go Go.WideMaps Go.RowKit Go.Sort
def kval (k:Key4):Value:=.agg #[.int .i64 k.src,.int .i64 k.tgt,.int .i64 k.cls,.int .i64 k.cond]
def vval (v:AVec):Value:=.agg #[.int .u32 v.allow,.int .u32 v.audit,.int .u32 v.dont]
theorem kval_inj {a b:Key4} (h:kval a=kval b):a=b:=by
 cases a;cases b;simpa[kval] using h
theorem i64_wf {a:Int} (h:I64 a):(Lit.int .i64 a).wf=true:=by
 have h1:(-9223372036854775808≤a∧a<9223372036854775808):=h
 simp[Lit.wf,IntKind.min,IntKind.max,IntKind.signed,IntKind.bits]
 omega
theorem key_ok {k:Key4} (h:k.Ok):∃ l,keyOf Tryz.prog 113 (kval k)=some l:=key76 (i64_wf h.src) (i64_wf h.tgt) (i64_wf h.cls) (i64_wf h.cond)
theorem zero73 (w:World):(zeroValue 107).run Tryz.prog w=.ok (vval AVec.zero) w:=by kernel_rfl
structure MapK (w:World) (mb n:Nat) (f:Key4→AVec):Prop where
 ex:∃ D:List (Key4×AVec),MapAt w Tryz.prog 113 mb (D.map kvVal)∧(∀ p∈D,p.2=f p.1∧p.1.Ok∧p.2.Ok)∧(∀ k,f k≠AVec.zero→k∈D.map Prod.fst)∧D.length≤n
theorem MapK.lt {w:World} {mb n:Nat} {f:Key4→AVec} (h:MapK w mb n f):mb<w.heap.size:=by
 obtain⟨D,h1,_⟩:=h.ex
 exact h1.lt
theorem MapK.kept {w w':World} {mb n:Nat} {f:Key4→AVec} (h:MapK w mb n f) (hb:w'.heap[mb]?=w.heap[mb]?):MapK w' mb n f:=by
 obtain⟨D,h1,h2⟩:=h.ex
 exact⟨D,h1.kept hb,h2⟩
theorem MapK.made (w:World):MapK (w.alloc (.map #[] 0)) w.heap.size 0 (fun _=>AVec.zero) :=
 ⟨[],MapAt.made w _ _,by simp,by simp,Nat.le_refl _⟩
theorem MapK.val {w:World} {mb n:Nat} {f:Key4→AVec} (h:MapK w mb n f) (k:Key4):(f k).Ok:=by
 obtain⟨D,h1,h2,h3,h4⟩:=h.ex
 by_cases hz:f k=AVec.zero
 ·rw[hz];exact AVec.zero_ok
 ·obtain⟨p,hp,rfl⟩:=List.mem_map.1 (h3 _ hz)
  have:=h2 p hp
  rw[← this.1]
  exact this.2.2
theorem MapK.look {w:World} {mb n:Nat} {f:Key4→AVec} (h:MapK w mb n f) {k:Key4} (hk:k.Ok):(Instr.lookup 105 (.map (some mb)) (kval k) false).run Tryz.prog w=.ok (vval (f k)) w:=by
 obtain⟨D,h1,h2,h3,h4⟩:=h.ex
 obtain⟨l,hl⟩:=key_ok hk
 by_cases hm:k∈D.map Prod.fst
 ·obtain⟨p,hp,rfl⟩:=List.mem_map.1 hm
  have:=h1.look_some false keyed76 Tryz.underlying105 hl (val:=vval p.2) (List.mem_map.2 ⟨p,hp,rfl⟩)
  rw[← (h2 p hp).1]
  exact this
 ·have hz:f k=AVec.zero:=Classical.byContradiction fun h=>hm (h3 k h)
  rw[hz]
  refine h1.look_none false keyed76 Tryz.underlying105 (zero73 w) hl ?_
  intro p hp e
  obtain⟨q,hq,rfl⟩:=List.mem_map.1 hp
  exact hm (List.mem_map.2 ⟨q,hq,kval_inj e⟩)
theorem perm_out {D:List (Key4×AVec)} {p:Key4×AVec} (h:p∈D):∃ R,D.Perm (p::R):=by
 obtain⟨s,t,rfl⟩:=List.append_of_mem h
 exact⟨s++t,List.perm_middle⟩
theorem MapK.put {w:World} {mb n:Nat} {f:Key4→AVec} (h:MapK w mb n f) {k:Key4} (hk:k.Ok) {v:AVec} (hv:v.Ok) :
 ∃ w',(Instr.mapUpdate 105 (.map (some mb)) (kval k) (vval v)).run Tryz.prog w=.ok () w'∧(MapK w' mb (n+1) (fun x=>if x=k then v else f x)∧w.grownBy w' (some mb)∧w'.heap.size=w.heap.size):=by
 obtain⟨D,h1,h2,h3,h4⟩:=h.ex
 obtain⟨l,hl⟩:=key_ok hk
 by_cases hm:k∈D.map Prod.fst
 ·obtain⟨p,hp,rfl⟩:=List.mem_map.1 hm
  obtain⟨R,hR⟩:=perm_out hp
  have hnd:(D.map Prod.fst).Nodup:=by
   have:=h1.keys
   rw[List.map_map] at this
   have e:(Prod.fst∘kvVal)=kval∘Prod.fst:=rfl
   rw[e,← List.map_map] at this
   exact List.Pairwise.of_map kval (fun a b hab e=>hab (congrArg kval e)) this
  have hnd2:=((hR.map Prod.fst).nodup_iff.1 hnd)
  simp only[List.map_cons,List.nodup_cons] at hnd2
  obtain⟨w',hw,hM,hg,hs⟩:=h1.put_old (key:=kval p.1) (val:=vval v) (old:=vval p.2) (R:=R.map kvVal) keyed76 Tryz.underlying105 hl (by simpa[kvVal,kval,vval] using hR.map kvVal)
  refine⟨w',hw,⟨(p.1,v)::R,hM,?_,?_,?_⟩,hg,hs⟩
  ·intro q hq
   rcases List.mem_cons.1 hq with rfl | hq
   ·exact⟨by simp,hk,hv⟩
   ·have hne:q.1≠p.1:=fun e=>hnd2.1 (e▸List.mem_map.2 ⟨q,hq,rfl⟩)
    simp only[if_neg hne]
    exact h2 q (hR.mem_iff.2 (List.mem_cons_of_mem _ hq))
  ·intro x hx
   by_cases hxk:x=p.1
   ·subst hxk;simp
   ·simp only[if_neg hxk] at hx
    have:=(hR.map Prod.fst).mem_iff.1 (h3 x hx)
    simpa using this
  ·have:=hR.length_eq
   simp at this ⊢
   omega
 ·obtain⟨w',hw,hM,hg,hs⟩:=h1.put_new (key:=kval k) (val:=vval v) keyed76 Tryz.underlying105 hl (by
   intro p hp e
   obtain⟨q,hq,rfl⟩:=List.mem_map.1 hp
   exact hm (List.mem_map.2 ⟨q,hq,kval_inj e⟩))
  refine⟨w',hw,⟨(k,v)::D,hM,?_,?_,by simp;omega⟩,hg,hs⟩
  ·intro q hq
   rcases List.mem_cons.1 hq with rfl | hq
   ·exact⟨by simp,hk,hv⟩
   ·have hne:q.1≠k:=fun e=>hm (e▸List.mem_map.2 ⟨q,hq,rfl⟩)
    simp only[if_neg hne]
    exact h2 q hq
  ·intro x hx
   by_cases hxk:x=k
   ·subst hxk;simp
   ·simp only[if_neg hxk] at hx
    exact List.mem_cons_of_mem _ (h3 x hx)
def AEntry.Ok (e:AEntry):Prop:=e.key.Ok∧e.vecs.Ok
theorem MapK.nodup {D:List (Key4×AVec)} {w:World} {mb:Nat} (h1:MapAt w Tryz.prog 113 mb (D.map kvVal)):(D.map Prod.fst).Nodup:=by
 have:=h1.keys
 rw[List.map_map] at this
 have e:(Prod.fst∘kvVal)=kval∘Prod.fst:=rfl
 rw[e,← List.map_map] at this
 exact List.Pairwise.of_map kval (fun a b hab e=>hab (congrArg kval e)) this
end Go.Proofs.YtdcofoaihmongaaGreat
namespace Go.Proofs.YtdcofoaihmongaaGreat
open Go Go.WideMaps Go.RowKit Go.Sort
def kvs (l:List AEntry):List (Key4×AVec):=l.map fun e=>(e.key,e.vecs)
def accE (l:List AEntry):Key4→AVec:=accum (kvs l)
structure Merging (w wr:World) (mb i:Nat) (l:List AEntry):Prop where
 map:MapK wr mb i (accE (l.take i))
 blw:Below w.heap.size w wr
 new:w.heap.size≤mb
theorem Merging.start (w w':World) (l:List AEntry) (mb:Nat) (hm:MapK w' mb 0 (fun _=>AVec.zero)) (hb:Below w.heap.size w w') (h:w.heap.size≤mb):Merging w w' mb 0 l:=⟨by simpa[accE,kvs,accum_nil] using hm,hb,h⟩
theorem entries_canon (w:World) (mb n:Nat) (f:Key4→AVec) (h:MapK w mb n f) (hn:n≤100000000) :
 Calls Tryz.prog 61 #[.map (some mb)] w fun e w'=>∃ v l,e=.returned v∧Canon f l∧(∀ x∈l,x.Ok)∧l.length≤n∧SliceAt w' v 7 l.length (l.flatMap AEntry.cells)∧Below w.heap.size w w':=by
 obtain⟨D,h1,h2,h3,h4⟩:=h.ex
 refine(entries_any w mb D h1 (by omega)).mono ?_
 rintro e w' ⟨v,l',rfl,hp,hs,hsl,hb⟩
 refine⟨v,l',rfl,canon_sorted (MapK.nodup h1) (fun p hp=>(h2 p hp).1) h3 hp hs,fun x hx=>?_,?_,hsl,hb⟩
 ·have hx:=hp.mem_iff.1 hx
  unfold outL at hx
  obtain⟨p,hp,rfl⟩:=List.mem_map.1 hx
  have:=h2 p (List.mem_filter.1 hp).1
  exact⟨this.2.1,this.2.2⟩
 ·have:=hp.length_eq
  have:=outL_len D
  omega
theorem grown_below {w w':World} {B:Nat} (hg:w.grownBy w' none) (hB:B≤w.heap.size):Below B w w':=⟨hg.os,hg.tape,hg.output,hg.size,fun k hk=>hg.block k (by omega) (fun e=>by cases e)⟩
end Go.Proofs.YtdcofoaihmongaaGreat

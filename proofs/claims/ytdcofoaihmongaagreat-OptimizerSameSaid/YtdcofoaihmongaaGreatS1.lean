import Derived.DeepKeys4
import Derived.Laws.Entries
import Derived.Laws.MakeOwn
import Derived.Shelf.SlSortCmp.Insertion
import Derived.Sort.LotA
import Derived.WideKeyMaps
import Derived.WideKeyPair
import Derived.Test.YtdcofoaihmongaaGreatS0
open Array renaming getD_eq_getD_getElem?→au8
open Bool renaming and_eq_true→au1
open Go renaming wpList_nil→auZ
open Go.RowKit renaming Below→auT
open Go.Sem renaming run_bind→auY
open List renaming mem_cons→auN,mem_cons_of_mem→auO,mem_map→auP,mem_cons_self→auR,mem_of_getElem?→auS,getElem?_eq_some_iff→auV,getElem?_map→auW,mem_singleton→auX,all_eq_true→au0,length_take→au2,length_map→au5,getElem?_append_left→au6,getElem?_eq_getElem→au7,mem_append→au9
open Nat renaming le_trans→auU,mul_le_mul_right→au3,eq_of_beq_eq_true→au4
open Option.some renaming inj→auQ
set_option maxRecDepth 100000
set_option maxHeartbeats 8000000
namespace Go.Proofs.YtdcofoaihmongaaGreat
open Go Go.RowKit Go.WideMaps
theorem VL:laidOutB Tryz.prog=true:=by kernel_rfl
theorem ae6:KeyLaw Tryz.prog 113:=deep_law_laid VL (m:=5) (by decide) (of_decide_eq_true (by kernel_rfl)) (by kernel_rfl) (by kernel_rfl)
theorem AJ:Maps.Keyed Tryz.prog 113:=Maps.Keyed.of_law ae6
end Go.Proofs.YtdcofoaihmongaaGreat
namespace Go.Proofs.YtdcofoaihmongaaGreat
open Go Go.WideMaps Go.RowKit
theorem sizeT:∃ m,Tryz.prog.types.size=m+1:=⟨Tryz.prog.types.size-1,by have:0<Tryz.prog.types.size:=of_decide_eq_true (by kernel_rfl);omega⟩
theorem aio(m:Nat){a:Int}(wa:(Lit.int .i64 a).wf=true):Tryz.prog.keyLits (m+1) 3 [.int .i64 a]=some [.int .i64 a]:=by
 unfold Program.keyLits;simp[Tryz.underlying3,wa]
theorem afd{a b c d:Int}(wa:(Lit.int .i64 a).wf=true)(wb:(Lit.int .i64 b).wf=true)(wc:(Lit.int .i64 c).wf=true)(wd:(Lit.int .i64 d).wf=true):
 ∃ l,keyOf Tryz.prog 113 (.agg #[.int .i64 a,.int .i64 b,.int .i64 c,.int .i64 d])=some l:=by
 obtain⟨m,hm⟩:=sizeT;have hu:Tryz.prog.underlying 113=some (.struct (Tryz.prog.fieldsOf 113)):=by kernel_rfl
 have hk:Tryz.prog.keyType 113=true:=by kernel_rfl
 have hc:Tryz.prog.cellsOf 113=4:=by kernel_rfl
 have hc3:Tryz.prog.cellsOf 3=1:=by kernel_rfl
 have hf:(Tryz.prog.fieldsOf 113).toList.map (fun f=>(f.type,f.offset))=[(3,0),(3,1),(3,2),(3,3)]:=by kernel_rfl
 have hn:(Tryz.prog.fieldsOf 113).all (fun f=>f.name != "_")=true:=by kernel_rfl
 have hform:(Value.agg #[.int .i64 a,.int .i64 b,.int .i64 c,.int .i64 d]).formed Tryz.prog 113=true:=by kernel_rfl
 unfold keyOf;simp only[hu];rw[if_pos (by rw[hk,hform];rfl),hm];unfold Program.keyLits;simp only[hu,Value.cells];rw[if_pos ⟨by rw[hc];rfl,hn⟩];generalize (Tryz.prog.fieldsOf 113).toList=fs at hf
 obtain⟨f0,f1,f2,f3,rfl⟩:∃ f0 f1 f2 f3,fs=[f0,f1,f2,f3]:=by
  rcases fs with _|⟨f0,_|⟨f1,_|⟨f2,_|⟨f3,_|⟨f4,r⟩⟩⟩⟩⟩
  ·simp at hf
  ·simp at hf
  ·simp at hf
  ·simp at hf
  ·exact⟨_,_,_,_,rfl⟩
  ·simp at hf
 simp only[List.map_cons,List.map_nil,List.cons.injEq,Prod.mk.injEq,and_true] at hf;obtain⟨⟨t0,o0⟩,⟨t1,o1⟩,⟨t2,o2⟩,⟨t3,o3⟩⟩:=hf;obtain⟨m',rfl⟩:∃ m',m=m'+1:=⟨m-1,by have h:1<Tryz.prog.types.size:=of_decide_eq_true (by kernel_rfl);omega⟩;simp[List.mapM_cons,t0,o0,t1,o1,t2,o2,t3,o3,hc3,aio,wa,wb,wc,wd]
end Go.Proofs.YtdcofoaihmongaaGreat
namespace Go.Proofs.YtdcofoaihmongaaGreat
open Go Go.Sort
instance:Inhabited bX:=⟨⟨0,0,0,0,0,0,0⟩⟩
theorem xR(x y:bX):ltOf Bg x y=decide (x.src<y.src∨x.src=y.src∧(x.tgt<y.tgt∨x.tgt=y.tgt∧(x.cls<y.cls∨x.cls=y.cls∧x.cond<y.cond))):=by
 unfold ltOf Bg;simp only[orI,SZ];by_cases h0:x.src=y.src
 ·by_cases h1:x.tgt=y.tgt
  ·by_cases h2:x.cls=y.cls
   ·by_cases h3:x.cond=y.cond
    ·simp[h0,h1,h2,h3]
    ·simp[h0,h1,h2,h3,vX]
   ·simp[h0,h1,h2,vX]
  ·simp[h0,h1,vX]
 ·simp[h0,vX]
theorem BP:SWO (ltOf Bg) where
 irrefl x:=by rw[xR];simp
 trans x y z h1 h2:=by rw[xR] at *;simp at *;omega
 ntrans x y z h1 h2:=by rw[xR] at *;simp at *;omega
theorem BS{α:Type}(lt:α→α→Prop)(hi:∀ x,¬ lt x x)(ht:∀ x y z,lt x y→lt y z→lt x z):∀ {a b:List α},a.Pairwise lt→b.Pairwise lt→(∀ x,x∈a↔x∈b)→a=b
 | [],[],_,_,_=>rfl
 | [],y::b,_,_,h=>by have:=(h y).2 (by simp);cases this
 | x::a,[],_,_,h=>by have:=(h x).1 (by simp);cases this
 | x::a,y::b,ha,hb,h=>by
  have ha':=List.pairwise_cons.1 ha;have hb':=List.pairwise_cons.1 hb
  have hxy:x=y:=by
   rcases auN.1 ((h x).1 (by simp)) with e|e
   ·exact e
   ·rcases auN.1 ((h y).2 (by simp)) with e'|e'
    ·exact e'.symm
    ·exact absurd (ht _ _ _ (ha'.1 _ e') (hb'.1 _ e)) (hi _)
  subst hxy;congr 1;refine BS lt hi ht ha'.2 hb'.2 fun z=>⟨fun hz=>?_,fun hz=>?_⟩
  ·rcases auN.1 ((h z).1 (auO _ hz)) with e|e
   ·subst e;exact absurd (ha'.1 _ hz) (hi _)
   ·exact e
  ·rcases auN.1 ((h z).2 (auO _ hz)) with e|e
   ·subst e;exact absurd (hb'.1 _ hz) (hi _)
   ·exact e
structure cH where
 src:Int
 tgt:Int
 cls:Int
 cond:Int
deriving DecidableEq
def bX.key(e:bX):cH:=⟨e.src,e.tgt,e.cls,e.cond⟩
def bX.abu(e:bX):bA:=⟨e.allow,e.kR,e.dont⟩
def bA.zero:bA:=⟨0,0,0⟩
instance:DecidableEq bA:=fun a b=>decidable_of_iff (a.allow=b.allow∧a.kR=b.kR∧a.dont=b.dont) (by cases a;cases b;simp)
def mkE(k:cH)(v:bA):bX:=⟨k.src,k.tgt,k.cls,k.cond,v.allow,v.kR,v.dont⟩
def iX(a:Int):Prop:=-9223372036854775808≤a∧a<9223372036854775808
def QF(a:Int):Prop:=0≤a∧a<4294967296
structure cH.Ok (k:cH):Prop where
 src:iX k.src
 tgt:iX k.tgt
 cls:iX k.cls
 cond:iX k.cond
structure bA.Ok (v:bA):Prop where
 allow:QF v.allow
 kR:QF v.kR
 dont:QF v.dont
def XO(x y:bX):Prop:=ltOf Bg x y=true
theorem XO.irrefl(x:bX):¬ XO x x:=by unfold XO;rw[BP.irrefl];simp
theorem XO.trans(x y z:bX):XO x y→XO y z→XO x z:=BP.trans x y z
structure Canon (f:cH→bA) (l:List bX):Prop where
 ord:l.Pairwise XO
 mem:∀ e,e∈l↔e.abu=f e.key∧f e.key≠bA.zero
theorem Canon.uniq{f:cH→bA}{a b:List bX}(ha:Canon f a)(hb:Canon f b):a=b:=
 BS XO XO.irrefl XO.trans ha.ord hb.ord fun x=>(ha.mem x).trans (hb.mem x).symm
def mD(p:cH×bA):Value×Value:=(.agg #[.int .i64 p.1.src,.int .i64 p.1.tgt,.int .i64 p.1.cls,.int .i64 p.1.cond],.agg #[.int .u32 p.2.allow,.int .u32 p.2.kR,.int .u32 p.2.dont])
def nz(p:cH×bA):Bool:=decide (p.2≠bA.zero)
def tR(E:List (cH×bA)):List bX:=(E.filter nz).map fun p=>mkE p.1 p.2
def aby(f:cH→bA)(k:cH)(v:bA):cH→bA:=fun x=>if x=k then (f k).or v else f x
def accum(l:List (cH×bA)):cH→bA:=l.foldl (fun f p=>aby f p.1 p.2) fun _=>bA.zero
theorem DI(l:List (cH×bA))(p:cH×bA):accum (l++[p])=aby (accum l) p.1 p.2:=by simp[accum,List.foldl_append]
theorem Tp:accum []=fun _=>bA.zero:=rfl
theorem wrap32(n:Int):IntKind.u32.wrap n=n%4294967296:=by simp[IntKind.wrap,IntKind.signed,IntKind.bits]
theorem zo(a b:Int):bits .or .u32 a b=((BitVec.ofInt 32 a|||BitVec.ofInt 32 b).toNat:Int):=by
 show IntKind.u32.wrap ((BitVec.ofInt 32 a|||BitVec.ofInt 32 b).toNat:Int)=_;have h:=(BitVec.ofInt 32 a|||BitVec.ofInt 32 b).isLt;rw[wrap32];omega
theorem Na(a b:Int):QF (bits .or .u32 a b):=by
 rw[zo];have h:=(BitVec.ofInt 32 a|||BitVec.ofInt 32 b).isLt;exact⟨by omega,by omega⟩
theorem aa_(a b:Int):BitVec.ofInt 32 (bits .or .u32 a b)=BitVec.ofInt 32 a|||BitVec.ofInt 32 b:=by rw[zo,BitVec.ofInt_natCast,BitVec.ofNat_toNat];simp
theorem ZI{a:Int}(h:QF a):((BitVec.ofInt 32 a).toNat:Int)=a:=by
 obtain⟨n,rfl⟩:∃ n:Nat,a=n:=⟨a.toNat,by have:=h.1;omega⟩;rw[BitVec.ofInt_natCast,BitVec.toNat_ofNat,Nat.mod_eq_of_lt (by have:=h.2;omega)]
theorem xI(a b:Int):bits .or .u32 a b=bits .or .u32 b a:=by rw[zo,zo,BitVec.or_comm]
theorem Nb(a b c:Int):bits .or .u32 (bits .or .u32 a b) c=bits .or .u32 a (bits .or .u32 b c):=by rw[zo,zo a (bits .or .u32 b c),aa_,aa_,BitVec.or_assoc]
theorem xH{a:Int}(h:QF a):bits .or .u32 a 0=a:=by rw[zo,show BitVec.ofInt 32 0=0#32 from rfl,BitVec.or_zero,ZI h]
theorem bA.JI(u v:bA):(u.or v).Ok:=⟨Na _ _,Na _ _,Na _ _⟩
theorem bA.or_comm(u v:bA):u.or v=v.or u:=by simp only[bA.or,xI u.allow,xI u.kR,xI u.dont]
theorem bA.or_assoc(u v x:bA):(u.or v).or x=u.or (v.or x):=by simp only[bA.or,Nb]
theorem bA.or_zero{u:bA}(h:u.Ok):u.or bA.zero=u:=by simp only[bA.or,bA.zero,xH h.allow,xH h.kR,xH h.dont]
theorem bA.Ae:bA.zero.Ok:=by constructor<;>exact⟨by decide,by decide⟩
end Go.Proofs.YtdcofoaihmongaaGreat
namespace Go.Proofs.YtdcofoaihmongaaGreat
open Go Go.RowKit Go.Sort Go.WideMaps
def tX(k:cH):Value:=.agg #[.int .i64 k.src,.int .i64 k.tgt,.int .i64 k.cls,.int .i64 k.cond]
def Jc(v:bA):Value:=.agg #[.int .u32 v.allow,.int .u32 v.kR,.int .u32 v.dont]
theorem J3{a b:cH}(h:tX a=tX b):a=b:=by
 cases a;cases b;simpa[tX] using h
theorem CO{a:Int}(h:iX a):(Lit.int .i64 a).wf=true:=by
 have h1:(-9223372036854775808≤a∧a<9223372036854775808):=h;simp[Lit.wf,IntKind.min,IntKind.max,IntKind.signed,IntKind.bits];omega
theorem VP{k:cH}(h:k.Ok):∃ l,keyOf Tryz.prog 113 (tX k)=some l:=afd (CO h.src) (CO h.tgt) (CO h.cls) (CO h.cond)
theorem abh(w:World):(zeroValue 107).run Tryz.prog w=.ok (Jc bA.zero) w:=by kernel_rfl
structure mS (w:World) (mb n:Nat) (f:cH→bA):Prop where
 ex:∃ D:List (cH×bA),aU w Tryz.prog 113 mb (D.map mD)∧(∀ p∈D,p.2=f p.1∧p.1.Ok∧p.2.Ok)∧(∀ k,f k≠bA.zero→k∈D.map Prod.fst)∧D.length≤n
theorem mS.lt{w:World}{mb n:Nat}{f:cH→bA}(h:mS w mb n f):mb<w.heap.size:=by
 obtain⟨D,h1,_⟩:=h.ex;exact h1.lt
theorem mS.kept{w w':World}{mb n:Nat}{f:cH→bA}(h:mS w mb n f)(hb:w'.heap[mb]?=w.heap[mb]?):mS w' mb n f:=by
 obtain⟨D,h1,h2⟩:=h.ex;exact⟨D,h1.kept hb,h2⟩
theorem mS.made(w:World):mS (w.alloc (.map #[] 0)) w.heap.size 0 (fun _=>bA.zero):=
 ⟨[],aU.made w _ _,by simp,by simp,Nat.le_refl _⟩
theorem mS.val{w:World}{mb n:Nat}{f:cH→bA}(h:mS w mb n f)(k:cH):(f k).Ok:=by
 obtain⟨D,h1,h2,h3,h4⟩:=h.ex;by_cases hz:f k=bA.zero
 ·rw[hz];exact bA.Ae
 ·obtain⟨p,hp,rfl⟩:=auP.1 (h3 _ hz);have:=h2 p hp;rw[← this.1];exact this.2.2
theorem mS.look{w:World}{mb n:Nat}{f:cH→bA}(h:mS w mb n f){k:cH}(hk:k.Ok):(Instr.lookup 105 (.map (some mb)) (tX k) false).run Tryz.prog w=.ok (Jc (f k)) w:=by
 obtain⟨D,h1,h2,h3,h4⟩:=h.ex;obtain⟨l,hl⟩:=VP hk;by_cases hm:k∈D.map Prod.fst
 ·obtain⟨p,hp,rfl⟩:=auP.1 hm;have:=h1.r_ false AJ Tryz.underlying105 hl (val:=Jc p.2) (auP.2 ⟨p,hp,rfl⟩);rw[← (h2 p hp).1];exact this
 ·have hz:f k=bA.zero:=Classical.byContradiction fun h=>hm (h3 k h)
  rw[hz];refine h1.oJ false AJ Tryz.underlying105 (abh w) hl ?_;intro p hp e;obtain⟨q,hq,rfl⟩:=auP.1 hp;exact hm (auP.2 ⟨q,hq,J3 e⟩)
theorem Vc{D:List (cH×bA)}{p:cH×bA}(h:p∈D):∃ R,D.Perm (p::R):=by
 obtain⟨s,t,rfl⟩:=List.append_of_mem h;exact⟨s++t,List.perm_middle⟩
theorem mS.put{w:World}{mb n:Nat}{f:cH→bA}(h:mS w mb n f){k:cH}(hk:k.Ok){v:bA}(hv:v.Ok):
 ∃ w',(Instr.mapUpdate 105 (.map (some mb)) (tX k) (Jc v)).run Tryz.prog w=.ok () w'∧(mS w' mb (n+1) (fun x=>if x=k then v else f x)∧w.grownBy w' (some mb)∧w'.heap.size=w.heap.size):=by
 obtain⟨D,h1,h2,h3,h4⟩:=h.ex;obtain⟨l,hl⟩:=VP hk;by_cases hm:k∈D.map Prod.fst
 ·obtain⟨p,hp,rfl⟩:=auP.1 hm;obtain⟨R,hR⟩:=Vc hp
  have hnd:(D.map Prod.fst).Nodup:=by
   have:=h1.keys;rw[List.map_map] at this;have e:(Prod.fst∘mD)=tX∘Prod.fst:=rfl;rw[e,← List.map_map] at this;exact List.Pairwise.of_map tX (fun a b hab e=>hab (congrArg tX e)) this
  have afB:=((hR.map Prod.fst).nodup_iff.1 hnd);simp only[List.map_cons,List.nodup_cons] at afB;obtain⟨w',hw,hM,hg,hs⟩:=h1.Py (key:=tX p.1) (val:=Jc v) (old:=Jc p.2) (R:=R.map mD) AJ Tryz.underlying105 hl (by simpa[mD,tX,Jc] using hR.map mD);refine⟨w',hw,⟨(p.1,v)::R,hM,?_,?_,?_⟩,hg,hs⟩
  ·intro q hq;rcases auN.1 hq with rfl|hq
   ·exact⟨by simp,hk,hv⟩
   ·have hne:q.1≠p.1:=fun e=>afB.1 (e▸auP.2 ⟨q,hq,rfl⟩)
    simp only[if_neg hne];exact h2 q (hR.mem_iff.2 (auO _ hq))
  ·intro x hx;by_cases hxk:x=p.1
   ·subst hxk;simp
   ·simp only[if_neg hxk] at hx;have:=(hR.map Prod.fst).mem_iff.1 (h3 x hx);simpa using this
  ·have:=hR.length_eq;simp at this ⊢;omega
 ·obtain⟨w',hw,hM,hg,hs⟩:=h1.Pz (key:=tX k) (val:=Jc v) AJ Tryz.underlying105 hl (by
   intro p hp e;obtain⟨q,hq,rfl⟩:=auP.1 hp;exact hm (auP.2 ⟨q,hq,J3 e⟩))
  refine⟨w',hw,⟨(k,v)::D,hM,?_,?_,by simp;omega⟩,hg,hs⟩
  ·intro q hq;rcases auN.1 hq with rfl|hq
   ·exact⟨by simp,hk,hv⟩
   ·have hne:q.1≠k:=fun e=>hm (e▸auP.2 ⟨q,hq,rfl⟩)
    simp only[if_neg hne];exact h2 q hq
  ·intro x hx;by_cases hxk:x=k
   ·subst hxk;simp
   ·simp only[if_neg hxk] at hx;exact auO _ (h3 x hx)
def bX.Ok(e:bX):Prop:=e.key.Ok∧e.abu.Ok
theorem mS.nodup{D:List (cH×bA)}{w:World}{mb:Nat}(h1:aU w Tryz.prog 113 mb (D.map mD)):(D.map Prod.fst).Nodup:=by
 have:=h1.keys;rw[List.map_map] at this;have e:(Prod.fst∘mD)=tX∘Prod.fst:=rfl;rw[e,← List.map_map] at this;exact List.Pairwise.of_map tX (fun a b hab e=>hab (congrArg tX e)) this
end Go.Proofs.YtdcofoaihmongaaGreat
namespace Go.Proofs.YtdcofoaihmongaaGreat
open Go Go.RowKit Go.WideMaps
def ival(p:Int×Value):Value×Value:=(.int .i64 p.1,p.2)
def eC(L:List (Int×Value)):Array Value:=kf (L.map ival)
def jT:List (Int×Value)→Int→Option Value
 | [],_=>none
 | p::r,k=>if p.1=k then some p.2 else jT r k
def iq(L:List (Int×Value))(k:Int):List (Int×Value):=L.filter fun p=>decide (p.1≠k)
theorem Gh(L:List (Int×Value))(k j:Int):jT (iq L k) j=if j=k then none else jT L j:=by
 induction L with
 | nil=>simp[iq,jT]
 | cons p r ih=>
  unfold iq at *;rw[List.filter_cons];by_cases h:p.1=k
  ·rw[if_neg (by simp[h]),ih];by_cases hj:j=k
   ·simp[hj]
   ·rw[if_neg hj,if_neg hj,jT,if_neg (fun e=>hj (by rw[← e,h]))]
  ·rw[if_pos (by simp[h]),jT,jT,ih];by_cases hj:p.1=j
   ·rw[if_pos hj,if_neg (fun e=>h (hj.trans e)),if_pos hj]
   ·rw[if_neg hj,if_neg hj]
theorem AB(L:List (Int×Value))(k j:Int)(v:Value):jT ((k,v)::iq L k) j=if j=k then some v else jT L j:=by
 rw[jT,Gh];by_cases h:j=k
 ·subst h;simp
 ·rw[if_neg (fun e=>h e.symm),if_neg h,if_neg h]
theorem YX{L:List (Int×Value)}{k:Int}{v:Value}(h:jT L k=some v):(k,v)∈L:=by
 induction L with
 | nil=>cases h
 | cons p r ih=>
  rw[jT] at h;split at h
  ·rename_i e;obtain rfl:=auQ h;subst e;exact auR ..
  ·exact auO _ (ih h)
theorem CA{L:List (Int×Value)}{k:Int}(h:jT L k=none):∀ p∈L,p.1≠k:=by
 induction L with
 | nil=>simp
 | cons p r ih=>
  rw[jT] at h;split at h
  ·cases h
  ·rename_i hne;intro q hq;rcases auN.1 hq with rfl|hq
   ·exact hne
   ·exact ih h q hq
theorem SL{L:List (Int×Value)}{k:Int}(h:jT L k=none):iq L k=L:=List.filter_eq_self.2 fun p hp=>by simpa using CA h p hp
theorem yH{L:List (Int×Value)}{k:Int}{v:Value}(hn:(L.map Prod.fst).Nodup)(h:jT L k=some v):L.Perm ((k,v)::iq L k):=by
 induction L with
 | nil=>cases h
 | cons p r ih=>
  simp only[List.map_cons,List.nodup_cons] at hn;rw[jT] at h;unfold iq at *;rw[List.filter_cons];split at h
  ·rename_i e;obtain rfl:=auQ h;subst e;rw[if_neg (by simp)]
   have:(r.filter fun q=>decide (q.1≠p.1))=r:=List.filter_eq_self.2 fun q hq=>by
    have:q.1≠p.1:=fun e=>hn.1 (e▸auP.2 ⟨q,hq,rfl⟩)
    simpa using this
   rw[this]
  ·rename_i hne;rw[if_pos (by simpa using hne)];exact((ih hn.2 h).cons p).trans (List.Perm.swap ..)
theorem vA:∀ {D E:List (Value×Value)},kf D=kf E→D=E
 | [],[],_=>rfl
 | [],_::_,h=>by simp[kf] at h
 | _::_,[],h=>by simp[kf] at h
 | (a,b)::D,(c,d)::E,h=>by
  have h':a=c∧b=d∧D.flatMap (fun p=>[p.1,p.2])=E.flatMap (fun p=>[p.1,p.2]):=by simpa[kf] using h
  obtain⟨rfl,rfl,h3⟩:=h';rw[vA (D:=D) (E:=E) (by unfold kf;rw[h3])]
theorem yd:Maps.Keyed Tryz.prog 3:=Maps.int_keyed Tryz.underlying3
theorem Y4{n:Int}(h:iX n):∃ l,keyOf Tryz.prog 3 (.int .i64 n)=some l:=by
 unfold keyOf;simp[Tryz.underlying3,mapKey,CO h]
section
variable {B:Nat} {w0 w w':World} {bs:List Bx} {rs:List Rw} {mb:Nat} {L:List (Int×Value)}
theorem aV.map(M:aV B w0 w bs rs)(i:Nat)(h:bs[i]?=some (mb,9003,eC L)):aU w Tryz.prog 3 mb (L.map ival):=by
 rcases M.box _ (auS h) with⟨h0,_⟩|⟨_,D,h1,h2⟩
 ·have h0:Nat.blt 9003 9000=true:=h0;exact absurd h0 (by decide)
 ·have h2:aU w Tryz.prog ((9003:Nat)-9000) mb D:=h2;rw[show(9003:Nat)-9000=3 by decide] at h2;rw[show L.map ival=D from vA h1];exact h2
theorem nh{w:World}{mb:Nat}{L:List (Int×Value)}(h:aU w Tryz.prog 3 mb (L.map ival)):wG w (mb,9003,eC L):=by
 refine .inr ⟨by show Nat.blt 9003 9000=false;decide,L.map ival,rfl,?_⟩;show aU w Tryz.prog ((9003:Nat)-9000) mb (L.map ival);rw[show(9003:Nat)-9000=3 by decide];exact h
theorem aV.Nk(M:aV B w0 w bs rs)(hb:auT w.heap.size w w'){b:Bx}(h:wG w' b)(hg:w.heap.size≤b.1):aV B w0 w' (b::bs) rs:=by
 have M':=M.keep hb;refine⟨M'.below,M'.le,M'.old,?_,?_,?_,M'.row,?_,M.wJ⟩
 ·intro c hc;rcases auN.1 hc with rfl|hc
  ·exact h
  ·exact M'.box c hc
 ·intro c hc;rcases auN.1 hc with rfl|hc
  ·exact auU M.big hg
  ·exact M.lo c hc
 ·rw[List.map_cons,List.nodup_cons];refine⟨fun h=>?_,M.nd⟩;obtain⟨c,hc,e⟩:=auP.1 h;have:=(M.box c hc).lt;omega
 ·intro r hr c hc;rcases auN.1 hc with rfl|hc
  ·intro e;have:=((M.row r hr).lt _ e).2;omega
  ·exact M.far r hr c hc
theorem gW{w:World}{g mb:Nat}{t k:TypeId}{cs:Array Value}{P:Program}{D:List (Value×Value)}(h:Whole w g t cs)(m:aU w P k mb D):g≠mb:=fun e=>by
 subst e;obtain⟨es,clock,hb,_⟩:=m;have h:w.heap[g]?=some (.cells cs t (0,0)):=h;rw[hb] at h;cases h
theorem aV.Gc(M:aV B w0 w bs rs)(hb:auT w.heap.size w w'){b1 b2:Bx}(h1:wG w' b1)(g1:w.heap.size≤b1.1)(h2:wG w' b2)(g2:w.heap.size≤b2.1)(hne:b1.1≠b2.1):aV B w0 w' (b1::b2::bs) rs:=by
 have M':=M.Nk hb h2 g2;refine⟨M'.below,M'.le,M'.old,?_,?_,?_,M'.row,?_,M.wJ⟩
 ·intro c hc;rcases auN.1 hc with rfl|hc
  ·exact h1
  ·exact M'.box c hc
 ·intro c hc;rcases auN.1 hc with rfl|hc
  ·exact auU M.big g1
  ·exact M'.lo c hc
 ·rw[List.map_cons,List.nodup_cons];refine⟨fun h=>?_,M'.nd⟩;obtain⟨c,hc,e⟩:=auP.1 h;rcases auN.1 hc with rfl|hc
  ·exact hne e.symm
  ·have:=(M.box c hc).lt;omega
 ·intro r hr c hc;rcases auN.1 hc with rfl|hc
  ·intro e;have:=((M.row r hr).lt _ e).2;omega
  ·exact M'.far r hr c hc
theorem aV.turn(M:aV B w0 w bs rs)(i:Nat){b b':Bx}(h:bs[i]?=some b)(e:b'.1=b.1)(hg:w.grownBy w' (some b.1))(h':wG w' b')(hm2:∀ g cs,Whole w g 52 cs→g≠b.1):aV B w0 w' (bs.set i b') rs:=by
 have hi:=(auV.1 h).1;have hm:=auS h
 have hmap:(bs.set i b').map (·.1)=bs.map (·.1):=by
  refine List.ext_getElem? fun j=>?_
  rw[auW,auW,List.getElem?_set];by_cases ej:i=j
  ·subst ej;simp[hi,(auV.1 h).2,e]
  ·simp[ej]
 have Wm:∀ c∈bs.set i b',∃ c'∈bs,c'.1=c.1:=fun c hc=>by
  rcases List.mem_or_eq_of_mem_set hc with hc|rfl
  ·exact⟨c,hc,rfl⟩
  ·exact⟨_,hm,e.symm⟩
 have hS:=St.grown (X:=[b.1]) hg (auX.2 rfl);refine⟨M.below.trans (hS.below M.big fun k hk=>by rw[auX.1 hk];exact M.lo _ hm),M.le,fun g cs h2=>hS.whole (M.old g cs h2) fun hx=>hm2 g cs (M.old g cs h2) (auX.1 hx),?_,?_,by rw[hmap];exact M.nd,?_,?_,M.wJ⟩
 ·intro c hc;obtain⟨j,hj⟩:=List.getElem?_of_mem hc;rw[List.getElem?_set] at hj;by_cases ej:i=j
  ·subst ej;rw[if_pos rfl,if_pos hi] at hj;obtain rfl:=auQ hj;exact h'
  ·rw[if_neg ej] at hj;have hb:=M.box c (auS hj);refine hb.kept (hS.block _ hb.lt fun hx=>ej ?_);have e2:c.1=b.1:=auX.1 hx;have h1:(bs.map (·.1))[i]?=some b.1:=by rw[auW,h];rfl
   have h2:(bs.map (·.1))[j]?=some b.1:=by rw[auW,hj];simp[e2]
   exact mg M.nd h1 h2
 ·intro c hc;obtain⟨c',hc',ec⟩:=Wm c hc;rw[← ec];exact M.lo c' hc'
 ·intro r hr;exact hS.own (M.row r hr) fun q hq=>by rw[auX.1 hq];exact M.far r hr _ hm
 ·intro r hr c hc;obtain⟨c',hc',ec⟩:=Wm c hc;rw[← ec];exact M.far r hr c' hc'
theorem aU.Nj{w:World}{mb:Nat}{L:List (Int×Value)}(h:aU w Tryz.prog 3 mb (L.map ival)):(L.map Prod.fst).Nodup:=by
 have hk:=h.keys;rw[List.map_map] at hk;have e:(Prod.fst∘ival)=(fun n:Int=>Value.int .i64 n)∘Prod.fst:=rfl;rw[e,← List.map_map] at hk;exact(List.pairwise_map.1 hk).imp fun h e=>h (by rw[e])
section
variable {t e:TypeId} (ht:Tryz.prog.underlying t=some (.map 3 e))
include ht
theorem aU.VB{z:Value}(hz:(zeroValue e).run Tryz.prog w=.ok z w)(hM:aU w Tryz.prog 3 mb (L.map ival)){k:Int}(hk:iX k)(c:Bool):
 (Instr.lookup t (.map (some mb)) (.int .i64 k) c).run Tryz.prog w=.ok (if c then .tuple #[(jT L k).getD z,.bool (jT L k).isSome] else (jT L k).getD z) w:=by
 obtain⟨l,hl⟩:=Y4 hk
 cases hf:jT L k with
 | some v=>exact hM.r_ c yd ht hl (auP.2 ⟨(k,v),YX hf,rfl⟩)
 | none=>
  refine hM.oJ c yd ht hz hl fun p hp e=>?_
  obtain⟨q,hq,rfl⟩:=auP.1 hp;exact CA hf q hq (by simpa[ival] using e)
theorem aV.look{z:Value}(hz:(zeroValue e).run Tryz.prog w=.ok z w)(M:aV B w0 w bs rs)(i:Nat)(h:bs[i]?=some (mb,9003,eC L)){k:Int}(hk:iX k)(c:Bool):
 (Instr.lookup t (.map (some mb)) (.int .i64 k) c).run Tryz.prog w=.ok (if c then .tuple #[(jT L k).getD z,.bool (jT L k).isSome] else (jT L k).getD z) w:=aU.VB ht hz (M.map i h) hk c
theorem aU.U8(hM:aU w Tryz.prog 3 mb (L.map ival)){k:Int}(hk:iX k)(v:Value):
 ∃ w',(Instr.mapUpdate t (.map (some mb)) (.int .i64 k) v).run Tryz.prog w=.ok () w'∧(aU w' Tryz.prog 3 mb (((k,v)::iq L k).map ival)∧w.grownBy w' (some mb)):=by
 obtain⟨l,hl⟩:=Y4 hk
 cases hf:jT L k with
 | some u=>
  obtain⟨w',hw,N_,hg,-⟩:=hM.Py (key:=.int .i64 k) (val:=v) (old:=u) (R:=(iq L k).map ival) yd ht hl ((yH hM.Nj hf).map ival);exact⟨w',hw,N_,hg⟩
 | none=>
  obtain⟨w',hw,N_,hg,-⟩:=hM.Pz (key:=.int .i64 k) (val:=v) yd ht hl fun p hp e=>by
   obtain⟨q,hq,rfl⟩:=auP.1 hp;exact CA hf q hq (by simpa[ival] using e)
  refine⟨w',hw,?_,hg⟩;rw[SL hf];exact N_
theorem aV.ae2(M:aV B w0 w bs rs)(i:Nat)(h:bs[i]?=some (mb,9003,eC L)){k:Int}(hk:iX k)(v:Value):
 ∃ w',(Instr.mapUpdate t (.map (some mb)) (.int .i64 k) v).run Tryz.prog w=.ok () w'∧aV B w0 w' (bs.set i (mb,9003,eC ((k,v)::iq L k))) rs:=by
 obtain⟨w',hw,N_,hg⟩:=aU.U8 ht (M.map i h) hk v;exact⟨w',hw,M.turn i h rfl hg (nh N_) fun g cs h2=>gW h2 (M.map i h)⟩
theorem aV.aij{ty:TypeId}(M:aV B w0 w bs rs)(i:Nat)(h:bs[i]?=some (mb,9003,eC L)){k:Int}(hk:iX k)(hin:(jT L k).isSome=true):
 ∃ w',(Builtin.delete_ #[t,3] ty #[.map (some mb),.int .i64 k]).run Tryz.prog w=.ok (.tuple #[]) w'∧aV B w0 w' (bs.set i (mb,9003,eC (iq L k))) rs:=by
 have hM:=M.map i h;obtain⟨l,hl⟩:=Y4 hk;obtain⟨u,hf⟩:=Option.isSome_iff_exists.1 hin;obtain⟨w',hw,N_,hg,-⟩:=hM.del (ty:=ty) (key:=.int .i64 k) (old:=u) (R:=(iq L k).map ival) yd ht hl ((yH hM.Nj hf).map ival);exact⟨w',hw,M.turn i h rfl hg (nh N_) fun g cs h2=>gW h2 (M.map i h)⟩
end
end
end Go.Proofs.YtdcofoaihmongaaGreat
namespace Go.Proofs.YtdcofoaihmongaaGreat
open Go Go.RowKit
section
variable {P:Program} {a:Act} {w:World} {o:Oper} {x y:Operand} {ty yt:TypeId} {k yk:IntKind} {m n:Int}
theorem ku(ho:o.op=.binOp .shl ty x y yt)(hx:a.eval x=.int k m)(hy:a.eval y=.int yk n)(h0:0≤n)(h1:n≤k.bits):(execOp a.eval o).run P w=.ok (.value (.int k (k.wrap (m*2^n.toNat)))) w:=by
 unfold execOp;simp[ho,hx,hy,eqGuard,binOp,shift_shl k yk m n h0 h1]
theorem Qj(ho:o.op=.binOp .shr ty x y yt)(hx:a.eval x=.int k m)(hy:a.eval y=.int yk n)(h0:0≤n)(h1:n≤k.bits):(execOp a.eval o).run P w=.ok (.value (.int k (m/2^n.toNat))) w:=by
 unfold execOp;simp[ho,hx,hy,eqGuard,binOp,shift_shr k yk m n h0 h1]
theorem Xc(ho:o.op=.binOp .quo ty x y yt)(hx:a.eval x=.int k m)(hy:a.eval y=.int k n)(h0:n≠0):(execOp a.eval o).run P w=.ok (.value (.int k (k.wrap (m.tdiv n)))) w:=by
 unfold execOp;simp[ho,hx,hy,eqGuard,binOp,Op.intDiv,h0]
theorem Qm(ho:o.op=.unOp .xor ty x)(hx:a.eval x=.int .u64 m):(execOp a.eval o).run P w=.ok (.value (.int .u64 (bits .xor .u64 18446744073709551615 m))) w:=by
 unfold execOp;simp[ho,hx];rfl
theorem ado{t u:TypeId}(ho:o.op=.call { callee:=.builtin .min,args:=#[x,y],argTypes:=#[t,u] })(hx:a.eval x=.int k m)(hy:a.eval y=.int yk n):(execOp a.eval o).run P w=.ok (.value (.int k (if n<m then n else m))) w:=by
 unfold execOp;simp[ho,hx,hy,resolve,invoke,builtin,Builtin.min_,Builtin.min2,List.foldlM]
theorem Di{t u:TypeId}(ho:o.op=.call { callee:=.builtin .max,args:=#[x,y],argTypes:=#[t,u] })(hx:a.eval x=.int k m)(hy:a.eval y=.int yk n):(execOp a.eval o).run P w=.ok (.value (.int k (if m<n then n else m))) w:=by
 unfold execOp;simp[ho,hx,hy,resolve,invoke,builtin,Builtin.max_,Builtin.max2,List.foldlM]
theorem GY{f:FuncId}{x:Operand}{xs:Array Operand}{ts:Array TypeId}{fn:Func}{c:Code}{first cap args:Array Value}(ho:o.op=.call { callee:=.value x,args:=xs,argTypes:=ts })(hx:a.eval x=.func (.func f) first cap)(hf:P.funcs[f]?=some fn) (hn:(fn.name == "runtime.NumGoroutine")=false) (hb:fn.body=some c)
 (ha:first++xs.map a.eval++cap=args):(execOp a.eval o).run P w=.ok (.enter f args) w:=by
 have h0:fn.body.isNone=false:=by rw[hb];rfl
 unfold execOp;simp only[ho,resolve,hx,Deferred.ofValue,invoke,callFunc,auY,Sem.run_pure,Result.andThen_ok,run_program,hf,hn,h0];rw[← ha];simp
theorem KC{t e:TypeId}{i:TypeInfo}{z:Value}{c:Nat}{cs:Array Value}(ho:o.op=.makeSlice t x y)(hx:a.eval x=.int k (c:Int))(hy:a.eval y=.int yk (c:Int))(ht:P.underlying t=some (.slice e))(hi:P.info? e=some i)(hz:i.zero=some z)
 (hcs:madeCells z.cells (c*i.size)=cs) (hb:i.bytes*c≤281474976710656) (h63:c≤maxLen) :
 (execOp a.eval o).run P w=.ok (.value (.slice (some ⟨w.heap.size,0,none⟩) c c)) (w.alloc (.cells cs e)):=by
 have hb':(i.bytes:Int)*(c:Int)≤281474976710656:=by
  have h:((i.bytes*c:Nat):Int)≤281474976710656:=by omega
  rwa [Int.natCast_mul] at h
 have h63':(c:Int)≤9223372036854775807:=by
  have h:=h63;simp[maxLen] at h;omega
 have hr:=run_make (P:=P) w t e i z ht hi hz k yk (c:Int) (c:Int) (by omega) (Int.le_refl _) hb' h63';simp only[Int.toNat_natCast] at hr;unfold execOp;simp[ho,hx,hy,hr,hcs]
theorem Vj(z:Value):madeCells #[z] (1*1)=#[z]:=by
 unfold madeCells;refine Array.ext (by simp) fun i h1 h2=>?_
 have hi:i=0:=by simp at h2;omega
 subst hi;simp
theorem GV{t e:TypeId}{z:Value}{b:Nat}(ho:o.op=.makeSlice t x y)(hx:a.eval x=.int k 1)(hy:a.eval y=.int yk 1)(ht:P.underlying t=some (.slice e))(hi:iV (P.info? e) 1 b=true)(hz:(P.info? e).bind (·.zero)=some z)(h1:z.cells=#[z])(hb:b≤281474976710656):
 (execOp a.eval o).run P w=.ok (.value (.slice (some ⟨w.heap.size,0,none⟩) 1 1)) (w.alloc (.cells #[z] e)):=by
 obtain⟨i,z',hi',hz0,hz1,hz2,hzs⟩:=nO hi;rw[hi'] at hz;simp only[Option.bind_some] at hz;have h2:=KC (P:=P) (w:=w) (c:=1) (z:=z) (cs:=#[z]) ho hx hy ht hi' hz (by rw[hz1,h1];exact Vj z) (by rw[hz2];omega) (by simp[maxLen]);exact h2
end
section
variable {P:Program} {ops:Array Oper} {Q:Exit→Act→World→Prop} {rest:List Oper} {a:Act} {w:World} {o:Oper}
theorem kmu(hg:o.guard=none)(hd:o.dst=none){m x v:Operand}{t:TypeId}(hop:o.op=.mapUpdate t m x v){mv key val:Value}(hm:a.eval m=mv)(hx:a.eval x=key)(hv:a.eval v=val)
 {Post:World→Prop} (hrun:∃ w',(Instr.mapUpdate t mv key val).run P w=.ok () w'∧Post w') (next:∀ w',Post w'→wpList P ops Q rest a w'):wpList P ops Q (o::rest) a w:=
 L_ w hg m x v t hop mv key val hm hx hv Post hrun fun w' h=>by
  have:a.put o.dst undef=a:=by rw[hd];rfl
  rw[this];exact next w' h
end
def IC(wb:World):Good:=fun v u=>∃ b,v=.map (some b)∧aU u Tryz.prog 3 b []∧wb.heap.size≤b
theorem RY(wb:World):eG (IC wb):=fun _ _ _ ⟨b,e,h,k⟩ hb=>⟨b,e,h.kept (hb.block _ h.lt),k⟩
theorem dmk{ops:Array Oper}{Q':Exit→Act→World→Prop}{a:Act}{w wb:World}{o:Oper}{d N:Nat}{t k e:TypeId}(hw:Region.wanted o (yielded ops a.tmps)=true)(ho:o.op=.makeMap t none)(_:Tryz.prog.underlying t=some (.map k e))(hd:o.dst=some d)(hf:Fr a N)(hN:Nat.blt d N=true)(hi:auT wb.heap.size wb w)
 (hK:∀ v a' w',auT w.heap.size w w'→IC wb v w'→Put a (o.dst.getD 0) v a'→Q' .normal a' w'):wpList Tryz.prog ops Q' [o] a w:=by
 have hr:(execOp a.eval o).run Tryz.prog w=.ok (.value (.map (some w.heap.size))) (w.alloc (.map #[] 0)):=by
  unfold execOp;simp[ho,Instr.makeMap]
 refine wpList_step fun K hK'=>?_
 rw[if_pos hw];unfold Oper.wp;rw[hr,Oper.upon_value];refine hK' _ _ (auZ (hK _ _ _ ((Below.refl _ w).alloc (Nat.le_refl _) _) ⟨_,rfl,aU.made w _ _,hi.size⟩ ?_));rw[hd];exact qL hf (by simpa using hN)
def Lr(wb:World)(cs:Array Value):Good:=fun v u=>∃ b,v=.agg (cs.push (.map (some b)))∧aU u Tryz.prog 3 b []∧wb.heap.size≤b
theorem J2(wb:World)(cs:Array Value):eG (Lr wb cs):=fun _ _ _ ⟨b,e,h,k⟩ hb=>⟨b,e,h.kept (hb.block _ h.lt),k⟩
def DP(wb:World)(t:TypeId)(cs:Array Value):Good:=fun v u=>∃ g b,v=.pointer (some ⟨g,0,none⟩)∧Whole u g t (cs.push (.map (some b)))∧aU u Tryz.prog 3 b []∧wb.heap.size≤g∧wb.heap.size≤b
theorem zx(wb:World)(t:TypeId)(cs:Array Value):eG (DP wb t cs):=fun _ _ _ ⟨g,b,e,hw,h,k⟩ hb=>⟨g,b,e,Whole.under hb hw hw.lt,h.kept (hb.block _ h.lt),k⟩
theorem kmk{P:Program}{ops:Array Oper}{Q:Exit→Act→World→Prop}{rest:List Oper}{a:Act}{B:Nat}{w w0:World}{o:Oper}{d N:Nat}{l:Slots}{bs:List Bx}{rs:List Rw}{t:TypeId}(hw:Region.wanted o (yielded ops a.tmps)=true)(ho:o.op=.makeMap t none)(hd:o.dst=some d)(F:Fs a N l)(hN:Nat.blt d N=true)(M:aV B w0 w bs rs)
 (next:∀ mb a' w',Fs a' N ((d,.map (some mb))::l)→aV B w0 w' ((mb,9003,eC [])::bs) rs→wpList P ops Q rest a' w'):wpList P ops Q (o::rest) a w:=by
 have hr:(execOp a.eval o).run P w=.ok (.value (.map (some w.heap.size))) (w.alloc (.map #[] 0)):=by
  unfold execOp;simp[ho,Instr.makeMap]
 refine wpList_step fun K hK'=>?_
 rw[if_pos hw];unfold Oper.wp;rw[hr,Oper.upon_value,hd];exact hK' _ _ (next w.heap.size _ _ (F.put (qL F.fr (by simpa using hN))) (M.Nk ((Below.refl _ w).alloc (Nat.le_refl _) _) (b:=(w.heap.size,9003,eC [])) (nh (aU.made w _ _)) (Nat.le_refl _)))
section
variable {ops:Array Oper} {Q:Exit→Act→World→Prop} {rest:List Oper} {a:Act} {B:Nat} {w w0:World} {o:Oper} {d N:Nat} {l:Slots} {bs:List Bx} {rs:List Rw} {mb:Nat} {L:List (Int×Value)}
theorem GW{t e:TypeId}{m x:Operand}{z:Value}{k:Int}(ht:Tryz.prog.underlying t=some (.map 3 e))(hz:(zeroValue e).run Tryz.prog w=.ok z w)(M:aV B w0 w bs rs)(i:Nat)(h:bs[i]?=some (mb,9003,eC L))(ho:o.op=.lookup t m x true)(hm:a.eval m=.map (some mb))(hx:a.eval x=.int .i64 k)(hk:iX k):
 (execOp a.eval o).run Tryz.prog w=.ok (.value (.tuple #[(jT L k).getD z,.bool (jT L k).isSome])) w:=by
 have hl:=M.look ht hz i h hk true;unfold execOp;simp[ho,hm,hx,hl]
theorem Zz{t e:TypeId}{m x:Operand}{z:Value}{k:Int}(ht:Tryz.prog.underlying t=some (.map 3 e))(hz:(zeroValue e).run Tryz.prog w=.ok z w)(M:aV B w0 w bs rs)(i:Nat)(h:bs[i]?=some (mb,9003,eC L))(ho:o.op=.lookup t m x false)(hm:a.eval m=.map (some mb))(hx:a.eval x=.int .i64 k)(hk:iX k):
 (execOp a.eval o).run Tryz.prog w=.ok (.value ((jT L k).getD z)) w:=by
 have hl:=M.look ht hz i h hk false;unfold execOp;simp[ho,hm,hx,hl]
theorem vR{t e:TypeId}{m x:Operand}{z:Value}{k:Int}(ht:Tryz.prog.underlying t=some (.map 3 e))(hz:(zeroValue e).run Tryz.prog w=.ok z w)(hM:aU w Tryz.prog 3 mb (L.map ival))(ho:o.op=.lookup t m x true)(hm:a.eval m=.map (some mb))(hx:a.eval x=.int .i64 k)(hk:iX k):
 (execOp a.eval o).run Tryz.prog w=.ok (.value (.tuple #[(jT L k).getD z,.bool (jT L k).isSome])) w:=by
 have hl:=aU.VB ht hz hM hk true;unfold execOp;simp[ho,hm,hx,hl]
theorem kmp(hg:o.guard=none)(hd:o.dst=none){t e:TypeId}{m x y:Operand}{v:Value}{k:Int}(ho:o.op=.mapUpdate t m x y)(ht:Tryz.prog.underlying t=some (.map 3 e))(hm:a.eval m=.map (some mb))(hx:a.eval x=.int .i64 k)(hy:a.eval y=v)(hk:iX k)(M:aV B w0 w bs rs)(i:Nat)(h:bs[i]?=some (mb,9003,eC L))
 (next:∀ w',aV B w0 w' (bs.set i (mb,9003,eC ((k,v)::iq L k))) rs→wpList Tryz.prog ops Q rest a w'):wpList Tryz.prog ops Q (o::rest) a w:=
 kmu hg hd ho hm hx hy (M.ae2 ht i h hk v) next
end
def tJK(p:Pa)(t c b:Bool)(f:Bool→Prop):Prop:=match p with
 | []=>(match b with|true=>f c|false=>f (!c))
 | _::_=>(match b with|true=>f (t&&c)|false=>f (t&&!c))
theorem abC{p:Pa}{t c b:Bool}{f:Bool→Prop}(h:tJK p t c b f):f (tJ p t c b):=by
 cases p<;>cases b<;>exact h
def gK(m:List gi)(g:Option (Nat×Bool))(f:Pa→Bool→Prop):Prop:=match g with
 | none=>f [] true
 | some (j,b)=>lkJ j (fun p t v=>match v with|.bool c=>tJK p t c b (f ((j,b)::p))|_=>False) m
def dK(N:Nat)(m:List gi)(dst:Option Nat)(f:Nat→Prop):Prop:=match dst with
 | some d=>bif Nat.blt d N then bif jD d m then f d else False else False
 | none=>False
def TQ(π:Pa)(p:Prop):Prop:=match π with
 | []=>p
 | _::_=>False
def aY(v:Value):List Value:=match v with
 | .agg cs=>cs.toList
 | v=>[v]
theorem lK(v:Value):v.cells.toList=aY v:=by cases v<;>rfl
def S8(v:Value)(f:Array Value→Prop):Prop:=match v with
 | .agg cs=>f cs
 | .bool b=>f #[.bool b]
 | .int k n=>f #[.int k n]
 | .string s=>f #[.string s]
 | .pointer a=>f #[.pointer a]
 | .slice a n c=>f #[.slice a n c]
 | .map r=>f #[.map r]
 | .func a b c=>f #[.func a b c]
 | .nilFunc=>f #[.nilFunc]
 | .iface t v=>f #[.iface t v]
 | .nilIface=>f #[.nilIface]
 | _=>False
theorem vY{v:Value}{f:Array Value→Prop}(h:S8 v f):f v.cells:=by
 cases v<;>first|exact h|exact h.elim
def ldK(π:Pa)(t:Bool)(bs:List Bx)(w:World)(D:TD)(g off:Nat)(k:Value→Prop):Prop:=
 bif D.one' then
  (∃ i,tS bs i fun b=>match b with|(b,T,cs)=>bif Nat.blt T 9000 then ob π t (b=g) (tS cs.toList off k) else False)∨(∃ v,ob π t (w.cell? ⟨g,off,none⟩=some v) (k v))
 else
  (∃ i,tS bs i fun b=>match b with|(b,T,cs)=>bif Nat.blt T 9000 then ob π t (b=g) (KF off cs.toList fun r=>Jk (i_ D) r fun l=>k (.agg l.toArray)) else False) ∨
   (∃ cs:List Value,ob π t (∀ j u,cs[j]?=some u→w.cell? ⟨g,off+j,none⟩=some u) (qR cs (i_ D) (k (.agg cs.toArray))))
def stK(B:Nat)(w0:World)(bs:List Bx)(D:TD)(g off:Nat)(v:Value)(k:List Bx→Prop):Prop:=
 ∃ i,tS bs i fun b=>match b with|(b,T,cs)=>bif Nat.blt T 9000 then bif Nat.beq T 52 then
  ((b=g∧(aY v).all (·.oneCell')=true)∧w0.heap.size≤B)∧qR (aY v) (i_ D) (Js cs.toList off (aY v) fun cs'=>BW bs i (b,T,cs'.toArray) k)
  else (b=g∧(aY v).all (·.oneCell')=true)∧qR (aY v) (i_ D) (Js cs.toList off (aY v) fun cs'=>BW bs i (b,T,cs'.toArray) k) else False
def stR(B:Nat)(w0:World)(rs:List Rw)(D:TD)(g off:Nat)(v:Value)(k:List Rw→Prop):Prop:=
 ∃ i j e n cap xs,(rs[i]?=some ⟨.slice (some ⟨g,0,none⟩) n cap,e,i_ D,n,xs⟩∧off=j*i_ D∧j<n)∧(aY v).all (·.oneCell')=true∧(Nat.beq e 52=false∨w0.heap.size≤B) ∧
  qR (aY v) (i_ D) (BW rs i ⟨.slice (some ⟨g,0,none⟩) n cap,e,i_ D,n,xs.take off++aY v++xs.drop (off+i_ D)⟩ k)
def apO(B:Nat)(w0:World)(bs:List Bx)(rs:List Rw)(w:World)(u v:Value)(e kk Qu:Nat)(k:Value→List Bx→List Rw→World→Prop):Prop:=
 ∃ Te Rs i nn xs mm news,(aV B w0 w bs rs→aV B w0 w Te Rs)∧Rs[i]?=some ⟨v,e,kk,nn,xs⟩∧SliceAt w u kk mm news∧(nn+mm≤maxLen∧(nn+mm)*Qu≤140737488355328)∧(Nat.beq e 52=false∨w0.heap.size≤B) ∧
  ∀ v' w',BW Rs i ⟨v',e,kk,nn+mm,xs++news⟩ fun rs'=>aV B w0 w' Te rs'→k v' Te rs' w'
def tQ:Nat→List (Nat×Operand)→Bool
 | _,[]=>true
 | i,(j,_)::r=>bif Nat.beq i j then tQ (i+1) r else false
def ZH(kk:Nat):List Value→(List Value→Prop)→Prop
 | [],f=>f []
 | v::r,f=>S8 v fun cs=>qR cs.toList kk (ZH kk r fun l=>sJ cs.toList l f)
section
variable (B:Nat) (w0:World) (N:Nat) (l:Slots) (o:Oper) (n:Nat) (m:List gi) (bs:List Bx) (rs:List Rw) (w:World) (k:List gi→List Bx→List Rw→World→Prop)
def FB:Prop:=Px l m [] (iE o.op) fun vs=>match o.dst with
 | some d=>bif Nat.blt d N then bif jD d m then
  ∃ R:Value→World→Prop,(∀ (a:Act) (o':Oper),o'.op=o.op→o'.type=o.type→wK a (iE o.op) vs→∃ v w',(execOp a.eval o').run Tryz.prog w=.ok (.value v) w'∧R v w') ∧
   ∀ v w',R v w'→∃ bs' rs',aV B w0 w' bs' rs'∧k (⟨d,n,[],true,v⟩::m) bs' rs' w'
  else False else False
 | none=>∃ R:World→Prop,(∀ (a:Act) (o':Oper),o'.op=o.op→o'.type=o.type→wK a (iE o.op) vs→∃ w',(execOp a.eval o').run Tryz.prog w=.ok .skip w'∧R w') ∧
  ∀ w',R w'→∃ bs' rs',aV B w0 w' bs' rs'∧k m bs' rs' w'
def cK(π:Pa)(t:Bool)(f:FuncId)(vs:List Value):Prop:=bif jr f TW then False else bif Nat.blt f NF then dK N m o.dst fun d=>(∃ v,ob π t (Calls Tryz.prog f vs.toArray w fun e w'=>e=.returned v∧auT w.heap.size w w') (∀ w',aV B w0 w' bs rs→k (⟨d,n,π,t,v⟩::m) bs rs w')) ∨
 (match π with
 | []=>∃ R:Value→World→Prop,(Calls Tryz.prog f vs.toArray w fun e w'=>∃ v,e=.returned v∧R v w')∧∀ v w',R v w'→∃ bs' rs',aV B w0 w' bs' rs'∧k (⟨d,n,[],true,v⟩::m) bs' rs' w'
 | π=>∃ R:Value→World→Prop,(t=true→Calls Tryz.prog f vs.toArray w fun e w'=>∃ v,e=.returned v∧R v w')∧(t=false→∃ v,R v w)∧∀ v w',R v w'→∃ bs' rs',aV B w0 w' bs' rs'∧k (⟨d,n,π,t,v⟩::m) bs' rs' w')
 else False
def apK(π:Pa)(c:Call):Prop:=TQ π (match c.args.toList with
 | [s,x]=>(match c.argTypes.toList with
  | [ty,ty']=>bif Nat.beq ty ty' then dK N m o.dst fun d=>qK l m π s fun v=>qK l m π x fun u=>D5 ty (fun D=>match D with
   | .sl e kk Qu=>bif Nat.blt 0 kk then apO B w0 bs rs w u v e kk Qu (fun v'=>k (⟨d,n,[],true,v'⟩::m)) else False
   | _=>False) TT else False
  | _=>False)
 | _=>False)
def Pm:Prop:=gK m o.guard fun π t=>match o.op with
 | .load ty x=>dK N m o.dst fun d=>qK l m π x fun u=>F6 u (AX π t fun v=>k (⟨d,n,π,t,v⟩::m) bs rs w) fun g off=>D5 ty (fun D=>ldK π t bs w D g off fun v=>k (⟨d,n,π,t,v⟩::m) bs rs w) TT
 | .store ty x y=>TQ π (match o.dst with
  | none=>(qK l m π x fun u=>qK l m π y fun v=>F6 u False fun g off=>D5 ty (fun D=>stK B w0 bs D g off v fun bs'=>∀ w',aV B w0 w' bs' rs→k m bs' rs w') TT) ∨
   (qK l m π x fun u=>qK l m π y fun v=>F6 u False fun g off=>D5 ty (fun D=>stR B w0 rs D g off v fun rs'=>∀ w',aV B w0 w' bs rs'→k m bs rs' w') TT)∨FB B w0 N l o n m w k
  | some _=>False)
 | .alloc ty=>TQ π (dK N m o.dst fun d=>∃ z,(Tryz.prog.info? ty).bind (·.zero)=some z∧bif Nat.blt ty 9000 then S8 z fun cs=>∀ g w',aV B w0 w' ((g,ty,cs)::bs) rs→k (⟨d,n,[],true,.pointer (some ⟨g,0,none⟩)⟩::m) ((g,ty,cs)::bs) rs w' else False)
 | .box ty x=>TQ π (dK N m o.dst fun d=>qK l m π x fun u=>bif Nat.blt ty 9000 then S8 u fun cs=>∀ g w',aV B w0 w' ((g,ty,cs)::bs) rs→k (⟨d,n,[],true,.pointer (some ⟨g,0,none⟩)⟩::m) ((g,ty,cs)::bs) rs w' else False)
 | .buildSlice ty len parts=>TQ π (dK N m o.dst fun d=>D5 ty (fun D=>match D with
  | .sl e kk _=>bif tQ 0 parts.toList then qR parts.toList len (bif Nat.blt 0 (len*kk) then bif Nat.ble (len*kk) 16777216 then bif Nat.blt e 9000 then Px l m π (parts.toList.map (·.2)) fun vs=>ZH kk vs fun cs=>∀ g w',aV B w0 w' ((g,e,cs.toArray)::bs) rs→k (⟨d,n,[],true,.slice (some ⟨g,0,none⟩) len len⟩::m) ((g,e,cs.toArray)::bs) rs w'
   else False else False else bif Nat.beq len 0 then bif Nat.blt e 9000 then ∀ g w',aV B w0 w' ((g,e,#[])::bs) rs→k (⟨d,n,[],true,.slice (some ⟨g,0,none⟩) 0 0⟩::m) ((g,e,#[])::bs) rs w' else False else False) else False
  | _=>False) TT)
 | .call c=>(match c.callee with
  | .value (.func f)=>Px l m π c.args.toList fun vs=>cK B w0 N o n m bs rs w k π t f vs
  | .value y=>qK l m π y fun u=>(match u with
   | .func (.func f) first cap=>Px l m π c.args.toList fun vs=>sJ first.toList vs fun xs=>sJ xs cap.toList fun ys=>cK B w0 N o n m bs rs w k π t f ys
   | _=>False)
  | .builtin .append=>apK B w0 N l o n m bs rs w k π c
  | .builtin .len=>dK N m o.dst fun d=>pop l m π t (fun v=>k (⟨d,n,π,t,v⟩::m) bs rs w) (.call c)
  | _=>TQ π (FB B w0 N l o n m w k))
 | .insert _ _ _ _|.makeMap _ _|.makeChan _ _|.makeSlice _ _ _|.mapUpdate _ _ _ _|.mapEntry _ _ _|.entryStore _ _ _ _|.range _ _|.next _ _|.entry _|.typeAssert _ _ _ _|.panic _|.lookup _ _ _ _|.slice _ _ _ _ _=>TQ π (FB B w0 N l o n m w k)
 | op=>dK N m o.dst fun d=>pop l m π t (fun v=>k (⟨d,n,π,t,v⟩::m) bs rs w) op
end
def isN(o:Option Value):Bool:=match o with
 | none=>true
 | some _=>false
def pT:List gi→Slots→(Slots→Prop)→Prop
 | [],l,f=>f l
 | ⟨s,_,p,t,v⟩::r,l,f=>match p with
  | []=>pT r l fun l'=>f ((s,v)::l')
  | _::_=>bif isN (look s l) then pT r l f else pT r l fun l'=>f ((s,gd t v)::l')
theorem nk:∀ {m:List gi} {l:Slots} {f:Slots→Prop},pT m l f→∃ l',f l'∧∀ q v,look q l'=some v→(∃ e∈m,e.s=q∧((e.p=[]∧v=e.v)∨v=gd e.t e.v))∨(look q l=some v∧∀ e∈m,e.s≠q)
 | [],l,_,h=>⟨l,h,fun _ _ h=>.inr ⟨h,by simp⟩⟩
 | ⟨s,j,p,t,v⟩::r,l,f,h=>by
  have key:∀ (v':Value),((p=[]∧v'=v)∨v'=gd t v)→(∃ l',f ((s,v')::l')∧∀ q v,look q l'=some v→(∃ e∈r,e.s=q∧((e.p=[]∧v=e.v)∨v=gd e.t e.v))∨(look q l=some v∧∀ e∈r,e.s≠q)) →
   ∃ l',f l'∧∀ q u,look q l'=some u→(∃ e∈(⟨s,j,p,t,v⟩:gi)::r,e.s=q∧((e.p=[]∧u=e.v)∨u=gd e.t e.v))∨(look q l=some u∧∀ e∈(⟨s,j,p,t,v⟩:gi)::r,e.s≠q):=by
   rintro v' hv ⟨l',h1,h2⟩;refine⟨_,h1,fun q u hq=>?_⟩;rw[bH] at hq
   cases e:q == s with
   | true=>
    rw[e] at hq;have e1:v'=u:=auQ hq;subst e1;exact .inl ⟨_,auR ..,(by simpa using e:q=s).symm,hv⟩
   | false=>
    rw[e] at hq;rcases h2 q u hq with⟨e',h3,h4⟩|⟨h3,h4⟩
    ·exact .inl ⟨e',auO _ h3,h4⟩
    ·refine .inr ⟨h3,fun e' he'=>?_⟩;rcases auN.1 he' with rfl|he'
     ·exact fun h=>(by simpa using e:q≠s) h.symm
     ·exact h4 e' he'
  cases p with
  | nil=>exact key v (.inl ⟨rfl,rfl⟩) (nk (f:=fun l'=>f ((s,v)::l')) h)
  | cons x p=>
   have h:bif isN (look s l) then pT r l f else pT r l fun l'=>f ((s,gd t v)::l'):=h
   cases hn:isN (look s l) with
   | false=>
    rw[hn] at h;exact key _ (.inr rfl) (nk (f:=fun l'=>f ((s,gd t v)::l')) h)
   | true=>
    rw[hn] at h
    have hnone:look s l=none:=by
     cases hl:look s l with
     | none=>rfl
     | some u=>rw[hl] at hn;cases hn
    obtain⟨l',h1,h2⟩:=nk h;refine⟨l',h1,fun q u hq=>?_⟩;rcases h2 q u hq with⟨e',h3,h4⟩|⟨h3,h4⟩
    ·exact .inl ⟨e',auO _ h3,h4⟩
    ·refine .inr ⟨h3,fun e' he'=>?_⟩;rcases auN.1 he' with rfl|he'
     ·intro hs;have hs:s=q:=hs;rw[← hs,hnone] at h3;cases h3
     ·exact h4 e' he'
def vc(B:Nat)(w0:World)(N:Nat)(l:Slots):List Oper→Nat→List gi→List Bx→List Rw→World→(Slots→List Bx→List Rw→World→Prop)→Prop
 | [],_,m,bs,rs,w,K=>pT m l fun l'=>K l' bs rs w
 | o::r,n,m,bs,rs,w,K=>Pm B w0 N l o n m bs rs w fun m' bs' rs' w'=>vc B w0 N l r (n+1) m' bs' rs' w' K
structure Inv (ops:Array Oper) (a:Act) (N:Nat) (l:Slots) (m:List gi) (n:Nat):Prop where
 fr:Fr a N
 L:jm m n
 dst:∀ e∈m,(ops[e.j]?).bind (·.dst)=some e.s
 at_:∀ e∈m,At a e.s (gd e.t e.v)
 base:∀ q v,(∀ e∈m,e.s≠q)→look q l=some v→At a q v
section
variable {ops:Array Oper} {a a':Act} {N:Nat} {l:Slots} {m:List gi} {n:Nat} {o:Oper}
theorem Inv.start(F:Fs a N l):Inv ops a N l [] 0:=⟨F.fr,.nil 0,by simp,by simp,fun q v _ h=>F.at_ q v h⟩
theorem Inv.E(I:Inv ops a N l m n){x:Operand}{π:Pa}{v:Value}(h:Fo l m π x v)(hc:∀ y∈π,Cond m y):a.eval x=v:=by
 cases x with
 | tmp q=>
  rcases h with⟨e,he,rfl,rfl,hs⟩|⟨h1,h2⟩
  ·have ht:e.t=true:=(I.L.tv e he).2 fun y hy=>hc y (Ak hs y hy)
   exact((I.at_ e he).on ht).ev
  ·exact(I.base q v h1 h2).ev
 | const u=>exact h
 | global=>exact h.elim
 | func f=>exact h
theorem Inv.put(I:Inv ops a N l m n)(ho:ops[n]?=some o){d:Nat}(hd:o.dst=some d)(hfr:jD d m=true){π:Pa}(hp:∀ x∈π,∃ e∈m,e.j=x.1){t:Bool}(ht:t=true↔∀ x∈π,Cond m x){v:Value}(p:Put a d (gd t v) a'):Inv ops a' N l (⟨d,n,π,t,v⟩::m) (n+1):=by
 have hne:=Sw hfr;refine⟨p.fr I.fr,I.L.put hp ht,?_,?_,?_⟩
 ·intro e he;rcases auN.1 he with rfl|he
  ·simp[ho,hd]
  ·exact I.dst e he
 ·intro e he;rcases auN.1 he with rfl|he
  ·exact p.now
  ·exact p.old (by simpa using hne e he) (I.at_ e he)
 ·intro q u hq hl;exact p.old (by have:=hq _ (auR ..);simp only at this;simpa using fun e=>this e.symm) (I.base q u (fun e he=>hq e (auO _ he)) hl)
theorem Inv.next(I:Inv ops a N l m n):Inv ops a N l m (n+1):=⟨I.fr,I.L.mono (Nat.le_succ n),I.dst,I.at_,I.base⟩
theorem Inv.fsK(I:Inv ops a N l m n){f:Slots→Prop}(h:pT m l f):∃ l',f l'∧Fs a N l':=by
 obtain⟨l',h1,h2⟩:=nk h;refine⟨l',h1,I.fr,fun q v hq=>?_⟩;rcases h2 q v hq with⟨e,he,rfl,h3⟩|⟨h3,h4⟩
 ·rcases h3 with⟨hp,rfl⟩|rfl
  ·exact(I.at_ e he).on ((I.L.tv e he).2 (by rw[hp];simp))
  ·exact I.at_ e he
 ·exact I.base q v h4 h3
theorem Qa(hL:jm m n){g:Option (Nat×Bool)}{f:Pa→Bool→Prop}(h:gK m g f):∃ π t,f π t∧(∀ x∈π,∃ e∈m,e.j=x.1)∧(t=true↔∀ x∈π,Cond m x)∧(π=[]→t=true) ∧
 ((g=none∧t=true)∨∃ e∈m,∃ b c,g=some (e.j,b)∧e.v=.bool c∧(t=true↔e.t=true∧c=b)):=by
 unfold gK at h;split at h
 ·exact⟨_,_,h,by simp,by simp,fun _=>rfl,.inl ⟨rfl,rfl⟩⟩
 ·rename_i j b;obtain⟨e,he,rfl,h⟩:=ab2 h;split at h
  ·rename_i c hv;have h:=abC h;obtain⟨h1,h2,h3⟩:=hL.guard he hv (b:=b);exact⟨_,_,h,h1,h2,fun h=>(by cases h),.inr ⟨e,he,b,c,rfl,hv,h3⟩⟩
  ·exact h.elim
theorem rO{t:Bool}(hg:(o.guard=none∧t=true)∨∃ e∈m,∃ b c,o.guard=some (e.j,b)∧e.v=.bool c∧(t=true↔e.t=true∧c=b))
 (hd:∀ e∈m,(∃ b,o.guard=some (e.j,b))→(ops[e.j]?).bind (·.dst)=some e.s∧At a e.s (gd e.t e.v)):Region.wanted o (yielded ops a.tmps)=t:=by
 rcases hg with⟨h1,rfl⟩|⟨e,he,b,c,hg,hv,h3⟩
 ·exact j8 h1
 ·obtain⟨hds,hat⟩:=hd e he ⟨b,hg⟩;rw[hv] at hat
  cases t with
  | true=>
   obtain⟨h4,rfl⟩:=h3.1 rfl;exact JK hg hds (hat.on h4)
  | false=>
   cases h4:e.t with
   | false=>
    rw[h4] at hat
    exact RJ hg hds hat
   | true=>
    have hne:¬ c=b:=fun e2=>by
     have:=h3.2 ⟨h4,e2⟩;cases this
    exact EM hg hds (hat.on h4) (by cases c<;>cases b<;>simp_all)
theorem agi(I:Inv ops a N l m n){f:Pa→Bool→Prop}(h:gK m o.guard f):∃ π t,f π t∧(∀ x∈π,∃ e∈m,e.j=x.1)∧(t=true↔∀ x∈π,Cond m x)∧Region.wanted o (yielded ops a.tmps)=t∧(π=[]→t=true):=by
 obtain⟨π,t,h1,h2,h3,h4,h5⟩:=Qa I.L h;exact⟨π,t,h1,h2,h3,rO h5 fun e he _=>⟨I.dst e he,I.at_ e he⟩,h4⟩
theorem iF{dst:Option Nat}{f:Nat→Prop}(h:dK N m dst f):∃ d,dst=some d∧Nat.blt d N=true∧jD d m=true∧f d:=by
 unfold dK at h;split at h
 ·rename_i d
  cases h1:Nat.blt d N with
  | false=>rw[h1] at h;exact h.elim
  | true=>
   rw[h1] at h
   cases h2:jD d m with
   | false=>rw[h2] at h;exact h.elim
   | true=>rw[h2] at h;exact⟨d,rfl,h1,h2,h⟩
 ·exact h.elim
theorem nM{π:Pa}{p:Prop}(h:TQ π p):π=[]∧p:=by
 unfold TQ at h;split at h
 ·exact⟨rfl,h⟩
 ·exact h.elim
theorem bI{b:Bool}{p:Prop}(h:bif b then p else False):b=true∧p:=by
 cases b with
 | true=>exact⟨rfl,h⟩
 | false=>exact h.elim
end
section
variable {ops:Array Oper} {a:Act} {N:Nat} {l:Slots} {m:List gi} {n:Nat} {o:Oper} {B:Nat} {w0 w:World} {bs:List Bx} {rs:List Rw} {k:List gi→List Bx→List Rw→World→Prop} {rest:List Oper} {Q:Exit→Act→World→Prop} {π:Pa} {t:Bool} {d:Nat} {v:Value}
theorem ahJ(hw:Region.wanted o (yielded ops a.tmps)=t)(hr:t=true→(execOp a.eval o).run Tryz.prog w=.ok (.value v) w)(hd:o.dst=some d)(hf:Fr a N)(hN:Nat.blt d N=true)(next:∀ a',Put a d (gd t v) a'→wpList Tryz.prog ops Q rest a' w):wpList Tryz.prog ops Q (o::rest) a w:=by
 cases t with
 | true=>exact oZ hw (hr rfl) hd hf (by simpa using hN) next
 | false=>exact Br hw hd hf (by simpa using hN) next
theorem vO{a:Act}:∀ {xs:List Operand} {vs:List Value},wK a xs vs→xs.map a.eval=vs
 | _,_,.nil=>rfl
 | _,_,.cons h r=>by rw[List.map_cons,vO r];exact congrArg (·::_) h
theorem jG{a:Act}{xs:Array Operand}{vs:List Value}(h:wK a xs.toList vs):xs.map a.eval=vs.toArray:=by
 apply Array.toList_inj.1;rw[Array.toList_map];exact vO h
theorem Inv.evs(I:Inv ops a N l m n){xs:List Operand}{vs:List Value}(h:DQ (Fo l m π) xs vs)(hc:∀ y∈π,Cond m y):wK a xs vs:=yF h hc fun _ _ _ _ h hc=>I.E h hc
theorem Ck{f:FuncId}(h1:Nat.blt f NF=true)(h2:jr f TW=false):Ax Tryz.prog f=true:=by
 have:=au0.1 agK f (by simpa using h1);rw[h2,Bool.or_false] at this;exact this
theorem JL{f:FuncId}(hf:Ax Tryz.prog f=true){x:Operand}{xs:Array Operand}{ts:Array TypeId}{first cap args:Array Value}(ho:o.op=.call { callee:=.value x,args:=xs,argTypes:=ts })(hx:a.eval x=.func (.func f) first cap)(ha:first++xs.map a.eval++cap=args):(execOp a.eval o).run Tryz.prog w=.ok (.enter f args) w:=by
 unfold Ax at hf;split at hf
 ·rename_i fn hfn;rw[au1,Bool.not_eq_true'] at hf;obtain⟨c,hc⟩:=Option.isSome_iff_exists.1 hf.2;exact GY ho hx hfn hf.1 hc ha
 ·cases hf
theorem aa9(I:Inv ops a N l m n)(M:aV B w0 w bs rs)(ho:ops[n]?=some o)(hp:∀ x∈π,∃ e∈m,e.j=x.1)(ht:t=true↔∀ x∈π,Cond m x)(hw:Region.wanted o (yielded ops a.tmps)=t)(h0:π=[]→t=true){f:FuncId}{vs:List Value}
 (h:cK B w0 N o n m bs rs w k π t f vs) (hrun:t=true→Ax Tryz.prog f=true→(execOp a.eval o).run Tryz.prog w=.ok (.enter f vs.toArray) w)
 (next:∀ a' m' bs' rs' w',Inv ops a' N l m' (n+1)→aV B w0 w' bs' rs'→k m' bs' rs' w'→wpList Tryz.prog ops Q rest a' w'):wpList Tryz.prog ops Q (o::rest) a w:=by
 unfold cK at h
 cases hm:jr f TW with
 | true=>rw[hm] at h;exact h.elim
 | false=>
  rw[hm] at h;obtain⟨hb,h⟩:=bI h;obtain⟨d,hd,hN,hfr,h⟩:=iF h;have hok:=Ck hb hm;rcases h with⟨v,h⟩|h
  ·obtain⟨h1,h2⟩:=iw h
   cases t with
   | true=>
    refine kS hw (hrun rfl hok) (yK (h1 rfl)) hd I.fr (by simpa using hN) fun u a' w' h3 p=>?_
    obtain⟨rfl,h3⟩:=h3;exact next a' _ _ _ _ (I.put ho hd hfr hp ht p) (M.keep h3) (h2 w' (M.keep h3))
   | false=>exact Br hw hd I.fr (by simpa using hN) fun a' p=>next a' _ _ _ _ (I.put ho hd hfr hp ht p) M (h2 w M)
  ·split at h
   ·obtain⟨R,h1,h2⟩:=h;obtain rfl:=h0 rfl;refine kS hw (hrun rfl hok) h1 hd I.fr (by simpa using hN) fun u a' w' h3 p=>?_
    obtain⟨bs',rs',M',h4⟩:=h2 u w' h3;exact next a' _ _ _ _ (I.put (t:=true) (v:=u) ho hd hfr (by simp) (by simp) p) M' h4
   ·obtain⟨R,h1,h2,h5⟩:=h
    cases t with
    | true=>
     refine kS hw (hrun rfl hok) (h1 rfl) hd I.fr (by simpa using hN) fun u a' w' h3 p=>?_
     obtain⟨bs',rs',M',h4⟩:=h5 u w' h3;exact next a' _ _ _ _ (I.put (t:=true) (v:=u) ho hd hfr hp ht p) M' h4
    | false=>
     obtain⟨v,hv⟩:=h2 rfl;obtain⟨bs',rs',M',h4⟩:=h5 v w hv;exact Br hw hd I.fr (by simpa using hN) fun a' p=>next a' _ _ _ _ (I.put (t:=false) (v:=v) ho hd hfr hp ht p) M' h4
theorem XK(I:Inv ops a N l m n)(ho:ops[n]?=some o)(hw:Region.wanted o (yielded ops a.tmps)=true)(h:FB B w0 N l o n m w k)
 (next:∀ a' m' bs' rs' w',Inv ops a' N l m' (n+1)→aV B w0 w' bs' rs'→k m' bs' rs' w'→wpList Tryz.prog ops Q rest a' w'):wpList Tryz.prog ops Q (o::rest) a w:=by
 obtain⟨vs,h1,h⟩:=kH h;have oV:=I.evs h1 (by simp);split at h
 ·rename_i d hd;obtain⟨hN,h⟩:=bI h;obtain⟨hfr,R,h2,h3⟩:=bI h;obtain⟨v,w',h4,h5⟩:=h2 a o rfl rfl oV;obtain⟨bs',rs',M',h6⟩:=h3 v w' h5;exact oZ hw h4 hd I.fr (by simpa using hN) fun a' p=>next a' _ _ _ _ (I.put (t:=true) (v:=v) ho hd hfr (by simp) (by simp) p) M' h6
 ·rename_i hd;obtain⟨R,h2,h3⟩:=h;obtain⟨w',h4,h5⟩:=h2 a o rfl rfl oV;obtain⟨bs',rs',M',h6⟩:=h3 w' h5;exact X5 hw h4 hd (next a _ _ _ _ I.next M' h6)
theorem VH{D:TD}{g off:Nat}{kk:Value→Prop}(M:aV B w0 w bs rs)(h:ldK π t bs w D g off kk){ty:TypeId}(hD:jt Tryz.prog ty D=true):∃ v,kk v∧(t=true→∀ w',auT w.heap.size w w'→∀ (a:Act) (o:Oper) (x:Operand),o.op=.load ty x→a.eval x=.pointer (some ⟨g,off,none⟩)→(execOp a.eval o).run Tryz.prog w'=.ok (.value v) w'):=by
 unfold ldK at h
 cases h1:D.one' with
 | true=>
  rw[h1] at h;obtain⟨dd,hu,hd⟩:=UL hD h1;rcases h with⟨i,h⟩|⟨v,h⟩
  ·obtain⟨⟨b,T,cs⟩,hb,h⟩:=gV h;obtain⟨hT,h⟩:=bI h;obtain⟨h2,h3⟩:=iw h;obtain⟨v,h4,h5⟩:=gV h3;refine⟨v,h5,fun bD w' hb' a o x ho hx=>?_⟩;obtain rfl:=h2 bD;exact dB ho hx hu (by cases dd<;>first|rfl|cases hd) (((M.keep hb').b i hb hT).cell off▸by simpa using h4)
  ·obtain⟨h2,h3⟩:=iw h;exact⟨v,h3,fun bD w' hb' a o x ho hx=>dB ho hx hu (by cases dd<;>first|rfl|cases hd) (cell_later hb' (h2 bD))⟩
 | false=>
  rw[h1] at h;obtain⟨dd,hu,hd,hs⟩:=Aj hD h1;rcases h with⟨i,h⟩|⟨cs,h⟩
  ·obtain⟨⟨b,T,cs⟩,hb,h⟩:=gV h;obtain⟨hT,h⟩:=bI h;obtain⟨h2,h3⟩:=iw h;obtain⟨h4,h5⟩:=KE h3;obtain⟨h6,h7⟩:=Jj h5;refine⟨_,h7,fun bD w' hb' a o x ho hx=>?_⟩;obtain rfl:=h2 bD;refine g_ _ ho hx hu (by cases dd<;>first|rfl|cases hd) (hs.trans ?_) (Bu ((M.keep hb').b i hb hT) ?_)
   ·rw[au2,Nat.min_eq_left h6]
   ·rw[au2,Nat.min_eq_left h6]
  ·obtain⟨h2,h3⟩:=iw h;obtain⟨h4,h5⟩:=iJ h3;exact⟨_,h5,fun bD w' hb' a o x ho hx=>g_ cs ho hx hu (by cases dd<;>first|rfl|cases hd) (hs.trans (by rw[h4])) fun j u hu=>cell_later hb' (h2 bD j u hu)⟩
theorem YH{w':World}{B e n cap kk off j g:Nat}{xs l:List Value}{cur:Array Value}(hg:B≤g)(hnc:n≤cap)(hcm:cap≤maxLen)(hcs:cur.size=cap*kk)(ht:cur.toList.take (n*kk)=xs)(hoff:off=j*kk)(hj:j<n)(hl:l.length=kk)
 (h':Whole w' g e (splice cur off l)):w'.ownsRow B e kk (.slice (some ⟨g,0,none⟩) n cap) n (xs.take off++l++xs.drop (off+kk)):=by
 have h1:off+kk≤n*kk:=by rw[hoff,← Nat.succ_mul];exact au3 _ hj
 have h2:n*kk≤cap*kk:=au3 _ hnc;have hx:xs.length=n*kk:=by rw[← ht,au2,Array.length_toList,hcs];omega
 refine⟨by simp[hx,hl];omega,.inr ⟨g,cap,_,rfl,hg,h',hnc,hcm,by rw[zi,hcs],?_⟩⟩;rw[nI _ _ _ (by rw[hcs,hl];omega),hl,← ht];have hlen:(cur.toList.take off++l).length=off+kk:=by rw[List.length_append,au2,Array.length_toList,hl,hcs];omega
 rw[List.take_append,List.take_of_length_le (by rw[hlen];omega),hlen,List.take_take,Nat.min_eq_left (by omega),List.drop_take]
theorem abF{D:TD}{g off:Nat}{kk:List Rw→Prop}(M:aV B w0 w bs rs)(h:stR B w0 rs D g off v kk){ty:TypeId}(hD:jt Tryz.prog ty D=true)(hw:Region.wanted o (yielded ops a.tmps)=true){x y:Operand}(ho:o.op=.store ty x y)(hx:a.eval x=.pointer (some ⟨g,off,none⟩))(hy:a.eval y=v)(hd:o.dst=none)
 (next:∀ rs' w',aV B w0 w' bs rs'→kk rs'→wpList Tryz.prog ops Q rest a w'):wpList Tryz.prog ops Q (o::rest) a w:=by
 obtain⟨i,j,e,n,cap,xs,⟨hi,hoff,hj⟩,h1,hW,h⟩:=h;obtain⟨h2,h3⟩:=iJ h;have h4:=Am h3;obtain⟨g',cap',cur,hv,hg,hH,hn,hm,hs,ht⟩:=vm (M.r i hi) (Nat.zero_lt_of_lt hj);injection hv with e1 e2 e3;injection e1 with e1;injection e1 with e1;subst e1 e3
 have hfit:off+(aY v).length≤cur.size:=by
  have h5:off+i_ D≤n*i_ D:=by rw[hoff,← Nat.succ_mul];exact au3 _ hj
  rw[h2,hs];exact auU h5 (au3 _ hn)
 exact qo hw ho hx hy hH (lK v) hfit ((Ai hD).trans (by rw[h2])) h1 rfl hd fun w' s h'=>next _ w' (M.grow i hi (YH hg hn hm hs ht hoff hj h2 h') s.grown (.inl rfl) hW) h4
theorem abG{D:TD}{g off:Nat}{kk:List Bx→Prop}(M:aV B w0 w bs rs)(h:stK B w0 bs D g off v kk){ty:TypeId}(hD:jt Tryz.prog ty D=true)(hw:Region.wanted o (yielded ops a.tmps)=true){x y:Operand}(ho:o.op=.store ty x y)(hx:a.eval x=.pointer (some ⟨g,off,none⟩))(hy:a.eval y=v)(hd:o.dst=none)
 (next:∀ bs' w',aV B w0 w' bs' rs→kk bs'→wpList Tryz.prog ops Q rest a w'):wpList Tryz.prog ops Q (o::rest) a w:=by
 obtain⟨i,h⟩:=h;obtain⟨⟨b,T,cs⟩,hb,h⟩:=gV h;obtain⟨hT,h⟩:=bI h
 have key:(b=g∧(aY v).all (·.oneCell')=true)→(Nat.beq T 52=false∨w0.heap.size≤B)→qR (aY v) (i_ D) (Js cs.toList off (aY v) fun cs'=>BW bs i (b,T,cs'.toArray) kk)→wpList Tryz.prog ops Q (o::rest) a w:=by
  rintro⟨rfl,h1⟩ hW h;obtain⟨h2,h3⟩:=iJ h;obtain⟨h4,h5⟩:=Yn h3;have h6:=Am h5;rw[Array.length_toList] at h4
  have hsp:splice cs off (aY v)=(cs.toList.take off++aY v++cs.toList.drop (off+(aY v).length)).toArray:=by
   apply Array.toList_inj.1;rw[nI _ _ _ h4]
  refine qo hw ho hx hy (M.b i hb hT) (lK v) h4 ((Ai hD).trans (by rw[h2])) h1 hsp hd fun w' s h'=>next _ w' (M.sto i hb s h' hT hW) h6
 cases hq:Nat.beq T 52 with
 | true=>
  rw[hq] at h;obtain⟨⟨h1,h2⟩,h3⟩:=h;exact key h1 (.inr h2) h3
 | false=>
  rw[hq] at h;exact key h.1 (.inl hq) h.2
end
theorem Bp(off:Nat):∀ (l:List Value) (j:Nat) (cs:Array Value),(l.zipIdx j).foldl (fun cs (c,j)=>cs.setIfInBounds (off+j) c) cs=splice cs (off+j) l
 | [],_,_=>rfl
 | v::r,j,cs=>by
  rw[List.zipIdx_cons,List.foldl_cons,Bp off r (j+1)];rfl
def Dg:Nat→List Value→List (Nat×Value)
 | _,[]=>[]
 | i,v::r=>(i,v)::Dg (i+1) r
theorem BQ(cs:Array Value):∀ (o:Nat) (l r:List Value),splice (splice cs o l) (o+l.length) r=splice cs o (l++r)
 | _,[],_=>rfl
 | o,v::l,r=>by
  show splice (splice (cs.setIfInBounds o v) (o+1) l) (o+(l.length+1)) r=splice (cs.setIfInBounds o v) (o+1) (l++r);rw[← BQ _ (o+1) l r];congr 1;omega
theorem Kx(k:Nat):∀ (vs:List Value) (i:Nat) (cells:Array Value),(∀ v∈vs,v.cells.size=k)→(i+vs.length)*k≤cells.size →
 Instr.fill (fun i=>some (i*k,k)) cells (Dg i vs)=some (splice cells (i*k) (vs.flatMap fun v=>v.cells.toList))
 | [],_,_,_,_=>rfl
 | v::r,i,cells,h,hs=>by
  have hv:=h v (auR ..)
  have hk:i*k+k≤cells.size:=by
   refine auU ?_ hs;rw[← Nat.succ_mul];exact au3 _ (by simp)
  have hst:v.cells.zipIdx.foldl (fun cs (c,j)=>cs.setIfInBounds (i*k+j) c) cells=splice cells (i*k) v.cells.toList:=by
   rw[← Array.foldl_toList,Array.toList_zipIdx];exact Bp (i*k) v.cells.toList 0 cells
  show(if v.cells.size≠k||i*k+v.cells.size>cells.size then none else Instr.fill (fun i=>some (i*k,k)) (v.cells.zipIdx.foldl (fun cs (c,j)=>cs.setIfInBounds (i*k+j) c) cells) (Dg (i+1) r))=_
  rw[hst,if_neg (by rw[hv];simp;omega),Kx k r (i+1) _ (fun u hu=>h u (auO _ hu)) (by
   rw[zi];refine auU (Nat.le_of_eq ?_) hs;congr 1;simp only[List.length_cons];omega)]
  rw[List.flatMap_cons,← BQ];have:(i+1)*k=i*k+v.cells.toList.length:=by rw[Nat.succ_mul,Array.length_toList,hv]
  rw[this]
theorem Il{kk:Nat}:∀ {vs:List Value} {f:List Value→Prop},ZH kk vs f→f (vs.flatMap fun v=>v.cells.toList)∧∀ v∈vs,v.cells.size=kk
 | [],_,h=>⟨h,by simp⟩
 | v::r,f,h=>by
  have h1:=vY h;obtain⟨h2,h3⟩:=iJ h1;obtain⟨h4,h5⟩:=Il h3;refine⟨by rw[List.flatMap_cons];exact iL h4,fun u hu=>?_⟩;rcases auN.1 hu with rfl|hu
  ·simpa using h2
  ·exact h5 u hu
theorem EI{a:Act}:∀ {i:Nat} {ps:List (Nat×Operand)} {vs:List Value},tQ i ps=true→wK a (ps.map (·.2)) vs→ps.map (fun(i,x)=>(i,a.eval x))=Dg i vs
 | _,[],_,_,h=>by cases h;rfl
 | i,(j,x)::r,vs,hp,h=>by
  cases h with
  | cons h1 h2=>
   unfold tQ at hp
   cases hb:Nat.beq i j with
   | false=>rw[hb] at hp;cases hp
   | true=>
    rw[hb] at hp;rw[List.map_cons,EI hp h2,← au4 hb];simp only[Dg,h1]
theorem Zw{a:Act}{xs:List Operand}{vs:List Value}(h:wK a xs vs):vs.length=xs.length:=by
 rw[← vO h,au5]
section
variable {ops:Array Oper} {a:Act} {N:Nat} {l:Slots} {m:List gi} {n:Nat} {o:Oper} {B:Nat} {w0 w:World} {bs:List Bx} {rs:List Rw} {k:List gi→List Bx→List Rw→World→Prop} {rest:List Oper} {Q:Exit→Act→World→Prop}
theorem rQ{ty len e kk Qu:Nat}{parts:Array (Nat×Operand)}(ho:o.op=.buildSlice ty len parts)(hD:jt Tryz.prog ty (.sl e kk Qu)=true)(hp:tQ 0 parts.toList=true)(hl:parts.toList.length=len)(h0:0<len*kk)(h1:len*kk≤2^24)
 {vs:List Value} (oV:wK a (parts.toList.map (·.2)) vs) (hc:∀ v∈vs,v.cells.size=kk) :
 (execOp a.eval o).run Tryz.prog w=.ok (.value (.slice (some ⟨w.heap.size,0,none⟩) len len)) (w.alloc (.cells (vs.flatMap fun v=>v.cells.toList).toArray e)):=by
 obtain⟨hu,hi⟩:=Ez hD;obtain⟨ti,z,i1,i2,i3,i4,i5⟩:=nO hi;have hvl:vs.length=len:=by rw[Zw oV,au5,hl]
 have hcl:(vs.flatMap fun v=>v.cells.toList).length=len*kk:=by
  rw[← hvl];clear oV hvl
  induction vs with
  | nil=>simp
  | cons v r ih=>
   rw[List.flatMap_cons,List.length_append,ih (fun u hu=>hc u (auO _ hu)),Array.length_toList,hc v (auR ..),List.length_cons,Nat.succ_mul,Nat.add_comm]
 refine pU (z:=z) (pv:=(Dg 0 vs).toArray) ho hu (CK hi) (by rw[i1];exact i2) h1 h0 ?_ ?_
 ·apply Array.toList_inj.1;rw[Array.toList_map];exact EI hp oV
 ·have hsz:((Array.range (len*kk)).map (z.cells[·%z.cells.size]!)).size=len*kk:=by simp
  show Instr.fill _ _ (Dg 0 vs)=_;rw[Kx kk vs 0 _ hc (by rw[hsz,Nat.zero_add,hvl];exact Nat.le_refl _),Nat.zero_mul,lF _ _ (by rw[hsz,hcl])]
theorem MG{ty e kk Qu:Nat}(ho:o.op=.buildSlice ty 0 #[])(hD:jt Tryz.prog ty (.sl e kk Qu)=true):
 (execOp a.eval o).run Tryz.prog w=.ok (.value (.slice (some ⟨w.heap.size,0,none⟩) 0 0)) (w.alloc (.cells #[] e)):=by
 obtain⟨hu,hi⟩:=Ez hD;obtain⟨ti,z,i1,-⟩:=nO hi
 have h:(Instr.buildSlice ty 0 #[]).run Tryz.prog w=.ok (.slice (some ⟨w.heap.size,0,none⟩) 0 0) (w.alloc (.cells #[] e)):=by
  simp[Instr.buildSlice,run_underlying hu,sizeOf,typeInfo,i1,newRow,Instr.fill];exact congrArg (fun x=>w.alloc (Obj.cells x e)) (Array.eq_empty_of_size_eq_zero (by simp))
 unfold execOp;simp only[ho,auY,Array.map_empty,h,Result.andThen_ok,Sem.run_pure]
theorem Al(I:Inv ops a N l m n)(M:aV B w0 w bs rs)(ho:ops[n]?=some o)(h:Pm B w0 N l o n m bs rs w k)
 (next:∀ a' m' bs' rs' w',Inv ops a' N l m' (n+1)→aV B w0 w' bs' rs'→k m' bs' rs' w'→wpList Tryz.prog ops Q rest a' w'):wpList Tryz.prog ops Q (o::rest) a w:=by
 obtain⟨π,t,h,hp,ht,hw,h0⟩:=agi I h
 have hval:∀ {d:Nat} {v:Value},o.dst=some d→Nat.blt d N=true→jD d m=true→(t=true→(execOp a.eval o).run Tryz.prog w=.ok (.value v) w)→k (⟨d,n,π,t,v⟩::m) bs rs w→wpList Tryz.prog ops Q (o::rest) a w:=
  fun hd hN hfr hr hk=>ahJ hw hr hd I.fr hN fun a' p=>next a' _ _ _ _ (I.put ho hd hfr hp ht p) M hk
 have Wd:∀ {op:Op} {d:Nat},o.op=op→o.dst=some d→Nat.blt d N=true→jD d m=true→pop l m π t (fun v=>k (⟨d,n,π,t,v⟩::m) bs rs w) op→wpList Tryz.prog ops Q (o::rest) a w:=fun hop hd hN hfr h=>by
  obtain⟨v,h1,h2⟩:=MV I.L ht h;exact hval hd hN hfr (fun bD=>h2 a w o hop (fun x _ π' v h hc=>I.E h hc) bD) h1
 have hnew:∀ {d:Nat} {f:Nat→Value} {ty:TypeId} {cs:Array Value},π=[]→Nat.blt ty 9000=true→(execOp a.eval o).run Tryz.prog w=.ok (.value (f w.heap.size)) (w.alloc (.cells cs ty))→o.dst=some d→Nat.blt d N=true→jD d m=true →
  (∀ g w',aV B w0 w' ((g,ty,cs)::bs) rs→k (⟨d,n,[],true,f g⟩::m) ((g,ty,cs)::bs) rs w')→wpList Tryz.prog ops Q (o::rest) a w:=fun hπ hty hr hd hN hfr hk=>
  Bs (hw.trans (h0 hπ)) hr hd I.fr (by simpa using hN) fun g a' w' nn p=>next a' _ _ _ _ (I.put (t:=true) ho hd hfr (by simp) (by simp) p) (M.new nn hty) (hk g w' (M.new nn hty))
 split at h
 ·rename_i ty x hop;obtain⟨d,hd,hN,hfr,h⟩:=iF h;obtain⟨u,h1,h⟩:=b_ h;rcases pI h with⟨g,off,rfl,hq⟩|h
  case inr=>
   obtain⟨h2,h3⟩:=WJ h;exact hval hd hN hfr (fun bD=>(h2 bD).elim) h3
  obtain⟨D,hD,h⟩:=j4 hq;obtain⟨v,h2,h3⟩:=VH M h hD;exact hval hd hN hfr (fun bD=>h3 bD w (Below.refl _ _) a o x hop (I.E h1 (ht.1 bD))) h2
 ·rename_i ty x y hop;obtain⟨rfl,h⟩:=nM h;obtain rfl:=h0 rfl;split at h
  ·rename_i hd;rcases h with h|h|h
   ·obtain⟨u,h1,h⟩:=b_ h;obtain⟨v,h2,h⟩:=b_ h;rcases pI h with⟨g,off,rfl,hq⟩|h
    case inr=>exact h.elim
    obtain⟨D,hD,h⟩:=j4 hq;exact abG M h hD hw hop (I.E h1 (by simp)) (I.E h2 (by simp)) hd fun bs' w' M' h=>next a _ _ _ _ I.next M' (h w' M')
   ·obtain⟨u,h1,h⟩:=b_ h;obtain⟨v,h2,h⟩:=b_ h;rcases pI h with⟨g,off,rfl,hq⟩|h
    case inr=>exact h.elim
    obtain⟨D,hD,h⟩:=j4 hq;exact abF M h hD hw hop (I.E h1 (by simp)) (I.E h2 (by simp)) hd fun rs' w' M' h=>next a _ _ _ _ I.next M' (h w' M')
   ·exact XK I ho hw h next
  ·exact h.elim
 ·rename_i ty hop;obtain⟨hπ,h⟩:=nM h;obtain⟨d,hd,hN,hfr,z,hz,h⟩:=iF h;obtain⟨hty,h⟩:=bI h;exact hnew (f:=fun n=>.pointer (some ⟨n,0,none⟩)) hπ hty (vT hop hz) hd hN hfr (vY h)
 ·rename_i ty x hop;obtain⟨hπ,h⟩:=nM h;subst hπ;obtain⟨d,hd,hN,hfr,h⟩:=iF h;obtain⟨u,h1,h⟩:=b_ h;obtain⟨hty,h⟩:=bI h;exact hnew (f:=fun n=>.pointer (some ⟨n,0,none⟩)) rfl hty (Qn hop (I.E h1 (by simp))) hd hN hfr (vY h)
 ·rename_i ty len parts hop;obtain⟨hπ,h⟩:=nM h;subst hπ;obtain⟨d,hd,hN,hfr,h⟩:=iF h;obtain⟨D,hD,h⟩:=j4 h;split at h
  ·obtain⟨hps,h⟩:=bI h;obtain⟨hl,hz⟩:=iJ h
   cases b0:Nat.blt 0 (len*_) with
   | false=>
    rw[b0,cond_false] at hz;obtain⟨e0,hz⟩:=bI hz;obtain⟨b2,hy⟩:=bI hz;obtain rfl:len=0:=au4 e0;obtain rfl:parts=#[]:=by apply Array.toList_inj.1;exact List.eq_nil_of_length_eq_zero hl
    exact hnew (f:=fun n=>.slice (some ⟨n,0,none⟩) 0 0) rfl b2 (MG hop hD) hd hN hfr hy
   | true=>
    rw[b0] at hz;obtain⟨b1,hz⟩:=bI hz;obtain⟨b2,hz⟩:=bI hz;obtain⟨vs,h1,hz⟩:=kH hz;obtain⟨h2,h3⟩:=Il hz;exact hnew (f:=fun n=>.slice (some ⟨n,0,none⟩) len len) rfl b2 (rQ hop hD hps hl (by simpa using b0) (by simpa using b1) (I.evs h1 (by simp)) h3) hd hN hfr h2
  ·exact h.elim
 ·rename_i c hop;split at h
  ·rename_i f qY;obtain⟨vs,h1,h⟩:=kH h;refine aa9 I M ho hp ht hw h0 h (fun bD hok=>?_) next
   have e3:c={ callee:=.value (.func f),args:=c.args,argTypes:=c.argTypes }:=by cases c;simp only at qY;rw[qY]
   exact rW hok (hop.trans (congrArg Op.call e3)) (jG (I.evs h1 (ht.1 bD)))
  ·rename_i y hy qY;obtain⟨u,h1,h⟩:=b_ h;split at h
   ·rename_i f first cap
    obtain⟨vs,h2,h⟩:=kH h;have h:=iL (iL h);refine aa9 I M ho hp ht hw h0 h (fun bD hok=>?_) next
    have e3:c={ callee:=.value y,args:=c.args,argTypes:=c.argTypes }:=by cases c;simp only at qY;rw[qY]
    refine JL hok (hop.trans (congrArg Op.call e3)) (I.E h1 (ht.1 bD)) ?_;rw[jG (I.evs h2 (ht.1 bD))];apply Array.toList_inj.1;simp
   ·exact h.elim
  ·rename_i qY;obtain⟨rfl,h⟩:=nM h;obtain rfl:=h0 rfl;split at h
   ·rename_i s x hargs;split at h
    ·rename_i ty ty' aiH;obtain⟨hty,hq⟩:=bI h;obtain rfl:=au4 hty;obtain⟨d,hd,hN,hfr,h⟩:=iF hq;obtain⟨v,h1,h⟩:=b_ h;obtain⟨u,h2,h⟩:=b_ h;obtain⟨D,hD,h⟩:=j4 h;split at h
     ·rename_i e kk Qu;obtain⟨hkk,Te,Rs,i,nn,xs,mm,news,hM,hri,hsl,h63,hW,h⟩:=bI h;have e1:c.args=#[s,x]:=Array.toList_inj.1 hargs;have e2:c.argTypes=#[ty,ty]:=Array.toList_inj.1 aiH;have e3:c={ callee:=.builtin .append,args:=#[s,x],argTypes:=#[ty,ty] }:=by cases c;simp only at qY e1 e2;rw[qY,e1,e2]
      obtain⟨hu,hi⟩:=Ez hD;exact kpP hw (hop.trans (congrArg Op.call e3)) hu hi hkk (hM M) i hri (I.E h1 (by simp)) (I.E h2 (by simp)) hsl h63 hd I.fr hN (fun v' a' w' p M'=>next a' _ _ _ _ (I.put (t:=true) (v:=v') ho hd hfr (by simp) (by simp) p) M' (Am (h v' w') M')) hW
     ·exact h.elim
    ·exact h.elim
   ·exact h.elim
  ·obtain⟨d,hd,hN,hfr,h⟩:=iF h;exact Wd hop hd hN hfr h
  ·obtain⟨rfl,h⟩:=nM h;obtain rfl:=h0 rfl;exact XK I ho hw h next
 all_goals first
  | (obtain⟨rfl,h⟩:=nM h
     obtain rfl:=h0 rfl;exact XK I ho hw h next)
  | (obtain⟨d,hd,hN,hfr,h⟩:=iF h
     exact Wd rfl hd hN hfr h)
theorem Z8{K:Slots→List Bx→List Rw→World→Prop}:∀ {L:List Oper} {n:Nat} {a:Act} {m:List gi} {bs:List Bx} {rs:List Rw} {w:World},(∀ i o,L[i]?=some o→ops[n+i]?=some o)→Inv ops a N l m n→aV B w0 w bs rs→vc B w0 N l L n m bs rs w K →
 (∀ a l' bs' rs' w',Fs a N l'→aV B w0 w' bs' rs'→K l' bs' rs' w'→Q .normal a w')→wpList Tryz.prog ops Q L a w
 | [],_,_,_,_,_,_,_,I,M,h,next=>by
  obtain⟨l',h1,F⟩:=I.fsK h;exact auZ (next _ _ _ _ _ F M h1)
 | o::r,n,_,_,_,_,_,sG,I,M,h,next=>by
  refine Al I M (by simpa using sG 0 o rfl) h fun a' m' bs' rs' w' I' M' h'=>?_
  exact Z8 (fun i o hi=>by have:=sG (i+1) o (by simpa using hi);rwa [show n+1+i=n+(i+1) by omega]) I' M' h' next
theorem FI{K:Slots→List Bx→List Rw→World→Prop}{C:Act→World→Prop}:∀ {L:List Oper} {n:Nat} {a:Act} {m:List gi} {bs:List Bx} {rs:List Rw} {w:World},(∀ i o,L[i]?=some o→ops[n+i]?=some o)→Inv ops a N l m n→aV B w0 w bs rs→vc B w0 N l L n m bs rs w K →
 (∀ a l' bs' rs' w',Fs a N l'→aV B w0 w' bs' rs'→K l' bs' rs' w'→C a w')→dg Tryz.prog ops C L a w
 | [],_,_,_,_,_,_,_,I,M,h,next=>by
  obtain⟨l',h1,F⟩:=I.fsK h;exact next _ _ _ _ _ F M h1
 | o::r,n,_,_,_,_,_,sG,I,M,h,next=>by
  intro Q' hQ;refine Al I M (by simpa using sG 0 o rfl) h fun a' m' bs' rs' w' I' M' h'=>?_
  exact auZ (hQ _ _ (FI (fun i o hi=>by have:=sG (i+1) o (by simpa using hi);rwa [show n+1+i=n+(i+1) by omega]) I' M' h' next))
end
def blk:Value→Option Nat
 | .pointer (some p)=>some p.block
 | .slice (some p) _ _=>some p.block
 | _=>none
def agJ(w:World)(v:Value):Prop:=∀ b,blk v=some b→w.heap.size≤b
def Far(v u:Value):Prop:=∀ b,blk v=some b→blk u≠some b
theorem Far.symm{v u:Value}(h:Far v u):Far u v:=fun b hb hv=>h b hv hb
section
variable {Q':Exit→Act→World→Prop} {a:Act} {w:World} {g:Good} {s:Nat} {p:Prop}
theorem pa(hP:∀ v a' w',auT w.heap.size w w'→g v w'→(p→agJ w v)→Put a s v a'→Q' .normal a' w'):∀ v a' w',auT w.heap.size w w'→(fun v u=>g v u∧agJ w v:Good) v w'→Put a s v a'→Q' .normal a' w':=fun v a' w' h1 h2 h3=>hP v a' w' h1 h2.1 (fun _=>h2.2) h3
end
def afb(o:Oper):Nat:=match o.op with
 | .assign _=>3
 | .move _|.pick _ _ _|.nilCheck _|.load _ _|.binOp _ _ _ _ _|.unOp _ _ _|.fieldAddr _ _ _|.indexAddr _ _ _|.index _ _ _|.extract _ _|.convert _ _ _|.makeFunc _ _ _|.build _ _|.field _ _ _|.buildSlice _ _ _|.slice _ _ _ _ _=>0
 | .alloc _|.box _ _=>1
 | .call c=>(match c.callee with|.value _=>0|.builtin .len=>0|.builtin .min=>0|.builtin .max=>0|_=>2)
 | _=>2
def m_(d:Nat):List Operand→Bool
 | []=>false
 | .tmp q::r=>bif Nat.beq d q then true else m_ d r
 | _::r=>m_ d r
def aae(o:Oper):List (List Operand)→Bool
 | []=>false
 | x::r=>(match o.dst with|some d=>bif m_ d x then true else aae o r|none=>false)
def dkN:Bool→List (List Operand)→List Oper→Nat
 | _,_,[]=>0
 | u,seen,o::r=>match afb o with
  | 0=>dkN u (iE o.op::seen) r+1
  | 1=>(match u with|true=>0|false=>dkN true (iE o.op::seen) r+1)
  | 3=>bif aae o seen then 0 else dkN u (iE o.op::seen) r+1
  | _=>0
def iB(k:Nat)(L:List Oper):List Nat:=(L.take k).filterMap (·.dst)
def ads(slots:List Nat)(o:Oper):Operand→Bool
 | .tmp q=>!slots.contains q||o.after.toList.any fun e=>Region.binds .any e&&(slots[e.on]? == some q)
 | _=>true
def G1(slots:List Nat)(o:Oper):Bool:=(iE o.op).all (ads slots o)&&(match o.guard with
 | none=>true
 | some (j,_)=>o.after.toList.any fun e=>Region.binds .any e&&(e.on == j))
def agy(N:Nat)(L:List Oper)(k:Nat):Bool:=
 ordered 0 L&&(wZ k L&&((L.take k).all (fun o=>o.dst.isSome)&&((L.take k).all (G1 (iB k L))&&((iB k L).all (fun s=>decide (s<N))&&decide (iB k L).Nodup))))
def WK(ds:List Nat):Slots→(Slots→Prop)→Prop
 | [],f=>f []
 | (s,v)::r,f=>bif jr s ds then WK ds r f else WK ds r fun l=>f ((s,v)::l)
theorem oI{x:Nat}{l:List Nat}:jr x l=true↔x∈l:=by
 induction l with
 | nil=>simp[jr]
 | cons y r ih=>
  unfold jr
  cases h:Nat.beq x y with
  | true=>simp[au4 h]
  | false=>
   have hne:x≠y:=fun e=>by rw[e,Nat.beq_refl] at h;cases h
   simp[ih,hne]
theorem CZ{ds:List Nat}:∀ {l:Slots} {f:Slots→Prop},WK ds l f→∃ l',f l'∧∀ q,look q l'=bif jr q ds then none else look q l
 | [],f,h=>⟨[],h,fun q=>by cases jr q ds<;>rfl⟩
 | (s,v)::r,f,h=>by
  unfold WK at h
  cases hm:jr s ds with
  | true=>
   rw[hm] at h;obtain⟨l',h1,h2⟩:=CZ h;refine⟨l',h1,fun q=>?_⟩;rw[h2,bH]
   cases hq:jr q ds with
   | true=>rfl
   | false=>
    have:(q == s)=false:=by
     cases e:q == s with
     | false=>rfl
     | true=>have e':q=s:=by simpa using e
             rw[e',hm] at hq;cases hq
    rw[this];rfl
  | false=>
   rw[hm] at h;obtain⟨l',h1,h2⟩:=CZ h;refine⟨_,h1,fun q=>?_⟩;rw[bH,bH,h2]
   cases e:q == s with
   | false=>rfl
   | true=>
    have e':q=s:=by simpa using e
    rw[e',hm];rfl
structure AlD where
 d:Nat
 j:Nat
 ty:TypeId
 cs:Array Value
 sl:Option Nat
structure kY where
 d:Nat
 j:Nat
 R:Value→World→Prop
def alV(s:Option Nat)(g:Nat):Value:=match s with
 | none=>.pointer (some ⟨g,0,none⟩)
 | some len=>.slice (some ⟨g,0,none⟩) len len
section
variable (B:Nat) (w0:World) (N:Nat) (l:Slots) (bs:List Bx) (rs:List Rw) (w:World) (K:Slots→List Bx→List Rw→World→Prop)
def cD(o:Oper)(n:Nat)(m:List gi)(π:Pa)(t:Bool)(f:FuncId)(vs:List Value)(k:gi→Prop):Prop:=bif jr f TW then False else bif Nat.blt f NF then dK N m o.dst fun d=>∃ v,ob π t (∀ w',auT w.heap.size w w'→aV B w0 w' bs rs→Calls Tryz.prog f vs.toArray w' fun e w''=>e=.returned v∧auT w'.heap.size w' w'') (k ⟨d,n,π,t,v⟩)
 else False
def gR(π:Pa)(t:Bool)(R:Value→World→Prop):Value→World→Prop:=match π with
 | []=>R
 | _::_=>fun v w=>t=true→R v w
def cRl(o:Oper)(n:Nat)(m:List gi)(π:Pa)(t:Bool)(f:FuncId)(vs:List Value)(k:kY→Prop):Prop:=bif jr f TW then False else bif Nat.blt f NF then dK N m o.dst fun d=>∃ R:Value→World→Prop,eG R∧ob π t (∀ w',auT w.heap.size w w'→aV B w0 w' bs rs→Calls Tryz.prog f vs.toArray w' fun e w''=>∃ v,e=.returned v∧(R v w''∧auT w'.heap.size w' w'')) (k ⟨d,n,gR π t R⟩)
 else False
def adC(R:World→Prop)(P:Option (World→Prop)):Option (World→Prop):=match P with
 | none=>some R
 | some P=>some fun w=>R w∧P w
def Sb(P:Option (World→Prop))(w:World)(q:Prop):Prop:=match P with
 | none=>q
 | some P=>P w→q
def MO(xs:List Operand):List kY→List gi→Option (World→Prop)→(List gi→Option (World→Prop)→Prop)→Prop
 | [],m,P,f=>f m P
 | ⟨d,j,R⟩::r,m,P,f=>bif m_ d xs then ∀ u,MO xs r (⟨d,j,[],true,u⟩::m) (adC (R u) P) f else MO xs r m P f
def MP(xs:List Operand):List kY→(List kY→Prop)→Prop
 | [],f=>f []
 | ⟨d,j,R⟩::r,f=>bif m_ d xs then MP xs r f else MP xs r fun r'=>f (⟨d,j,R⟩::r')
def U6(xs:List Operand):List kY→Bool
 | []=>false
 | A::r=>bif m_ A.d xs then true else U6 xs r
def cU(o:Oper)(n:Nat)(m:List gi)(π:Pa)(t:Bool)(f:FuncId)(xs:List Operand)(rel:List kY)(k:gi→List kY→Prop):Prop:=bif jr f TW then False else bif Nat.blt f NF then bif U6 xs rel then dK N m o.dst fun d=>∃ v,MO xs rel m none (fun m' P=>Px l m' π xs fun vs=>(t=true→∀ w',auT w.heap.size w w'→aV B w0 w' bs rs→Sb P w' (Calls Tryz.prog f vs.toArray w' fun e w''=>e=.returned v∧auT w'.heap.size w' w'')))∧MP xs rel fun r=>k ⟨d,n,π,t,v⟩ r
 else False else False
def cV(o:Oper)(n:Nat)(m:List gi)(π:Pa)(t:Bool)(f:FuncId)(xs:List Operand)(rel:List kY)(k:List kY→Prop):Prop:=bif jr f TW then False else bif Nat.blt f NF then bif U6 xs rel then dK N m o.dst fun d=>∃ R':Value→World→Prop,eG R'∧MO xs rel m none (fun m' P=>Px l m' π xs fun vs=>(t=true→∀ w',auT w.heap.size w w'→aV B w0 w' bs rs→Sb P w' (Calls Tryz.prog f vs.toArray w' fun e w''=>∃ v,e=.returned v∧(R' v w''∧auT w'.heap.size w' w''))))∧MP xs rel fun r=>k (⟨d,n,gR π t R'⟩::r)
 else False else False
def obI(π:Pa)(t:Bool)(p:Prop):Prop:=match π with
 | []=>p
 | _::_=>t=true→p
theorem abT{π:Pa}{t:Bool}{p:Prop}(h:obI π t p)(ht:t=true):p:=by
 cases π with
 | nil=>exact h
 | cons=>exact h ht
def fD(o:Oper)(n:Nat)(m:List gi)(π:Pa)(t:Bool)(rel:List kY)(k:List kY→Prop):Prop:=dK N m o.dst fun d=>∃ R':Value→World→Prop,eG R'∧MO (iE o.op) rel m none (fun m' P=>Px l m' π (iE o.op) fun vs=>obI π t (∀ (w1:World) (a:Act) (o':Oper),auT w.heap.size w w1→aV B w0 w1 bs rs→Sb P w1 (o'.op=o.op→wK a (iE o.op) vs →
  ∃ v w2,(execOp a.eval o').run Tryz.prog w1=.ok (.value v) w2∧R' v w2∧auT w1.heap.size w1 w2)))∧MP (iE o.op) rel fun r=>k (⟨d,n,gR π t R'⟩::r)
def alN(a:Option AlD)(p:Prop):Prop:=match a with
 | none=>p
 | some _=>False
abbrev XJ:=List Oper→Nat→List gi→Option AlD→List kY→Bool→Prop
def abO:List kY→List gi→Option (World→Prop)→(List gi→Option (World→Prop)→Prop)→Prop
 | [],m,P,f=>f m P
 | ⟨d,j,R⟩::r,m,P,f=>bif jD d m then ∀ u,abO r (⟨d,j,[],true,u⟩::m) (adC (R u) P) f else False
def vF:XJ:=fun L n m al rel _=>abO rel m none fun m' P=>match al with
 | none=>∀ w',Sb P w' (auT w.heap.size w w'→aV B w0 w' bs rs→vc B w0 N l L n m' bs rs w' K)
 | some ⟨d,j,ty,cs,s⟩=>bif jD d m' then ∀ g w',Sb P w' (auT w.heap.size w w'→aV B w0 w' ((g,ty,cs)::bs) rs→vc B w0 N l L n (⟨d,j,[],true,alV s g⟩::m') ((g,ty,cs)::bs) rs w' K) else False
section
variable (F:XJ)
def vd:Nat→List Oper→Nat→List gi→Option AlD→List kY→Bool→Prop
 | 0,L,n,m,al,rel,us=>F L n m al rel us
 | _+1,[],_,_,_,_,_=>False
 | k+1,o::r,n,m,al,rel,us=>gK m o.guard fun π t=>match o.op with
  | .load ty x=>dK N m o.dst fun d=>qK l m π x fun u=>F6 u (AX π t fun v=>vd k r (n+1) (⟨d,n,π,t,v⟩::m) al rel us) fun g off=>D5 ty (fun D=>ldK π t bs w D g off fun v=>vd k r (n+1) (⟨d,n,π,t,v⟩::m) al rel us) TT
  | .alloc ty=>TQ π (alN al (dK N m o.dst fun d=>∃ z,(Tryz.prog.info? ty).bind (·.zero)=some z∧bif Nat.blt ty 9000 then S8 z fun cs=>vd k r (n+1) m (some ⟨d,n,ty,cs,none⟩) rel us else False))
  | .box ty x=>TQ π (alN al (dK N m o.dst fun d=>qK l m π x fun u=>bif Nat.blt ty 9000 then S8 u fun cs=>vd k r (n+1) m (some ⟨d,n,ty,cs,none⟩) rel us else False))
  | .buildSlice ty len parts=>(TQ π (alN al (dK N m o.dst fun d=>D5 ty (fun D=>match D with
   | .sl e kk _=>bif tQ 0 parts.toList then qR parts.toList len (bif Nat.blt 0 (len*kk) then bif Nat.ble (len*kk) 16777216 then bif Nat.blt e 9000 then Px l m π (parts.toList.map (·.2)) fun vs=>ZH kk vs fun cs=>vd k r (n+1) m (some ⟨d,n,e,cs.toArray,some len⟩) rel us
    else False else False else False) else False
   | _=>False) TT))∨fD B w0 N l bs rs w o n m π t rel (fun rel=>vd k r (n+1) m al rel true))
  | .call c=>(match c.callee with
   | .value (.func f)=>(Px l m π c.args.toList fun vs=>cD B w0 N bs rs w o n m π t f vs fun e=>vd k r (n+1) (e::m) al rel us) ∨
    cU B w0 N l bs rs w o n m π t f c.args.toList rel (fun e rel=>vd k r (n+1) (e::m) al rel us) ∨
    (Px l m π c.args.toList fun vs=>cRl B w0 N bs rs w o n m π t f vs fun A=>vd k r (n+1) m al (A::rel) true) ∨
    cV B w0 N l bs rs w o n m π t f c.args.toList rel (fun rel=>vd k r (n+1) m al rel true)
   | .value y=>qK l m π y fun u=>(match u with
    | .func (.func f) first cap=>Px l m π c.args.toList fun vs=>sJ first.toList vs fun xs=>sJ xs cap.toList fun ys=>cD B w0 N bs rs w o n m π t f ys fun e=>vd k r (n+1) (e::m) al rel us
    | _=>False)
   | _=>dK N m o.dst fun d=>pop l m π t (fun v=>vd k r (n+1) (⟨d,n,π,t,v⟩::m) al rel us) (.call c))
  | op=>bif U6 (iE op) rel then fD B w0 N l bs rs w o n m π t rel (fun rel=>vd k r (n+1) m al rel true) else dK N m o.dst fun d=>pop l m π t (fun v=>vd k r (n+1) (⟨d,n,π,t,v⟩::m) al rel us) op
end
end
structure IJ (slots:List Nat) (gp:List Good) (m:List gi) (n:Nat):Prop where
 L:jm m n
 len:gp.length=n
 at_:∀ e∈m,slots[e.j]?=some e.s∧gp[e.j]?=some (kU (gd e.t e.v))
theorem IJ.put{slots:List Nat}{gp:List Good}{m:List gi}{n:Nat}(D:IJ slots gp m n){d:Nat}(hs:slots[n]?=some d){π:Pa}(hp:∀ x∈π,∃ e∈m,e.j=x.1){t:Bool}(ht:t=true↔∀ x∈π,Cond m x){v:Value}:IJ slots (gp++[kU (gd t v)]) (⟨d,n,π,t,v⟩::m) (n+1):=by
 refine⟨D.L.put hp ht,by simp[D.len],fun e he=>?_⟩;rcases auN.1 he with rfl|he
 ·exact⟨hs,by simp[← D.len]⟩
 ·obtain⟨h1,h2⟩:=D.at_ e he;exact⟨h1,by rw[au6 (auV.1 h2).1];exact h2⟩
theorem IJ.skip{slots:List Nat}{gp:List Good}{m:List gi}{n:Nat}(D:IJ slots gp m n)(g:Good):IJ slots (gp++[g]) m (n+1):=
 ⟨D.L.mono (Nat.le_succ n),by simp[D.len],fun e he=>⟨(D.at_ e he).1,by rw[au6 (auV.1 (D.at_ e he).2).1];exact(D.at_ e he).2⟩⟩
theorem qN{d:Nat}:∀ {xs:List Operand},m_ d xs=true→Operand.tmp d∈xs
 | .tmp q::r,h=>by
  unfold m_ at h
  cases hb:Nat.beq d q with
  | true=>rw[au4 hb];exact auR ..
  | false=>rw[hb] at h;exact auO _ (qN h)
 | .const _::r,h=>auO _ (qN h)
 | .global _::r,h=>auO _ (qN h)
 | .func _::r,h=>auO _ (qN h)
theorem G0{slots:List Nat}{o:Oper}(kr:G1 slots o=true)(hnd:slots.Nodup){j d:Nat}(hj:slots[j]?=some d)(hx:Operand.tmp d∈iE o.op):∃ gr,(⟨j,gr⟩:Edge)∈o.after.toList∧Region.binds .any ⟨j,gr⟩=true:=by
 unfold G1 at kr;rw[au1,au0] at kr;have h3:=kr.1 _ hx;simp only[ads] at h3;have h5:slots.contains d=true:=by simpa using auS hj
 rw[h5,Bool.not_true,Bool.false_or,List.any_eq_true] at h3;obtain⟨ed,h6,h7⟩:=h3;rw[au1,beq_iff_eq] at h7;have h8:ed.on=j:=mg hnd h7.2 hj;obtain⟨on,gr⟩:=ed;simp only at h8;subst h8;exact⟨gr,h6,h7.1⟩
theorem Zv{l:Slots}{m:List gi}{π:Pa}{a:Act}{xs:List Operand}{vs:List Value}(h:DQ (Fo l m π) xs vs)(E:∀ x∈xs,∀ v,Fo l m π x v→a.eval x=v):wK a xs vs:=by
 induction h with
 | nil=>exact .nil
 | cons h1 _ ih=>exact .cons (E _ (auR ..) _ h1) (ih fun x hx=>E x (auO _ hx))
theorem KG{slots:List Nat}{gp G':List Good}{m:List gi}{n:Nat}(D:IJ slots gp m n)(hnd:slots.Nodup){ops:Array Oper}(sG:∀ (i:Nat) (s:Nat),slots[i]?=some s→(ops[i]?).bind (fun o=>o.dst)=some s){o:Oper}(kr:G1 slots o=true){l:Slots}(hl:∀ q v,look q l=some v→slots.contains q=false){a a0:Act}{N:Nat}(F0:Fs a0 N l){w:World}
 (zB:∀ k,(∃ gr,(⟨k,gr⟩:Edge)∈o.after.toList∧Region.binds .any ⟨k,gr⟩=true)→∀ s g,slots[k]?=some s→(gp++G')[k]?=some g→∃ v,At a s v∧g v w)
 (hrest:∀ j u,slots.contains j=false→At a0 j u→At a j u) :
 (∀ x∈iE o.op,∀ π' v,Fo l m π' x v→(∀ y∈π',Cond m y)→a.eval x=v) ∧
 ∀ e∈m,(∃ b,o.guard=some (e.j,b))→(ops[e.j]?).bind (·.dst)=some e.s∧At a e.s (gd e.t e.v):=by
 unfold G1 at kr;rw[au1,au0] at kr
 have hat:∀ e∈m,(∃ gr,(⟨e.j,gr⟩:Edge)∈o.after.toList∧Region.binds .any ⟨e.j,gr⟩=true)→At a e.s (gd e.t e.v):=fun e he hk=>by
  obtain⟨h1,h2⟩:=D.at_ e he;obtain⟨v,h3,rfl⟩:=zB _ hk _ _ h1 (by rw[au6 (auV.1 h2).1];exact h2);exact h3
 constructor
 ·intro x hx π' v P5 hc
  cases x with
  | tmp q=>
   rcases P5 with⟨e,he,rfl,rfl,hs⟩|⟨h1,h2⟩
   ·have ht:e.t=true:=(D.L.tv e he).2 fun y hy=>hc y (Ak hs y hy)
    refine((hat e he ?_).on ht).ev;have h3:=kr.1 _ hx;simp only[ads] at h3;obtain⟨h4,-⟩:=D.at_ e he;have h5:slots.contains e.s=true:=by simpa using auS h4
    rw[h5,Bool.not_true,Bool.false_or,List.any_eq_true] at h3;obtain⟨ed,h6,h7⟩:=h3;rw[au1,beq_iff_eq] at h7;have h8:ed.on=e.j:=mg hnd h7.2 h4;obtain⟨on,gr⟩:=ed;simp only at h8;subst h8;exact⟨gr,h6,h7.1⟩
   ·exact(hrest q v (hl q v h2) (F0.at_ q v h2)).ev
  | const u=>exact P5
  | global=>exact P5.elim
  | func f=>exact P5
 ·rintro e he ⟨b,hg⟩;refine⟨sG _ _ (D.at_ e he).1,hat e he ?_⟩;have h3:=kr.2;rw[hg] at h3;simp only[List.any_eq_true,au1,beq_iff_eq] at h3;obtain⟨⟨on,gr⟩,h6,h7,h8⟩:=h3;simp only at h8;subst h8;exact⟨gr,h6,h7⟩
structure Fin (slots:List Nat) (G:List Good) (m:List gi) (al:Option AlD) (rel:List kY) (us:Bool) (n:Nat) (w:World):Prop where
 D:IJ slots G m n
 al_:∀ A,al=some A→slots[A.j]?=some A.d∧G[A.j]?=some (Made w (alV A.sl) A.ty A.cs)∧Nat.blt A.ty 9000=true∧A.j<n∧∀ e∈m,e.j≠A.j
 cov:al=none→us=false→∀ i,i<n→∃ e∈m,e.j=i
 MN:∀ A∈rel,slots[A.j]?=some A.d∧G[A.j]?=some A.R∧A.j<n∧(∀ e∈m,e.j≠A.j)∧∀ C,al=some C→C.j≠A.j
 wJ:(rel.map (·.j)).Nodup
section
variable {slots:List Nat} {gp:List Good} {m:List gi} {al:Option AlD} {rel rel':List kY} {us:Bool} {n:Nat} {w:World}
theorem Fin.sub(F:Fin slots gp m al rel us n w)(h:rel'.Sublist rel):Fin slots gp m al rel' us n w:=⟨F.D,F.al_,F.cov,fun A hA=>F.MN A (h.subset hA),(h.map _).nodup F.wJ⟩
theorem DC{g g':Good}{j:Nat}(h:gp[j]?=some g):(gp++[g'])[j]?=some g:=by rw[au6 (auV.1 h).1];exact h
theorem Fin.put(F:Fin slots gp m al rel us n w){g:Good}{e0:gi}(h0:e0.j=n)(D:IJ slots (gp++[g]) (e0::m) (n+1)):Fin slots (gp++[g]) (e0::m) al rel us (n+1) w:=by
 refine⟨D,fun A hA=>?_,fun ha hr i hi=>?_,fun A hA=>?_,F.wJ⟩
 ·obtain⟨c1,c2,c3,c4,c5⟩:=F.al_ A hA;refine⟨c1,DC c2,c3,by omega,fun e he=>?_⟩;rcases auN.1 he with rfl|he
  ·omega
  ·exact c5 e he
 ·by_cases h:i=n
  ·exact⟨e0,auR ..,h0.trans h.symm⟩
  ·obtain⟨e,h1,h2⟩:=F.cov ha hr i (by omega);exact⟨e,auO _ h1,h2⟩
 ·obtain⟨c1,c2,c4,c5,c6⟩:=F.MN A hA;refine⟨c1,DC c2,by omega,fun e he=>?_,c6⟩;rcases auN.1 he with rfl|he
  ·omega
  ·exact c5 e he
theorem Fin.akj(F:Fin slots gp m al rel us n w){d:Nat}{R:Value→World→Prop}(hs:slots[n]?=some d):Fin slots (gp++[R]) m al (⟨d,n,R⟩::rel) true (n+1) w:=by
 refine⟨F.D.skip _,fun A hA=>?_,(fun _ h=>by cases h),fun A hA=>?_,?_⟩
 ·obtain⟨c1,c2,c3,c4,c5⟩:=F.al_ A hA;exact⟨c1,DC c2,c3,by omega,c5⟩
 ·rcases auN.1 hA with rfl|hA
  ·refine⟨hs,by simp[← F.D.len],Nat.lt_succ_self n,fun e he=>?_,fun C hC=>?_⟩
   ·have:=F.D.L.lt e he;simp only;omega
   ·have:=(F.al_ C hC).2.2.2.1;simp only;omega
  ·obtain⟨c1,c2,c4,c5,c6⟩:=F.MN A hA;exact⟨c1,DC c2,by omega,c5,c6⟩
 ·rw[List.map_cons,List.nodup_cons];refine⟨fun h=>?_,F.wJ⟩;obtain⟨A,hA,e⟩:=auP.1 h;have:=(F.MN A hA).2.2.1;simp only at e;omega
theorem Fin.akk(F:Fin slots gp m none rel us n w){d:Nat}{ty:TypeId}{cs:Array Value}{s:Option Nat}(hs:slots[n]?=some d)(hty:Nat.blt ty 9000=true):Fin slots (gp++[Made w (alV s) ty cs]) m (some ⟨d,n,ty,cs,s⟩) rel us (n+1) w:=by
 refine⟨F.D.skip _,fun A hA=>?_,(fun h=>by cases h),fun A hA=>?_,F.wJ⟩
 ·obtain rfl:=auQ hA;refine⟨hs,by simp[← F.D.len],hty,Nat.lt_succ_self n,fun e he=>?_⟩;have:=F.D.L.lt e he;simp only;omega
 ·obtain⟨c1,c2,c4,c5,c6⟩:=F.MN A hA;refine⟨c1,DC c2,by omega,c5,fun C hC=>?_⟩;obtain rfl:=auQ hC;simp only;omega
theorem uZ{xs:List Operand}:∀ {rel:List kY} {f:List kY→Prop},MP xs rel f→∃ rel',f rel'∧rel'.Sublist rel
 | [],_,h=>⟨[],h,.slnil⟩
 | ⟨d,j,R⟩::r,f,h=>by
  unfold MP at h
  cases hb:m_ d xs with
  | true=>
   rw[hb] at h;obtain⟨r',h1,h2⟩:=uZ h;exact⟨r',h1,h2.cons _⟩
  | false=>
   rw[hb] at h;obtain⟨r',h1,h2⟩:=uZ (f:=fun r'=>f (⟨d,j,R⟩::r')) h;exact⟨_,h1,h2.cons_cons _⟩
theorem uY{xs:List Operand}{a:Act}{w1:World}{f:List gi→Option (World→Prop)→Prop}:∀ {rel:List kY} {m:List gi} {P:Option (World→Prop)},(∀ p,P=some p→p w1)→(∀ A∈rel,m_ A.d xs=true→∃ u,At a A.d u∧A.R u w1)→MO xs rel m P f →
 ∃ m' P',f m' P'∧(∀ p,P'=some p→p w1)∧(∀ e∈m',e∈m∨At a e.s e.v)∧∀ e∈m,e∈m'
 | [],m,P,hP,_,h=>⟨m,P,h,hP,fun e he=>.inl he,fun _ he=>he⟩
 | ⟨d,j,R⟩::r,m,P,hP,hr,h=>by
  unfold MO at h
  cases hb:m_ d xs with
  | false=>
   rw[hb] at h;exact uY hP (fun A hA=>hr A (auO _ hA)) h
  | true=>
   rw[hb] at h;obtain⟨u,h1,h2⟩:=hr _ (auR ..) hb
   have hP':∀ p,adC (R u) P=some p→p w1:=fun p hp=>by
    cases P with
    | none=>obtain rfl:=auQ hp;exact h2
    | some q=>obtain rfl:=auQ hp;exact⟨h2,hP q rfl⟩
   obtain⟨m',P',k1,k2,k3,k4⟩:=uY hP' (fun A hA=>hr A (auO _ hA)) (h u);refine⟨m',P',k1,k2,fun e he=>?_,fun e he=>k4 e (auO _ he)⟩;rcases k3 e he with h|h
   ·rcases auN.1 h with rfl|h
    ·exact .inr h1
    ·exact .inl h
   ·exact .inr h
theorem vG{P:Option (World→Prop)}{w:World}{q:Prop}(h:Sb P w q)(hP:∀ p,P=some p→p w):q:=by
 cases P with
 | none=>exact h
 | some p=>exact h (hP p rfl)
theorem agh{π:Pa}{t:Bool}{R:Value→World→Prop}{v:Value}{w:World}(h:R v w):gR π t R v w:=by
 cases π with
 | nil=>exact h
 | cons=>exact fun _=>h
theorem ac1{π:Pa}{R:Value→World→Prop}{v:Value}{w:World}(h:π≠[]):gR π false R v w:=by
 cases π with
 | nil=>exact absurd rfl h
 | cons=>exact fun h=>by cases h
theorem VK{π:Pa}{t:Bool}{R:Value→World→Prop}(h:eG R):eG (gR π t R):=by
 cases π with
 | nil=>exact h
 | cons=>exact fun v w w' h1 hb ht=>h v w w' (h1 ht) hb
end
section
variable {N:Nat} {l:Slots} {B:Nat} {w0 w:World} {bs:List Bx} {rs:List Rw} {F:XJ} {slots:List Nat} {ops:Array Oper} {a0:Act}
def Res(N:Nat)(l:Slots)(B:Nat)(w0 w:World)(bs:List Bx)(rs:List Rw)(F:XJ)(slots:List Nat)(ops:Array Oper)(a0:Act)(gp:List Good)(L:List Oper)(k n:Nat):Prop:=
 ∃ G' m' al' rel' us',mL (gp++G')∧G'.length=k∧lM Tryz.prog ops slots (gp++G') (auT w.heap.size w) a0 N (L.take k) G'∧Fin slots (gp++G') m' al' rel' us' (n+k) w∧vd B w0 N l bs rs w F 0 (L.drop k) (n+k) m' al' rel' us'
theorem Z7(M:aV B w0 w bs rs)(hnd:slots.Nodup)(sG:∀ (i s:Nat),slots[i]?=some s→(ops[i]?).bind (fun o=>o.dst)=some s)(hl:∀ q v,look q l=some v→slots.contains q=false)(F0:Fs a0 N l):
 ∀ {k:Nat} {L:List Oper} {n:Nat} {m:List gi} {al:Option AlD} {rel:List kY} {us:Bool} {gp:List Good},vd B w0 N l bs rs w F k L n m al rel us→Fin slots gp m al rel us n w→(∀ i o,(L.take k)[i]?=some o→G1 slots o=true∧slots[n+i]?=o.dst)→k≤L.length→mL gp →
  Res N l B w0 w bs rs F slots ops a0 gp L k n:=by
 intro k
 induction k with
 | zero=>intro L n m al rel us gp h hF _ _ hla;exact⟨[],m,al,rel,us,by simpa using hla,rfl,trivial,by simpa using hF,h⟩
 | succ k ih=>
  intro L n m al rel us gp h hF kr hkl hla
  cases L with
  | nil=>simp at hkl
  | cons o r=>
   have ai9:k≤r.length:=by simpa using hkl
   have hd0:=kr 0 o (by simp)
   have afQ:∀ i o,(r.take k)[i]?=some o→G1 slots o=true∧slots[n+1+i]?=o.dst:=fun i o' hi=>by
    have:=kr (i+1) o' (by simpa using hi)
    rwa [show n+1+i=n+(i+1) by omega]
   have one:∀ (g:Good) (m1:List gi) (al1:Option AlD) (u_:List kY) (us1:Bool),eG g→Fin slots (gp++[g]) m1 al1 u_ us1 (n+1) w→vd B w0 N l bs rs w F k r (n+1) m1 al1 u_ us1 →
    (∀ (a:Act) (w1:World) (Q':Exit→Act→World→Prop),Fr a N→auT w.heap.size w w1 →
     (∀ x∈iE o.op,∀ π' v,Fo l m π' x v→(∀ y∈π',Cond m y)→a.eval x=v)→(∀ e∈m,(∃ b,o.guard=some (e.j,b))→(ops[e.j]?).bind (·.dst)=some e.s∧At a e.s (gd e.t e.v)) →
     (∀ A∈rel,m_ A.d (iE o.op)=true→∃ u,At a A.d u∧A.R u w1) →
     (∀ v a' w',auT w1.heap.size w1 w'→g v w'→Put a (o.dst.getD 0) v a'→Q' .normal a' w')→wpList Tryz.prog ops Q' [o] a w1) →
    Res N l B w0 w bs rs F slots ops a0 gp (o::r) (k+1) n:=by
    intro g m1 al1 u_ us1 hg hF1 h1 hst
    have ai8:mL (gp++[g]):=by
     clear ih h hF hF1 h1 hst
     induction gp with
     | nil=>exact⟨hg,trivial⟩
     | cons x r ih=>exact⟨hla.1,ih hla.2⟩
    obtain⟨G',m',al',rel',us',k1,k2,k3,k4,k5⟩:=ih h1 hF1 afQ ai9 ai8;refine⟨g::G',m',al',rel',us',by simpa using k1,by simp[k2],⟨?_,by simpa using k3⟩,by simpa[show n+(k+1)=n+1+k by omega] using k4,by simpa[show n+(k+1)=n+1+k by omega] using k5⟩;intro a w1 Q' hf hb zB hrest hK;obtain⟨E,hgu⟩:=KG hF.D hnd sG hd0.1 hl F0 (G':=g::G') zB hrest;refine hst a w1 Q' hf hb E hgu (fun A hA hop=>?_) hK;obtain⟨c1,c2,c4,c5,-⟩:=hF.MN A hA;refine zB A.j ?_ _ _ c1 (by rw[au6 (auV.1 c2).1];exact c2);exact G0 hd0.1 hnd c1 (qN hop)
   obtain⟨π,t,h,hp,ht,h0,hgd⟩:=Qa hF.D.L h;have Wa:∀ {d:Nat},o.dst=some d→slots[n]?=some d:=fun hd=>by have:=hd0.2;rw[hd] at this;simpa using this
   have off:∀ {d:Nat} {a:Act} {w1:World} {g:Good} {Q':Exit→Act→World→Prop},Region.wanted o (yielded ops a.tmps)=false→o.dst=some d→Nat.blt d N=true→Fr a N→g undef w1→(∀ v a' w',auT w1.heap.size w1 w'→g v w'→Put a (o.dst.getD 0) v a'→Q' .normal a' w')→wpList Tryz.prog ops Q' [o] a w1:=
    fun hw hd hN hf hg hK=>Br hw hd hf (by simpa using hN) fun a' p=>auZ (hK undef a' _ (Below.refl _ _) hg (by rw[hd];exact p))
   have val:∀ {d:Nat} {v:Value} {u_:List kY},u_.Sublist rel→o.dst=some d→Nat.blt d N=true→vd B w0 N l bs rs w F k r (n+1) (⟨d,n,π,t,v⟩::m) al u_ us →
    (t=true→∀ (a:Act) (w1:World) (Q':Exit→Act→World→Prop),Fr a N→auT w.heap.size w w1→Region.wanted o (yielded ops a.tmps)=true→(∀ x∈iE o.op,∀ π' v,Fo l m π' x v→(∀ y∈π',Cond m y)→a.eval x=v) →
     (∀ A∈rel,m_ A.d (iE o.op)=true→∃ u,At a A.d u∧A.R u w1)→(∀ v' a' w',auT w1.heap.size w1 w'→kU v v' w'→Put a (o.dst.getD 0) v' a'→Q' .normal a' w')→wpList Tryz.prog ops Q' [o] a w1) →
    Res N l B w0 w bs rs F slots ops a0 gp (o::r) (k+1) n:=by
    intro d v u_ hsub hd hN h1 hr;refine one (kU (gd t v)) _ _ _ _ (bg _) ((hF.sub hsub).put rfl (hF.D.put (Wa hd) hp ht)) h1 fun a w1 Q' hf hb E hgu hrel hK=>?_
    have hw:=rO hgd hgu
    cases t with
    | true=>exact hr rfl a w1 Q' hf hb hw E hrel hK
    | false=>exact off hw hd hN hf rfl hK
   have Wd:∀ {op:Op} {d:Nat},o.op=op→o.dst=some d→Nat.blt d N=true→pop l m π t (fun v=>vd B w0 N l bs rs w F k r (n+1) (⟨d,n,π,t,v⟩::m) al rel us) op→Res N l B w0 w bs rs F slots ops a0 gp (o::r) (k+1) n:=fun hop hd hN h=>by
    obtain⟨v,h1,h2⟩:=MV hF.D.L ht h;exact val (.refl _) hd hN h1 fun bD a w1 Q' hf hb hw E _ hK=>dv hw (h2 a w1 o hop (hop▸E) bD) hd hf hN hK rfl
   have new:∀ {d:Nat} {ty:TypeId} {cs:Array Value} {s:Option Nat},π=[]→al=none→o.dst=some d→Nat.blt d N=true→Nat.blt ty 9000=true→vd B w0 N l bs rs w F k r (n+1) m (some ⟨d,n,ty,cs,s⟩) rel us →
    (∀ (a:Act) (w1:World),(∀ x∈iE o.op,∀ π' v,Fo l m π' x v→(∀ y∈π',Cond m y)→a.eval x=v)→(execOp a.eval o).run Tryz.prog w1=.ok (.value (alV s w1.heap.size)) (w1.alloc (.cells cs ty))) →
    Res N l B w0 w bs rs F slots ops a0 gp (o::r) (k+1) n:=by
    intro d ty cs s hπ hal hd hN hty h1 hr;subst hal;refine one (Made w (alV s) ty cs) _ _ _ _ (Ny _ _ _ _) (hF.akk (Wa hd) hty) h1 fun a w1 Q' hf hb E hgu _ hK=>?_
    have hw:=(rO hgd hgu).trans (h0 hπ);exact dn (f:=alV s) hw (hr a w1 E) hd hf hN hK fun b w' nn=>VA hb b w' nn
   have aa8:∀ {f:FuncId} {vs:List Value},cD B w0 N bs rs w o n m π t f vs (fun e=>vd B w0 N l bs rs w F k r (n+1) (e::m) al rel us) →
    (t=true→Ax Tryz.prog f=true→∀ (a:Act) (w1:World),(∀ x∈iE o.op,∀ π' v,Fo l m π' x v→(∀ y∈π',Cond m y)→a.eval x=v)→(execOp a.eval o).run Tryz.prog w1=.ok (.enter f vs.toArray) w1) →
    Res N l B w0 w bs rs F slots ops a0 gp (o::r) (k+1) n:=by
    intro f vs h hr;unfold cD at h
    cases hm:jr f TW with
    | true=>rw[hm] at h;exact h.elim
    | false=>
     rw[hm] at h;obtain⟨hb,h⟩:=bI h;obtain⟨d,hd,hN,hfr,v,h⟩:=iF h;obtain⟨h1,h2⟩:=iw h;have hok:=Ck hb hm;exact val (.refl _) hd hN h2 fun bD a w1 Q' hf hb hw E _ hK=>dc hw (hr bD hok a w1 E) (h1 bD w1 hb (M.keep hb)) hd hf hN hK fun _=>rfl
   have newR:∀ {d:Nat} {R':Value→World→Prop} {u_:List kY},u_.Sublist rel→o.dst=some d→Nat.blt d N=true→eG R'→vd B w0 N l bs rs w F k r (n+1) m al (⟨d,n,gR π t R'⟩::u_) true →
    (t=true→∀ (a:Act) (w1:World) (Q':Exit→Act→World→Prop),Fr a N→auT w.heap.size w w1→Region.wanted o (yielded ops a.tmps)=true→(∀ x∈iE o.op,∀ π' v,Fo l m π' x v→(∀ y∈π',Cond m y)→a.eval x=v) →
     (∀ A∈rel,m_ A.d (iE o.op)=true→∃ u,At a A.d u∧A.R u w1)→(∀ v' a' w',auT w1.heap.size w1 w'→R' v' w'→Put a (o.dst.getD 0) v' a'→Q' .normal a' w')→wpList Tryz.prog ops Q' [o] a w1) →
    Res N l B w0 w bs rs F slots ops a0 gp (o::r) (k+1) n:=by
    intro d R' u_ hsub hd hN hR' h2 hst;refine one (gR π t R') _ _ _ _ (VK hR') ((hF.sub hsub).akj (Wa hd)) h2 fun a w1 Q' hf hb E hgu hrel hK=>?_
    have hw:=rO hgd hgu
    cases t with
    | true=>exact hst rfl a w1 Q' hf hb hw E hrel fun v a' w' hb' hv hp=>hK v a' w' hb' (agh hv) hp
    | false=>exact off hw hd hN hf (ac1 fun h=>by cases h0 h) hK
   have evR:∀ {a:Act} {m':List gi} {xs:List Operand} {vs:List Value} {π':Pa},(∀ y∈π',Cond m y)→(∀ e∈m',e∈m∨At a e.s e.v)→(∀ e∈m,e∈m')→DQ (Fo l m' π') xs vs→(∀ x∈xs,x∈iE o.op) →
    (∀ x∈iE o.op,∀ π' v,Fo l m π' x v→(∀ y∈π',Cond m y)→a.eval x=v)→wK a xs vs:=fun {a m' xs vs π'} hc h1 h2 h3 hx E=>Zv h3 fun x hxs v P5=>by
    cases x with
    | tmp q=>
     rcases P5 with⟨e,he,rfl,rfl,hsub⟩|⟨h5,h6⟩
     ·rcases h1 e he with he|he
      ·exact E _ (hx _ hxs) π' _ (.inl ⟨e,he,rfl,rfl,hsub⟩) hc
      ·exact he.ev
     ·exact E _ (hx _ hxs) π' _ (.inr ⟨fun e he=>h5 e (h2 e he),h6⟩) hc
    | const u=>exact P5
    | global=>exact P5.elim
    | func f=>exact P5
   have hfD:fD B w0 N l bs rs w o n m π t rel (fun rel=>vd B w0 N l bs rs w F k r (n+1) m al rel true)→Res N l B w0 w bs rs F slots ops a0 gp (o::r) (k+1) n:=fun hB=>by
    unfold fD at hB;obtain⟨d,hd,hN,hfr,R',hR',h1,h2⟩:=iF hB;obtain⟨u_,h2,hsub⟩:=uZ h2;refine newR hsub hd hN hR' h2 fun bD a w1 Q' hf hb hw E hrel hK=>?_
    obtain⟨m',P',k1,k2,k3,k4⟩:=uY (fun _ h=>by cases h) hrel h1;obtain⟨vs,h3,h4⟩:=kH k1;obtain⟨v,w2,h5,h6,h7⟩:=vG (abT h4 bD w1 a o hb (M.keep hb)) k2 rfl (evR (ht.1 bD) k3 k4 h3 (fun x hx=>hx) E);exact oZ hw h5 hd hf (by simpa using hN) fun a' p=>auZ (hK v a' w2 h7 h6 (by rw[hd];exact p))
   split at h
   ·rename_i ty x hop;obtain⟨d,hd,hN,hfr,h⟩:=iF h;obtain⟨u,h1,h⟩:=b_ h;rcases pI h with⟨g,off',rfl,hq⟩|h
    case inr=>
     obtain⟨h2,h3⟩:=WJ h;exact val (.refl _) hd hN h3 fun bD=>(h2 bD).elim
    obtain⟨D,hD,h⟩:=j4 hq;obtain⟨v,h2,h3⟩:=VH M h hD;exact val (.refl _) hd hN h2 fun bD a w1 Q' hf hb hw E _ hK=>dv hw (h3 bD w1 hb a o x hop (E x (by rw[hop];simp[iE]) _ _ h1 (ht.1 bD))) hd hf hN hK rfl
   ·rename_i ty hop;obtain⟨hπ,h⟩:=nM h
    cases al with
    | some A=>exact h.elim
    | none=>
     obtain⟨d,hd,hN,hfr,z,hz,h⟩:=iF h;obtain⟨hty,h⟩:=bI h;exact new hπ rfl hd hN hty (vY h) fun a w1 _=>vT hop hz
   ·rename_i ty x hop;obtain⟨hπ,h⟩:=nM h
    cases al with
    | some A=>exact h.elim
    | none=>
     obtain⟨d,hd,hN,hfr,h⟩:=iF h;obtain⟨u,h1,h⟩:=b_ h;obtain⟨hty,h⟩:=bI h;exact new hπ rfl hd hN hty (vY h) fun a w1 E=>Qn hop (E x (by rw[hop];simp[iE]) _ _ h1 (by rw[hπ];simp))
   ·rename_i ty len parts hop;rcases h with hA|hB
    case inr=>exact hfD hB
    obtain⟨hπ,hA⟩:=nM hA
    cases al with
    | some A=>exact hA.elim
    | none=>
     obtain⟨d,hd,hN,hfr,h⟩:=iF hA;obtain⟨D,hD,h⟩:=j4 h;split at h
     ·obtain⟨hps,h⟩:=bI h;obtain⟨hlen,h⟩:=iJ h;obtain⟨b0,h⟩:=bI h;obtain⟨b1,h⟩:=bI h;obtain⟨b2,h⟩:=bI h;obtain⟨vs,h1,h⟩:=kH h;obtain⟨h2,h3⟩:=Il h;exact new hπ rfl hd hN b2 h2 fun a w1 E=>rQ hop hD hps hlen (by simpa using b0) (by simpa using b1) (yF h1 (by rw[hπ];simp) (by rw[hop] at E;exact E)) h3
     ·exact h.elim
   ·rename_i c hop;split at h
    ·rename_i f qY;have e3:c={ callee:=.value (.func f),args:=c.args,argTypes:=c.argTypes }:=by cases c;simp only at qY;rw[qY]
     have Wg:iE o.op=c.args.toList:=by rw[hop];simp only[iE,qY];rfl
     rcases h with h|h|h|h
     case inr.inr.inr=>
      unfold cV at h
      cases hm:jr f TW with
      | true=>rw[hm] at h;exact h.elim
      | false=>
       rw[hm] at h;obtain⟨hb,h⟩:=bI h;obtain⟨hu,h⟩:=bI h;have hok:=Ck hb hm;obtain⟨d,hd,hN,hfr,R',hR',h1,h2⟩:=iF h;obtain⟨u_,h2,hsub⟩:=uZ h2;refine newR hsub hd hN hR' h2 fun bD a w1 Q' hf hb hw E hrel hK=>?_
       obtain⟨m',P',k1,k2,k3,k4⟩:=uY (fun _ h=>by cases h) (fun A hA hx=>hrel A hA (by rw[Wg];exact hx)) h1;obtain⟨vs,h3,h4⟩:=kH k1;exact dx hw (rW hok (hop.trans (congrArg Op.call e3)) (jG (evR (ht.1 bD) k3 k4 h3 (by rw[Wg];exact fun x hx=>hx) E))) (vG (h4 bD w1 hb (M.keep hb)) k2) hd hf hN hK
     case inr.inl=>
      unfold cU at h
      cases hm:jr f TW with
      | true=>rw[hm] at h;exact h.elim
      | false=>
       rw[hm] at h;obtain⟨hb,h⟩:=bI h;obtain⟨hu,h⟩:=bI h;have hok:=Ck hb hm;obtain⟨d,hd,hN,hfr,v,h1,h2⟩:=iF h;obtain⟨u_,h2,hsub⟩:=uZ h2;refine val hsub hd hN h2 fun bD a w1 Q' hf hb hw E hrel hK=>?_
       obtain⟨m',P',k1,k2,k3,k4⟩:=uY (fun _ h=>by cases h) (fun A hA hx=>hrel A hA (by rw[Wg];exact hx)) h1;obtain⟨vs,h3,h4⟩:=kH k1;exact dc hw (rW hok (hop.trans (congrArg Op.call e3)) (jG (evR (ht.1 bD) k3 k4 h3 (by rw[Wg];exact fun x hx=>hx) E))) (vG (h4 bD w1 hb (M.keep hb)) k2) hd hf hN hK fun _=>rfl
     case inr.inr.inl=>
      obtain⟨vs,h1,h⟩:=kH h;unfold cRl at h
      cases hm:jr f TW with
      | true=>rw[hm] at h;exact h.elim
      | false=>
       rw[hm] at h;obtain⟨hb,h⟩:=bI h;have hok:=Ck hb hm;obtain⟨d,hd,hN,hfr,R,hR,h⟩:=iF h;obtain⟨hc,h2⟩:=iw h;exact newR (.refl _) hd hN hR h2 fun bD a w1 Q' hf hb hw E _ hK=>dx hw (rW hok (hop.trans (congrArg Op.call e3)) (jG (yF h1 (ht.1 bD) fun x hx=>E x (by rw[Wg];exact hx)))) (hc bD w1 hb (M.keep hb)) hd hf hN hK
     obtain⟨vs,h1,h⟩:=kH h;refine aa8 h fun bD hok a w1 E=>?_
     exact rW hok (hop.trans (congrArg Op.call e3)) (jG (yF h1 (ht.1 bD) fun x hx=>E x (by rw[hop];simp only[iE,qY];exact hx)))
    ·rename_i y hy qY;obtain⟨u,h1,h⟩:=b_ h;split at h
     ·rename_i f first cap
      obtain⟨vs,h2,h⟩:=kH h;have h:=iL (iL h);refine aa8 h fun bD hok a w1 E=>?_
      have e3:c={ callee:=.value y,args:=c.args,argTypes:=c.argTypes }:=by cases c;simp only at qY;rw[qY]
      have afz:iE o.op=y::c.args.toList:=by
       rw[hop];simp only[iE,qY];cases y<;>first|rfl|exact absurd rfl (hy _)
      refine JL hok (hop.trans (congrArg Op.call e3)) (E y (by rw[afz];exact auR ..) _ _ h1 (ht.1 bD)) ?_;rw[jG (yF h2 (ht.1 bD) fun x hx=>E x (by rw[afz];exact auO _ hx))];apply Array.toList_inj.1;simp
     ·exact h.elim
    ·obtain⟨d,hd,hN,hfr,h⟩:=iF h;exact Wd hop hd hN h
   all_goals
    cases hu:U6 (iE o.op) rel with
    | true=>rw[hu] at h;exact hfD h
    | false=>
     rw[hu] at h;obtain⟨d,hd,hN,hfr,h⟩:=iF h;exact Wd rfl hd hN h
end
def uj(o:Oper)(j:Nat):Bool:=o.after.toList.any fun e=>Region.binds .any e&&(e.on == j)
def pOp(o:Oper):Bool:=o.guard.isNone
def aeN(N:Nat)(L:List Oper)(k:Nat):Bool:=
 ordered 0 L&&((L.take (k+2)).all (fun o=>o.dst.isSome)&&((L.take k).all (G1 (iB (k+2) L))&&((iB (k+2) L).all (fun s=>decide (s<N))&&(decide (iB (k+2) L).Nodup&&(decide (L.length=k+4) &&
  ((L.drop k).all pOp&&((L.drop (k+2)).all (G1 (iB (k+2) L)))))))))
section
variable (B:Nat) (w0:World) (N:Nat) (l:Slots) (bs:List Bx) (rs:List Rw) (w:World) (K:Slots→List Bx→List Rw→World→Prop)
def vP:XJ:=fun L _ m al _ us=>match L,al,us with
 | [a1,a2,s1,s2],none,false=>(match a1.op,a2.op,s1.op,s2.op with
  | .alloc Ah,.alloc Ag,.store t1 (.tmp x1) y1,.store t2 (.tmp x2) y2=>dK N m a1.dst fun d1=>dK N m a2.dst fun d2=>bif Nat.beq x1 d1 then bif Nat.beq x2 d2 then (match s1.dst,s2.dst with
   | none,none=>∃ z1 z2,((Tryz.prog.info? Ah).bind (·.zero)=some z1∧(Tryz.prog.info? Ag).bind (·.zero)=some z2)∧qK l m [] y1 fun u1=>qK l m [] y2 fun u2=>D5 t1 (fun D1=>D5 t2 (fun D2=>bif Nat.blt Ah 9000 then bif Nat.blt Ag 9000 then qR (aY u1) (i_ D1) (qR (aY z1) (i_ D1) (qR (aY u2) (i_ D2) (qR (aY z2) (i_ D2)
     (((aY u1).all (·.oneCell')=true∧(aY u2).all (·.oneCell')=true)∧∀ g1 g2 w',auT w.heap.size w w'→aV B w0 w' ((g1,Ah,(aY u1).toArray)::(g2,Ag,(aY u2).toArray)::bs) rs →
       pT m l fun l'=>K ((d1,.pointer (some ⟨g1,0,none⟩))::(d2,.pointer (some ⟨g2,0,none⟩))::l') ((g1,Ah,(aY u1).toArray)::(g2,Ag,(aY u2).toArray)::bs) rs w')))) else False else False) TT) TT
   | _,_=>False) else False else False
  | _,_,_,_=>False)
 | _,_,_=>False
end
structure PI (L:List Oper) (k:Nat) (slots:List Nat) (G:List Good) (N:Nat) (a0:Act) (w:World) (d1 d2 Ah Ag:Nat) (z1 z2 c1 c2:Array Value) (Lf:Nat→Bool) (b:Act) (u:World):Prop where
 fr:Fr b N
 inv:auT w.heap.size w u
 done:∀ i,i<k→Lf i=true→∀ s g,slots[i]?=some s→G[i]?=some g→∃ v,At b s v∧g v u
 rest:∀ j x,slots.contains j=false→At a0 j x→At b j x
 o1:Lf (k+2)=true→Lf k=true
 o2:Lf (k+3)=true→Lf (k+1)=true
 one:Lf k=true→∃ g,At b d1 (.pointer (some ⟨g,0,none⟩))∧w.heap.size≤g∧Whole u g Ah (if Lf (k+2)=true then c1 else z1)
 two:Lf (k+1)=true→∃ g,At b d2 (.pointer (some ⟨g,0,none⟩))∧w.heap.size≤g∧Whole u g Ag (if Lf (k+3)=true then c2 else z2)
 ne:Lf k=true→Lf (k+1)=true→∀ g,At b d1 (.pointer (some ⟨g,0,none⟩))→At b d2 (.pointer (some ⟨g,0,none⟩))→False
theorem At.Sv{a:Act}{s:Nat}{v u:Value}(h:At a s v)(h':At a s u):v=u:=auQ (h.symm.trans h')
theorem rT{g g':Nat}(h:Value.pointer (some ⟨g,0,none⟩)=.pointer (some ⟨g',0,none⟩)):g=g':=by
 injection h with h;injection h with h;injection h
section
variable {B:Nat} {w0 w:World} {N:Nat} {l:Slots} {bs:List Bx} {rs:List Rw} {K:Slots→List Bx→List Rw→World→Prop} {Q:Exit→Act→World→Prop} {a:Act} {id:Nat} {L:List Oper}
theorem fV{Lf:Nat→Bool}{i j:Nat}(h:j≠i):upd Lf i j=Lf j:=by
 have:(j == i)=false:=by simpa using h
 simp[upd,this]
theorem Je{Lf:Nat→Bool}{i:Nat}:upd Lf i i=true:=by simp[upd]
theorem MX{k:Nat}{slots:List Nat}{G:List Good}{d1 d2 Ah Ag:Nat}{u1 u2 z1 z2:Value}{a1 a2 s1 s2:Oper}{t1 t2:TypeId}{y1 y2:Operand}{D1 D2:TD}
 (hL:L.length=k+4) (hnd:slots.Nodup) (hsl:slots.length=k+2) (hlt:∀ s∈slots,s<N)
 (hG:G.length=k) (Ze:∀ g∈G,∃ v,g=kU v) (hst:lM Tryz.prog L.toArray slots G (auT w.heap.size w) a N (L.take k) G)
 (gI:ordered 0 L=true) (qW:∀ (i:Nat) (o:Oper),i<k+2→L[i]?=some o→slots[i]?=o.dst)
 (e1:L[k]?=some a1) (e2:L[k+1]?=some a2) (e3:L[k+2]?=some s1) (e4:L[k+3]?=some s2)
 (p1:a1.op=.alloc Ah) (p2:a2.op=.alloc Ag) (p3:s1.op=.store t1 (.tmp d1) y1) (p4:s2.op=.store t2 (.tmp d2) y2)
 (g1:a1.guard=none) (g2:a2.guard=none) (g3:s1.guard=none) (g4:s2.guard=none) (q1:a1.dst=some d1) (q2:a2.dst=some d2) (q3:s1.dst=none) (q4:s2.dst=none)
 (hz1:(Tryz.prog.info? Ah).bind (·.zero)=some z1) (hz2:(Tryz.prog.info? Ag).bind (·.zero)=some z2)
 (hD1:jt Tryz.prog t1 D1=true) (hD2:jt Tryz.prog t2 D2=true) (n1:(aY u1).length=i_ D1) (n2:(aY z1).length=i_ D1) (n3:(aY u2).length=i_ D2) (n4:(aY z2).length=i_ D2)
 (c1:(aY u1).all (·.oneCell')=true) (c2:(aY u2).all (·.oneCell')=true)
 (hy1:∀ (b:Act) (u:World) (Lf:Nat→Bool),PI L k slots G N a w d1 d2 Ah Ag z1.cells z2.cells (aY u1).toArray (aY u2).toArray Lf b u→(∀ e∈s1.after.toList,Region.binds .any e=true→Lf e.on=true)→b.eval y1=u1∧Lf k=true)
 (hy2:∀ (b:Act) (u:World) (Lf:Nat→Bool),PI L k slots G N a w d1 d2 Ah Ag z1.cells z2.cells (aY u1).toArray (aY u2).toArray Lf b u→(∀ e∈s2.after.toList,Region.binds .any e=true→Lf e.on=true)→b.eval y2=u2∧Lf (k+1)=true) :
 ∀ (i:Nat) (o:Oper),L[i]?=some o→∀ (Lf:Nat→Bool) (b:Act) (u:World) (Q':Exit→Act→World→Prop),PI L k slots G N a w d1 d2 Ah Ag z1.cells z2.cells (aY u1).toArray (aY u2).toArray Lf b u→Lf i=false →
  (∀ e∈o.after.toList,Region.binds .any e=true→Lf e.on=true)→(∀ b u,PI L k slots G N a w d1 d2 Ah Ag z1.cells z2.cells (aY u1).toArray (aY u2).toArray (upd Lf i) b u→Q' .normal b u)→wpList Tryz.prog L.toArray Q' [o] b u:=by
 have Yw:slots[k]?=some d1:=by rw[qW k a1 (by omega) e1,q1]
 have Yv:slots[k+1]?=some d2:=by rw[qW (k+1) a2 (by omega) e2,q2]
 have afq:∀ {i j s s':Nat},slots[i]?=some s→slots[j]?=some s'→i≠j→s≠s':=fun h1 h2 hne e=>hne (mg hnd (e▸h1) h2)
 have hGl:∀ (i:Nat) (g:Good),G[i]?=some g→i<k∧eG g:=fun i g hg=>⟨hG▸(auV.1 hg).1,by obtain⟨v,rfl⟩:=Ze g (auS hg);exact bg v⟩
 have hN:∀ {i s:Nat},slots[i]?=some s→s<N:=fun h=>hlt _ (auS h)
 have hin:∀ {i s:Nat},slots[i]?=some s→slots.contains s=true:=fun h=>by simpa using auS h
 have upT:∀ {Lf:Nat→Bool} {i j:Nat},Lf j=true→upd Lf i j=true:=fun h=>by simp[upd,h]
 have put:∀ {i s:Nat} {v:Value} {Lf:Nat→Bool} {b b':Act} {u u':World},PI L k slots G N a w d1 d2 Ah Ag z1.cells z2.cells (aY u1).toArray (aY u2).toArray Lf b u→i<k+2→slots[i]?=some s→Lf i=false→Put b s v b'→auT u.heap.size u u' →
  (∀ g,G[i]?=some g→g v u')→(i=k→∃ g,v=.pointer (some ⟨g,0,none⟩)∧w.heap.size≤g∧Whole u' g Ah z1.cells∧u.heap.size≤g)→(i=k+1→∃ g,v=.pointer (some ⟨g,0,none⟩)∧w.heap.size≤g∧Whole u' g Ag z2.cells∧u.heap.size≤g) →
  PI L k slots G N a w d1 d2 Ah Ag z1.cells z2.cells (aY u1).toArray (aY u2).toArray (upd Lf i) b' u':=by
  intro i s v Lf b b' u u' I hi hs XS hp hb hg hk1 hk2;have old:∀ {j s':Nat} {x:Value},slots[j]?=some s'→j≠i→At b s' x→At b' s' x:=fun h1 hne h2=>hp.old (by simpa using afq h1 hs hne) h2
  have hx2:upd Lf i (k+2)=Lf (k+2):=fV (by omega);have hx3:upd Lf i (k+3)=Lf (k+3):=fV (by omega);refine⟨hp.fr I.fr,I.inv.trans (hb.mono I.inv.size),?_,?_,?_,?_,?_,?_,?_⟩
  ·intro j hj CV s' g hs' hg';by_cases hji:j=i
   ·subst hji;obtain rfl:s=s':=auQ (hs.symm.trans hs');exact⟨v,hp.now,hg g hg'⟩
   ·rw[fV hji] at CV;obtain⟨x,h1,h2⟩:=I.done j hj CV s' g hs' hg';exact⟨x,old hs' hji h1,(hGl j g hg').2 _ _ _ h2 hb⟩
  ·intro j x hj hx;have:j≠s:=fun e=>by rw[e,hin hs] at hj;cases hj
   exact hp.old (by simpa using this) (I.rest j x hj hx)
  ·intro h;rw[hx2] at h;exact upT (I.o1 h)
  ·intro h;rw[hx3] at h;exact upT (I.o2 h)
  ·intro h;by_cases hik:i=k
   ·subst hik;obtain rfl:s=d1:=auQ (hs.symm.trans Yw);obtain⟨g,rfl,h1,h2,-⟩:=hk1 rfl
    have h3:Lf (i+2)=false:=by
     cases h4:Lf (i+2) with
     | false=>rfl
     | true=>rw[I.o1 h4] at XS;cases XS
    exact⟨g,hp.now,h1,by rw[hx2,h3];exact h2⟩
   ·rw[fV (Ne.symm hik)] at h;obtain⟨g,h1,h2,h3⟩:=I.one h;exact⟨g,old Yw (Ne.symm hik) h1,h2,by rw[hx2];exact Whole.under hb h3 h3.lt⟩
  ·intro h;by_cases hik:i=k+1
   ·subst hik;obtain rfl:s=d2:=auQ (hs.symm.trans Yv);obtain⟨g,rfl,h1,h2,-⟩:=hk2 rfl
    have h3:Lf (k+3)=false:=by
     cases h4:Lf (k+3) with
     | false=>rfl
     | true=>rw[I.o2 h4] at XS;cases XS
    exact⟨g,hp.now,h1,by rw[hx3,h3];exact h2⟩
   ·rw[fV (Ne.symm hik)] at h;obtain⟨g,h1,h2,h3⟩:=I.two h;exact⟨g,old Yv (Ne.symm hik) h1,h2,by rw[hx3];exact Whole.under hb h3 h3.lt⟩
  ·intro ha hb' g h1 h2;by_cases hik:i=k
   ·subst hik;obtain rfl:s=d1:=auQ (hs.symm.trans Yw);obtain⟨g',rfl,-,-,h5⟩:=hk1 rfl;rw[fV (by omega)] at hb';obtain⟨g2,h6,-,h7⟩:=I.two hb';obtain rfl:=rT (hp.now.Sv h1);obtain rfl:=rT ((old Yv (by omega) h6).Sv h2);have:=h7.lt;omega
   ·by_cases acz:i=k+1
    ·subst acz;obtain rfl:s=d2:=auQ (hs.symm.trans Yv);obtain⟨g',rfl,-,-,h5⟩:=hk2 rfl;rw[fV (by omega)] at ha;obtain⟨g2,h6,-,h7⟩:=I.one ha;obtain rfl:=rT (hp.now.Sv h2);obtain rfl:=rT ((old Yw (by omega) h6).Sv h1);have:=h7.lt;omega
    ·rw[fV (Ne.symm hik)] at ha;rw[fV (Ne.symm acz)] at hb';obtain⟨x1,h3,-,-⟩:=I.one ha;obtain⟨x2,h4,-,-⟩:=I.two hb';obtain rfl:=rT ((old Yw (Ne.symm hik) h3).Sv h1);obtain rfl:=rT ((old Yv (Ne.symm acz) h4).Sv h2);exact I.ne ha hb' _ h3 h4
 have sto:∀ {Lf:Nat→Bool} {b:Act} {u u':World} {i g:Nat},PI L k slots G N a w d1 d2 Ah Ag z1.cells z2.cells (aY u1).toArray (aY u2).toArray Lf b u→w.heap.size≤g→yP u u' g→(i=k+2∧Lf k=true∧At b d1 (.pointer (some ⟨g,0,none⟩))∧Whole u' g Ah (aY u1).toArray)∨(i=k+3∧Lf (k+1)=true∧At b d2 (.pointer (some ⟨g,0,none⟩))∧Whole u' g Ag (aY u2).toArray) →
  PI L k slots G N a w d1 d2 Ah Ag z1.cells z2.cells (aY u1).toArray (aY u2).toArray (upd Lf i) b u':=by
  intro Lf b u u' i g I hg s hcase;refine⟨I.fr,I.inv.trans (s.below hg),?_,I.rest,?_,?_,?_,?_,?_⟩
  ·intro j hj CV s' g' hs' hg';rw[fV (by rcases hcase with⟨rfl,-⟩|⟨rfl,-⟩<;>omega)] at CV;obtain⟨x,h1,h2⟩:=I.done j hj CV s' g' hs' hg';obtain⟨v,rfl⟩:=Ze g' (auS hg');exact⟨x,h1,h2⟩
  ·intro h;rcases hcase with⟨rfl,hk,-⟩|⟨rfl,-⟩
   ·exact upT hk
   ·rw[fV (by omega)] at h;exact upT (I.o1 h)
  ·intro h;rcases hcase with⟨rfl,-⟩|⟨rfl,hk,-⟩
   ·rw[fV (by omega)] at h;exact upT (I.o2 h)
   ·exact upT hk
  ·intro h;rcases hcase with⟨rfl,hk,hat,hW⟩|⟨rfl,hk,hat,hW⟩
   ·exact⟨g,hat,hg,by rw[Je,if_pos rfl];exact hW⟩
   ·rw[fV (by omega)] at h;obtain⟨x,h1,h2,h3⟩:=I.one h;refine⟨x,h1,h2,?_⟩;rw[fV (by omega)];exact s.whole h3 fun e=>I.ne h hk x h1 (e▸hat)
  ·intro h;rcases hcase with⟨rfl,hk,hat,hW⟩|⟨rfl,hk,hat,hW⟩
   ·rw[fV (by omega)] at h;obtain⟨x,h1,h2,h3⟩:=I.two h;refine⟨x,h1,h2,?_⟩;rw[fV (by omega)];exact s.whole h3 fun e=>I.ne hk h x (e▸hat) h1
   ·exact⟨g,hat,hg,by rw[Je,if_pos rfl];exact hW⟩
  ·intro h1 h2;have hne:k≠i∧k+1≠i:=by rcases hcase with⟨rfl,-⟩|⟨rfl,-⟩<;>omega
   rw[fV hne.1] at h1;rw[fV hne.2] at h2;exact I.ne h1 h2
 intro i o ho Lf b u Q' I XS kr hK;have hil:=(auV.1 ho).1;rw[hL] at hil;by_cases hik:i<k
 ·obtain⟨s,hs⟩:∃ s,slots[i]?=some s:=⟨_,au7 (by omega)⟩;have hd:o.dst=some s:=by rw[← qW i o (by omega) ho,hs]
  refine GZ (L.take k) G hst i o (by rw[List.getElem?_take,if_pos hik];exact ho) b u Q' I.fr I.inv (fun j ⟨gr,hj,hb⟩ s g hs hg=>?_) I.rest ?_
  ·have hji:j<i:=by have:=lW 0 L gI i o ho _ hj hb;simpa using this
   exact I.done j (by omega) (kr _ hj hb) s g hs hg
  ·intro v b' u' hb hg hp;rw[hd] at hp;exact hK b' u' (put I (by omega) hs XS hp hb (fun g h=>hg g h) (fun e=>by omega) (fun e=>by omega))
 ·by_cases h0:i=k
  ·subst h0;obtain rfl:a1=o:=auQ (e1.symm.trans ho);exact Bs (f:=fun n=>.pointer (some ⟨n,0,none⟩)) (j8 g1) (vT p1 hz1) q1 I.fr (hN Yw) fun g b' u' n p=>auZ (hK _ _ (put I (by omega) Yw XS p n.below (fun g' hg'=>absurd (hGl _ _ hg').1 (by omega)) (fun _=>⟨g,rfl,n.at_▸I.inv.size,n.whole,n.at_▸Nat.le_refl _⟩) (fun e=>by omega)))
  ·by_cases h1:i=k+1
   ·subst h1;obtain rfl:a2=o:=auQ (e2.symm.trans ho);exact Bs (f:=fun n=>.pointer (some ⟨n,0,none⟩)) (j8 g2) (vT p2 hz2) q2 I.fr (hN Yv) fun g b' u' n p=>auZ (hK _ _ (put I (by omega) Yv XS p n.below (fun g' hg'=>absurd (hGl _ _ hg').1 (by omega)) (fun e=>by omega) (fun _=>⟨g,rfl,n.at_▸I.inv.size,n.whole,n.at_▸Nat.le_refl _⟩)))
   ·by_cases h2:i=k+2
    ·subst h2;obtain rfl:s1=o:=auQ (e3.symm.trans ho);obtain⟨hv,hk⟩:=hy1 b u Lf I kr;obtain⟨g,hat,hge,hW⟩:=I.one hk;rw[XS] at hW;have hsz:z1.cells.size=(aY u1).length:=by rw[← Array.length_toList,lK,n2,n1]
     exact qo (j8 g3) p3 hat.ev hv hW (lK u1) (by rw[Nat.zero_add,if_neg (by decide),hsz];exact Nat.le_refl _) ((Ai hD1).trans (by rw[n1])) c1 rfl q3 fun u' s hW'=>auZ (hK _ _ (sto I hge s (.inl ⟨rfl,hk,hat,by rw[if_neg (by decide)] at hW';rw[lF _ _ hsz] at hW';exact hW'⟩)))
    ·obtain rfl:i=k+3:=by omega
     obtain rfl:s2=o:=auQ (e4.symm.trans ho);obtain⟨hv,hk⟩:=hy2 b u Lf I kr;obtain⟨g,hat,hge,hW⟩:=I.two hk;rw[XS] at hW;have hsz:z2.cells.size=(aY u2).length:=by rw[← Array.length_toList,lK,n4,n3]
     exact qo (j8 g4) p4 hat.ev hv hW (lK u2) (by rw[Nat.zero_add,if_neg (by decide),hsz];exact Nat.le_refl _) ((Ai hD2).trans (by rw[n3])) c2 rfl q4 fun u' s hW'=>auZ (hK _ _ (sto I hge s (.inr ⟨rfl,hk,hat,by rw[if_neg (by decide)] at hW';rw[lF _ _ hsz] at hW';exact hW'⟩)))
end
def slK:Nat→List Oper→(List Nat→Prop)→Prop
 | 0,_,f=>f []
 | k+1,o::r,f=>(match o.dst with|some d=>slK k r fun s=>f (d::s)|none=>False)
 | _+1,[],_=>False
theorem Mu:∀ {k:Nat} {L:List Oper} {f:List Nat→Prop},slK k L f→k≤L.length∧(L.take k).map (fun o=>o.dst)=(iB k L).map some∧f (iB k L)
 | 0,_,_,h=>⟨Nat.zero_le _,by simp[iB],by simpa[iB,slK] using h⟩
 | k+1,o::r,f,h=>by
  unfold slK at h;split at h
  ·rename_i d hd;obtain⟨h1,h2,h3⟩:=Mu h;have e:iB (k+1) (o::r)=d::iB k r:=by simp[iB,hd]
   rw[e];exact⟨by simpa using h1,by simp[hd,h2],h3⟩
  ·exact h.elim
 | _+1,[],_,h=>h.elim
def vr(B:Nat)(w0:World)(N:Nat)(L:List Oper)(l:Slots)(bs:List Bx)(rs:List Rw)(w:World)(K:Slots→List Bx→List Rw→World→Prop):Prop:=
 agy N L (dkN false [] L)=true∧slK (dkN false [] L) L fun ds=>WK ds l fun l'=>vd B w0 N l' bs rs w (vF B w0 N l' bs rs w K) (dkN false [] L) L 0 [] none [] false
section
variable {B:Nat} {w0 w:World} {N:Nat} {l:Slots} {bs:List Bx} {rs:List Rw} {K:Slots→List Bx→List Rw→World→Prop} {Q:Exit→Act→World→Prop} {a:Act} {id:Nat} {L:List Oper}
theorem SI{m:List gi}{n:Nat}(h:jm m n){d j:Nat}(hj:j<n)(hu:∀ e∈m,e.j≠j){v:Value}:jm (⟨d,j,[],true,v⟩::m) n:=by
 have key:∀ x,(∃ e∈m,e.j=x.1)→(Cond (⟨d,j,[],true,v⟩::m) x↔Cond m x):=fun x ⟨e',h4,h5⟩=>by
  constructor
  ·rintro⟨e,he,h1,h2,h3⟩;rcases auN.1 he with rfl|he
   ·exact absurd (h5.trans h1.symm) (hu e' h4)
   ·exact⟨e,he,h1,h2,h3⟩
  ·rintro⟨e,he,h1⟩;exact⟨e,auO _ he,h1⟩
 refine⟨?_,?_,?_,?_⟩
 ·intro e he;rcases auN.1 he with rfl|he
  ·exact hj
  ·exact h.lt e he
 ·intro e he e' he' hjj;rcases auN.1 he with rfl|he<;>rcases auN.1 he' with rfl|he'
  ·rfl
  ·exact absurd hjj.symm (hu e' he')
  ·exact absurd hjj (hu e he)
  ·exact h.uniq e he e' he' hjj
 ·intro e he x hx;rcases auN.1 he with rfl|he
  ·cases hx
  ·obtain⟨e',h1,h2⟩:=h.pm e he x hx;exact⟨e',auO _ h1,h2⟩
 ·intro e he;rcases auN.1 he with rfl|he
  ·simp
  ·rw[h.tv e he];exact⟨fun h' x hx=>(key x (h.pm e he x hx)).2 (h' x hx),fun h' x hx=>(key x (h.pm e he x hx)).1 (h' x hx)⟩
theorem aep(F:Fs a N l)(M:aV B w0 w bs rs)(h:vr B w0 N L l bs rs w K)(next:∀ a l' bs' rs' w',Fs a N l'→aV B w0 w' bs' rs'→K l' bs' rs' w'→Q .normal a w'):(Code.region id L.toArray true).wp Tryz.prog Q a w:=by
 obtain⟨hok,h⟩:=h;obtain⟨hkl,hsl,h⟩:=Mu h;obtain⟨l',h,hlk⟩:=CZ h;generalize dkN false [] L=k at hok hkl hsl h hlk;generalize jC:iB k L=slots at hsl h hlk;unfold agy at hok;simp only[au1,decide_eq_true_eq,au0,jC] at hok;obtain⟨gI,htail,qW,kr,hbd,hnd⟩:=hok
 have hlen:slots.length=k:=by
  have:=congrArg List.length hsl;simp only[au5,au2] at this;omega
 have hat:∀ (i:Nat) (o:Oper),(L.take k)[i]?=some o→slots[i]?=o.dst:=fun i o hi=>by
  have h1:=congrArg (fun x=>x[i]?) hsl;simp only[auW,hi,Option.map_some] at h1
  cases hs:slots[i]? with
  | none=>rw[hs] at h1;cases h1
  | some s=>rw[hs] at h1;exact(auQ h1).symm
 have sG:∀ (i s:Nat),slots[i]?=some s→(L.toArray[i]?).bind (fun o=>o.dst)=some s:=fun i s hs=>by
  have hi:i<k:=hlen▸(auV.1 hs).1;have hiL:i<L.length:=Nat.lt_of_lt_of_le hi hkl;have h1:(L.take k)[i]?=some L[i]:=by rw[List.getElem?_take,if_pos hi,au7 hiL]
  have h2:=hat i _ h1;rw[hs] at h2;simp[hiL,← h2]
 have hl':∀ q v,look q l'=some v→slots.contains q=false∧look q l=some v:=fun q v hq=>by
  rw[hlk] at hq
  cases hm:jr q slots with
  | true=>rw[hm] at hq;cases hq
  | false=>
   rw[hm] at hq;refine⟨?_,hq⟩
   cases hc:slots.contains q with
   | false=>rfl
   | true=>
    have:q∈slots:=by simpa using hc
    rw[oI.2 this] at hm;cases hm
 have F0:Fs a N l':=⟨F.fr,fun q v hq=>F.at_ q v (hl' q v hq).2⟩
 obtain⟨G,m,al,rel,us,hla,hGl,hst,hF,hv⟩:=Z7 (ops:=L.toArray) M hnd sG (fun q v hq=>(hl' q v hq).1) F0 (gp:=[]) h ⟨⟨.nil 0,rfl,by simp⟩,(fun _ h=>by cases h),(fun _ _ i h=>absurd h (Nat.not_lt_zero i)),(fun _ h=>by cases h),.nil⟩
  (fun i o hi=>⟨kr o (auS hi),by rw[Nat.zero_add];exact hat i o hi⟩) hkl trivial
 rw[List.nil_append] at hla hst hF;rw[Nat.zero_add] at hF hv;refine qm k slots G (auT w.heap.size w) (by kernel_rfl) gI htail hsl hnd (by simpa using hbd) (by rw[hGl,hlen]) F.fr (Below.refl _ _).drew (fun _ _ h hb=>h.trans (hb.mono h.size)) hla ?_ ?_
 ·exact hst
 ·intro a' w' D;have hgood:∀ (i s:Nat) (g:Good),slots[i]?=some s→G[i]?=some g→∃ v,At a' s v∧g v w':=fun i s g hs hg=>D.done i rfl s g hs hg
  have I0:Inv L.toArray a' N l' m k:=by
   refine⟨D.fr,hF.D.L,fun e he=>sG _ _ (hF.D.at_ e he).1,fun e he=>?_,fun q v _ hq=>D.rest q v (hl' q v hq).1 (F0.at_ q v hq)⟩;obtain⟨v,h1,rfl⟩:=hgood _ _ _ (hF.D.at_ e he).1 (hF.D.at_ e he).2;exact h1
  have hrest:∀ i o,(L.drop k)[i]?=some o→L.toArray[k+i]?=some o:=fun i o hi=>by simpa using hi
  have hput:∀ {m':List gi} {d j:Nat} {v:Value},Inv L.toArray a' N l' m' k→j<k→(∀ e∈m',e.j≠j)→slots[j]?=some d→At a' d v→Inv L.toArray a' N l' (⟨d,j,[],true,v⟩::m') k:=by
   intro m' d j v I0 c4 c5 c1 h1;refine⟨I0.fr,SI I0.L c4 c5,?_,?_,?_⟩
   ·intro e he;rcases auN.1 he with rfl|he
    ·exact sG _ _ c1
    ·exact I0.dst e he
   ·intro e he;rcases auN.1 he with rfl|he
    ·exact h1
    ·exact I0.at_ e he
   ·intro q u hq hl;exact I0.base q u (fun e he=>hq e (auO _ he)) hl
  have hfin:∀ {rel':List kY} {m':List gi} {P:Option (World→Prop)} {f:List gi→Option (World→Prop)→Prop},Inv L.toArray a' N l' m' k→(∀ A∈rel',A.j<k∧slots[A.j]?=some A.d∧(∀ e∈m',e.j≠A.j)∧(∀ C,al=some C→C.j≠A.j)∧∃ u,At a' A.d u∧A.R u w')→(rel'.map (·.j)).Nodup→(∀ C,al=some C→∀ e∈m',e.j≠C.j)→(∀ p,P=some p→p w')→abO rel' m' P f →
   ∃ m'' P',f m'' P'∧(∀ p,P'=some p→p w')∧Inv L.toArray a' N l' m'' k∧∀ C,al=some C→∀ e∈m'',e.j≠C.j:=by
   intro rel'
   induction rel' with
   | nil=>intro m' P f I _ _ hC hP h;exact⟨m',P,h,hP,I,hC⟩
   | cons A r ih=>
    intro m' P f I hA hn hC hP h;obtain⟨d,j,R⟩:=A;obtain⟨hfr,h⟩:=bI h;obtain⟨b4,b1,b5,b6,u,k1,k2⟩:=hA _ (auR ..);rw[List.map_cons,List.nodup_cons] at hn;refine ih (hput I b4 b5 b1 k1) (fun A' hA'=>?_) hn.2 (fun C hC' e he=>?_) (fun p hp=>?_) (h u)
    ·obtain⟨c4,c1,c5,c6,c7⟩:=hA A' (auO _ hA');refine⟨c4,c1,fun e he=>?_,c6,c7⟩;rcases auN.1 he with rfl|he
     ·exact fun e=>hn.1 (auP.2 ⟨A',hA',e.symm⟩)
     ·exact c5 e he
    ·rcases auN.1 he with rfl|he
     ·exact fun e=>b6 C hC' e.symm
     ·exact hC C hC' e he
    ·cases P with
     | none=>obtain rfl:=auQ hp;exact k2
     | some q=>obtain rfl:=auQ hp;exact⟨k2,hP q rfl⟩
  obtain⟨m',P',k1,k2,I1,hC⟩:=hfin I0 (fun A hA=>by
   obtain⟨b1,b2,b4,b5,b6⟩:=hF.MN A hA;exact⟨b4,b1,b5,b6,hgood _ _ _ b1 b2⟩) hF.wJ (fun C hC e he=>(hF.al_ C hC).2.2.2.2 e he) (fun _ h=>by cases h) hv
  cases al with
  | none=>exact FI hrest I1 (M.keep D.inv) (vG (k1 w') k2 D.inv (M.keep D.inv)) next
  | some A=>
   obtain⟨d,j,ty,cs,s⟩:=A;obtain⟨c1,c2,c3,c4,c5⟩:=hF.al_ _ rfl;obtain⟨hfr,k1⟩:=bI k1;obtain⟨v,h1,g,rfl,h2,h3⟩:=hgood _ _ _ c1 c2;have M':=M.newAt D.inv h2 h3 c3;exact FI hrest (hput I1 c4 (hC _ rfl) c1 h1) M' (vG (k1 g w') k2 D.inv M') next
end
def kP:List Oper→Nat
 | _::y::z::u::v::r=>kP (y::z::u::v::r)+1
 | _=>0
def vp(B:Nat)(w0:World)(N:Nat)(L:List Oper)(l:Slots)(bs:List Bx)(rs:List Rw)(w:World)(K:Slots→List Bx→List Rw→World→Prop):Prop:=
 aeN N L (kP L)=true∧slK (kP L+2) L fun ds=>WK ds l fun l'=>vd B w0 N l' bs rs w (vP B w0 N l' bs rs w K) (kP L) L 0 [] none [] false
section
variable {B:Nat} {w0 w:World} {N:Nat} {l:Slots} {bs:List Bx} {rs:List Rw} {K:Slots→List Bx→List Rw→World→Prop} {Q:Exit→Act→World→Prop} {a:Act} {id:Nat} {L:List Oper}
theorem J8{P:Program}{ops:Array Oper}{I:(Nat→Bool)→Act→World→Prop}{l:List Oper}
 (h:∀ (i:Nat) (o:Oper),l[i]?=some o→∀ (Lf:Nat→Bool) (b:Act) (u:World) (Q':Exit→Act→World→Prop),I Lf b u→Lf i=false→(∀ e∈o.after.toList,Region.binds .any e=true→Lf e.on=true)→(∀ b u,I (upd Lf i) b u→Q' .normal b u)→wpList P ops Q' [o] b u) :
 ∀ (r:List Oper) (m:Nat),(∀ i o,r[i]?=some o→l[m+i]?=some o)→mM P ops I m r:=by
 intro r
 induction r with
 | nil=>intro m _;trivial
 | cons o r ih=>
  intro m hr;refine⟨h m o (hr 0 o rfl),ih (m+1) fun i o' ho'=>?_⟩;have:=hr (i+1) o' (by simpa using ho')
  rwa [show m+1+i=m+(i+1) by omega]
theorem aer(F:Fs a N l)(M:aV B w0 w bs rs)(h:vp B w0 N L l bs rs w K)(next:∀ a l' bs' rs' w',Fs a N l'→aV B w0 w' bs' rs'→K l' bs' rs' w'→Q .normal a w'):(Code.region id L.toArray true).wp Tryz.prog Q a w:=by
 obtain⟨hok,h⟩:=h;obtain⟨hkl,hsl,h⟩:=Mu h;obtain⟨l',h,hlk⟩:=CZ h;generalize kP L=k at hok hkl hsl h hlk;generalize jC:iB (k+2) L=slots at hsl h hlk;unfold aeN at hok;simp only[au1,decide_eq_true_eq,au0,jC] at hok;obtain⟨gI,qW,kr,hbd,hnd,hlen,hgd,P7⟩:=hok
 have aau:slots.length=k+2:=by
  have:=congrArg List.length hsl;simp only[au5,au2] at this;omega
 have Wr:∀ (i:Nat) (o:Oper),i<k+2→L[i]?=some o→slots[i]?=o.dst:=fun i o hi ho=>by
  have h1:=congrArg (fun x=>x[i]?) hsl;simp only[auW,List.getElem?_take,if_pos hi,ho,Option.map_some] at h1
  cases hs:slots[i]? with
  | none=>rw[hs] at h1;cases h1
  | some s=>rw[hs] at h1;exact(auQ h1).symm
 have sG:∀ (i s:Nat),slots[i]?=some s→(L.toArray[i]?).bind (fun o=>o.dst)=some s:=fun i s hs=>by
  have hi:i<k+2:=aau▸(auV.1 hs).1;have hiL:i<L.length:=by omega
  have h2:=Wr i _ hi (au7 hiL);rw[hs] at h2;simp[hiL,← h2]
 have hl':∀ q v,look q l'=some v→slots.contains q=false∧look q l=some v:=fun q v hq=>by
  rw[hlk] at hq
  cases hm:jr q slots with
  | true=>rw[hm] at hq;cases hq
  | false=>
   rw[hm] at hq;refine⟨?_,hq⟩
   cases hc:slots.contains q with
   | false=>rfl
   | true=>
    have:q∈slots:=by simpa using hc
    rw[oI.2 this] at hm;cases hm
 have F0:Fs a N l':=⟨F.fr,fun q v hq=>F.at_ q v (hl' q v hq).2⟩
 obtain⟨G,m,al,rel,us,hla,hGl,hst,hF,hv⟩:=Z7 (ops:=L.toArray) M hnd sG (fun q v hq=>(hl' q v hq).1) F0 (gp:=[]) h ⟨⟨.nil 0,rfl,by simp⟩,(fun _ h=>by cases h),(fun _ _ i h=>absurd h (Nat.not_lt_zero i)),(fun _ h=>by cases h),.nil⟩
  (fun i o hi=>⟨kr o (auS hi),by
   have hik:i<k:=by have:=(auV.1 hi).1;rw[au2] at this;omega
   rw[Nat.zero_add];exact Wr i o (by omega) (by rw[List.getElem?_take,if_pos hik] at hi;exact hi)⟩) (by omega) trivial
 rw[List.nil_append] at hla hst hF;rw[Nat.zero_add] at hF hv;replace hv:vP B w0 N l' bs rs w K (L.drop k) k m al rel us:=hv;unfold vP at hv;split at hv
 case h_2=>exact hv.elim
 rename_i a1 a2 s1 s2 aaB;split at hv
 case h_2=>exact hv.elim
 rename_i Ah Ag t1 x1 y1 t2 x2 y2 p1 p2 p3 p4;obtain⟨d1,q1,b1,b1',hv⟩:=iF hv;obtain⟨d2,q2,b2,b2',hv⟩:=iF hv;obtain⟨hx1,hv⟩:=bI hv;obtain⟨hx2,hv⟩:=bI hv;obtain rfl:=au4 hx1;obtain rfl:=au4 hx2;split at hv
 case h_2=>exact hv.elim
 rename_i q3 q4;obtain⟨z1,z2,⟨hz1,hz2⟩,hv⟩:=hv;obtain⟨u1,r1,hv⟩:=b_ hv;obtain⟨u2,r2,hv⟩:=b_ hv;obtain⟨D1,hD1,hv⟩:=j4 hv;obtain⟨D2,hD2,hv⟩:=j4 hv;obtain⟨t9,hv⟩:=bI hv;obtain⟨t9',hv⟩:=bI hv;obtain⟨n1,hv⟩:=iJ hv;obtain⟨n2,hv⟩:=iJ hv;obtain⟨n3,hv⟩:=iJ hv;obtain⟨n4,⟨c1,c2⟩,hv⟩:=iJ hv;have at_:∀ i o,(L.drop k)[i]?=some o→L[k+i]?=some o:=fun i o hi=>by simpa using hi
 rw[aaB] at at_ hgd;have e1:=at_ 0 a1 rfl;have e2:=at_ 1 a2 rfl;have e3:=at_ 2 s1 rfl;have e4:=at_ 3 s2 rfl;have g1:a1.guard=none:=by have:=hgd a1 (by simp);simpa[pOp] using this
 have g2:a2.guard=none:=by have:=hgd a2 (by simp);simpa[pOp] using this
 have g3:s1.guard=none:=by have:=hgd s1 (by simp);simpa[pOp] using this
 have g4:s2.guard=none:=by have:=hgd s2 (by simp);simpa[pOp] using this
 have hd2:L.drop (k+2)=[s1,s2]:=by rw[← List.drop_drop,aaB];rfl
 rw[hd2] at P7
 have Ze:∀ g∈G,∃ v,g=kU v:=fun g hg=>by
  obtain⟨i,hi⟩:=List.getElem?_of_mem hg;obtain⟨e,he,rfl⟩:=hF.cov rfl rfl i (hGl▸(auV.1 hi).1);have:=(hF.D.at_ e he).2;rw[hi] at this;exact⟨_,auQ this⟩
 have Yw:slots[k]?=some x1:=by rw[Wr k a1 (by omega) e1,q1]
 have Yv:slots[k+1]?=some x2:=by rw[Wr (k+1) a2 (by omega) e2,q2]
 have ev:∀ {y:Operand} {u:Value} {s:Oper},Fo l' m [] y u→s∈[s1,s2]→y∈iE s.op→∀ (b:Act) (u':World) (Lf:Nat→Bool),PI L k slots G N a w x1 x2 Ah Ag z1.cells z2.cells (aY u1).toArray (aY u2).toArray Lf b u'→(∀ e∈s.after.toList,Region.binds .any e=true→Lf e.on=true)→b.eval y=u:=by
  intro y u s P5 hs hy b u' Lf I hdp
  cases y with
  | tmp q=>
   rcases P5 with⟨e,he,rfl,rfl,hsub⟩|⟨h1,h2⟩
   ·have ht:e.t=true:=(hF.D.L.tv e he).2 fun y hy=>absurd (Ak hsub y hy) (by simp)
    obtain⟨f1,f2⟩:=hF.D.at_ e he;obtain⟨gr,f3,f4⟩:=G0 (P7 s hs) hnd f1 hy;obtain⟨v,f5,rfl⟩:=I.done e.j (hF.D.L.lt e he) (hdp _ f3 f4) _ _ f1 f2;exact(f5.on ht).ev
   ·exact(I.rest q u (hl' q u h2).1 (F0.at_ q u h2)).ev
  | const c=>exact P5
  | global=>exact P5.elim
  | func f=>exact P5
 refine jM (by kernel_rfl) gI (PI L k slots G N a w x1 x2 Ah Ag z1.cells z2.cells (aY u1).toArray (aY u2).toArray) ?_ (J8 (MX hlen hnd aau (fun s hs=>by simpa using hbd s hs) hGl Ze hst gI Wr e1 e2 e3 e4 p1 p2 p3 p4 g1 g2 g3 g4 q1 q2 q3 q4 hz1 hz2 hD1 hD2 n1 n2 n3 n4 c1 c2
  (fun b u Lf I hdp=>⟨ev r1 (by simp) (by rw[p3];simp[iE]) b u Lf I hdp,by obtain⟨gr,f3,f4⟩:=G0 (P7 s1 (by simp)) hnd Yw (by rw[p3];simp[iE]);exact hdp _ f3 f4⟩)
  (fun b u Lf I hdp=>⟨ev r2 (by simp) (by rw[p4];simp[iE]) b u Lf I hdp,by obtain⟨gr,f3,f4⟩:=G0 (P7 s2 (by simp)) hnd Yv (by rw[p4];simp[iE]);exact hdp _ f3 f4⟩)) L 0 (fun i o ho=>by simpa using ho)) ?_
 ·exact⟨F.fr,(Below.refl _ _).drew,(fun _ _ h=>by cases h),fun _ _ _ h=>h,(fun h=>by cases h),(fun h=>by cases h),(fun h=>by cases h),(fun h=>by cases h),fun h=>by cases h⟩
 ·intro Lf a' w' I hall;obtain⟨v1,f1,f2,f3⟩:=I.one (hall _ (by omega));obtain⟨v2,f4,f5,f6⟩:=I.two (hall _ (by omega));rw[if_pos (hall _ (by omega))] at f3 f6;have hne:v1≠v2:=fun e=>I.ne (hall _ (by omega)) (hall _ (by omega)) v1 f1 (e▸f4)
  have M':aV B w0 w' ((v1,Ah,(aY u1).toArray)::(v2,Ag,(aY u2).toArray)::bs) rs:=M.Gc I.inv (b1:=(v1,Ah,(aY u1).toArray)) (b2:=(v2,Ag,(aY u2).toArray)) (.inl ⟨t9,f3⟩) f2 (.inl ⟨t9',f6⟩) f5 hne
  have I0:Inv L.toArray a' N l' m k:=by
   refine⟨I.fr,hF.D.L,fun e he=>sG _ _ (hF.D.at_ e he).1,fun e he=>?_,fun q v _ hq=>I.rest q v (hl' q v hq).1 (F0.at_ q v hq)⟩;obtain⟨v,h1,rfl⟩:=I.done e.j (hF.D.L.lt e he) (hall _ (by have:=hF.D.L.lt e he;omega)) _ _ (hF.D.at_ e he).1 (hF.D.at_ e he).2;exact h1
  obtain⟨l'',k1,F'⟩:=I0.fsK (hv v1 v2 w' I.inv M');exact next _ _ _ _ _ ((F'.add f4).add f1) M' k1
end
abbrev KK:=Exit→Slots→List Bx→List Rw→World→Prop
def doK:List Oper→List Nat→(List Nat→Prop)→Prop
 | [],acc,f=>f acc
 | o::r,acc,f=>(match o.dst with|some d=>doK r (d::acc) f|none=>doK r acc f)
theorem Xi{f:List Nat→Prop}:∀ {L:List Oper} {acc:List Nat},doK L acc f→∃ ds,f ds
 | [],acc,h=>⟨acc,h⟩
 | o::r,acc,h=>by
  unfold doK at h;split at h<;>exact Xi h
def ZA:Code→List Nat→(List Nat→Prop)→Prop
 | .region _ ops _,acc,f=>doK ops.toList acc f
 | .seq a b,acc,f=>ZA a acc fun acc=>ZA b acc f
 | .cond _ a b,acc,f=>ZA a acc fun acc=>ZA b acc f
 | .block _ c,acc,f=>ZA c acc f
 | .loop c,acc,f=>ZA c acc f
 | _,acc,f=>f acc
theorem rC:∀ {c:Code} {acc:List Nat} {f:List Nat→Prop},ZA c acc f→∃ ds,f ds
 | .region _ _ _,_,_,h=>Xi h
 | .seq a b,_,_,h=>by obtain⟨_,h⟩:=rC (c:=a) h;exact rC (c:=b) h
 | .cond _ a b,_,_,h=>by obtain⟨_,h⟩:=rC (c:=a) h;exact rC (c:=b) h
 | .block _ c,_,_,h=>rC (c:=c) h
 | .loop c,_,_,h=>rC (c:=c) h
 | .skip,_,_,h=>⟨_,h⟩
 | .rangeFunc _ _ _ _,_,_,h=>⟨_,h⟩
 | .exit _,_,_,h=>⟨_,h⟩
 | .scope _,_,_,h=>⟨_,h⟩
 | .label _,_,_,h=>⟨_,h⟩
 | .goto _,_,_,h=>⟨_,h⟩
 | .ret,_,_,h=>⟨_,h⟩
 | .refuse _,_,_,h=>⟨_,h⟩
def kpK:List Nat→Slots→(Slots→Prop)→Prop
 | _,[],f=>f []
 | ds,(s,v)::r,f=>bif jr s ds then kpK ds r f else kpK (s::ds) r fun l=>f ((s,v)::l)
theorem yc:∀ {l:Slots} {ds:List Nat} {f:Slots→Prop},kpK ds l f→∃ l',f l'∧(∀ q v,look q l'=some v→look q l=some v)∧∀ q∈ds,look q l'=none
 | [],ds,f,h=>⟨[],h,fun _ _ h=>h,fun _ _=>rfl⟩
 | (s,v)::r,ds,f,h=>by
  unfold kpK at h
  cases hm:jr s ds with
  | true=>
   rw[hm] at h;obtain⟨l',h1,h2,h3⟩:=yc h;refine⟨l',h1,fun q u hq=>?_,h3⟩;rw[bH]
   cases e:q == s with
   | true=>
    have e':q=s:=by simpa using e
    rw[h3 q (e'▸oI.1 hm)] at hq;cases hq
   | false=>exact h2 q u hq
  | false=>
   rw[hm] at h;obtain⟨l',h1,h2,h3⟩:=yc h;refine⟨_,h1,fun q u hq=>?_,fun q hq=>?_⟩
   ·rw[bH] at hq ⊢
    cases e:q == s with
    | true=>rw[e] at hq;exact hq
    | false=>rw[e] at hq;exact h2 q u hq
   ·rw[bH]
    cases e:q == s with
    | true=>
     have e':q=s:=by simpa using e
     rw[oI.2 (e'▸hq)] at hm;cases hm
    | false=>exact h3 q (auO _ hq)
def apS:Slots→Slots→Slots
 | [],r=>r
 | x::l,r=>x::apS l r
theorem JV{q:Nat}{r:Slots}:∀ {l:Slots} {v:Value},look q (apS l r)=some v→look q l=some v∨look q r=some v
 | [],_,h=>.inr h
 | (s,u)::l,v,h=>by
  rw[apS,bH] at h;rw[bH]
  cases e:q == s with
  | true=>rw[e] at h;exact .inl h
  | false=>rw[e] at h;exact JV h
theorem Fs.kept{a:Act}{N:Nat}{l C kl:Slots}(F:Fs a N l)(hs:Sub l C)(hk:∀ q v,look q kl=some v→look q l=some v):Fs a N (apS C kl):=by
 refine⟨F.fr,fun q v h=>?_⟩;rcases JV h with h|h
 ·exact(F.sub hs).at_ q v h
 ·exact F.at_ q v (hk q v h)
def fid:Code→Option Nat
 | .region id _ _=>some id
 | .seq a b=>(match fid a with|some i=>some i|none=>fid b)
 | .block _ c=>fid c
 | .loop c=>fid c
 | .cond _ a _=>fid a
 | _=>none
def jn(i:Option Nat)(J:List Nat):Bool:=match i with
 | some i=>jr i J
 | none=>false
def inS(B:Nat)(w0:World){ι:Type}(C:ι→Slots)(Ac:ι→List Bx)(wI:ι→List Rw)(R:ι→World→Prop)(l:Slots)(bs:List Bx)(rs:List Rw)(w:World)(x:ι):Prop:=
 Sub l (C x)∧(aV B w0 w bs rs→aV B w0 w (Ac x) (wI x)∧R x w)
section
variable (B:Nat) (w0:World) (N:Nat) (J:List Nat)
def QT:Code→Slots→List Bx→List Rw→World→KK→Prop
 | .skip,l,bs,rs,w,K=>K .normal l bs rs w
 | .label _,l,bs,rs,w,K=>K .normal l bs rs w
 | .exit id,l,bs,rs,w,K=>K (.exit id) l bs rs w
 | .ret,l,bs,rs,w,K=>K .ret l bs rs w
 | .region id ops dr,l,bs,rs,w,K=>(match dr with
  | false=>vc B w0 N l ops.toList 0 [] bs rs w (K .normal)
  | true=>vr B w0 N ops.toList l bs rs w (K .normal)∨vp B w0 N ops.toList l bs rs w (K .normal) ∨
   (∀ (a:Act) (Q:Exit→Act→World→Prop),Fs a N l→aV B w0 w bs rs→(∀ a' l' bs' rs' w',Fs a' N l'→aV B w0 w' bs' rs'→K .normal l' bs' rs' w'→Q .normal a' w')→(Code.region id ops true).wp Tryz.prog Q a w))
 | .seq x y,l,bs,rs,w,K=>bif jn (fid y) J then
  ZA x [] fun ds=>kpK ds l fun kl=>∃ (ι:Type) (C:ι→Slots) (Ac:ι→List Bx) (wI:ι→List Rw) (R:ι→World→Prop),
   QT x l bs rs w (fun e l' bs' rs' w'=>match e with
    | .normal=>kpK ds l' fun kl'=>kl'=kl∧∃ x,inS B w0 C Ac wI R l' bs' rs' w' x
    | e=>K e l' bs' rs' w') ∧
   ∀ x w',aV B w0 w' (Ac x) (wI x)→R x w'→QT y (apS (C x) kl) (Ac x) (wI x) w' K
  else QT x l bs rs w fun e l' bs' rs' w'=>match e with
   | .normal=>QT y l' bs' rs' w' K
   | e=>K e l' bs' rs' w'
 | .cond c x y,l,bs,rs,w,K=>qK l [] [] c fun v=>match v with
  | .bool b=>(b=true→QT x l bs rs w K)∧(b=false→QT y l bs rs w K)
  | _=>False
 | .block id c,l,bs,rs,w,K=>QT c l bs rs w fun e l' bs' rs' w'=>match e with
  | .exit i=>bif Nat.beq i id then K .normal l' bs' rs' w' else K (.exit i) l' bs' rs' w'
  | e=>K e l' bs' rs' w'
 | .loop c,l,bs,rs,w,K=>ZA c [] fun ds=>kpK ds l fun kl=>∃ (ι:Type) (C:ι→Slots) (Ac:ι→List Bx) (wI:ι→List Rw) (R:ι→World→Prop) (μ:ι→Nat) (x:ι),
  inS B w0 C Ac wI R l bs rs w x ∧
  ∀ x w',aV B w0 w' (Ac x) (wI x)→R x w'→QT c (apS (C x) kl) (Ac x) (wI x) w' fun e l' bs' rs' w''=>match e with
   | .normal=>kpK ds l' fun kl'=>kl'=kl∧∃ x',inS B w0 C Ac wI R l' bs' rs' w'' x'∧μ x'<μ x
   | e=>K e l' bs' rs' w''
 | _,_,_,_,_,_=>False
end
theorem Mc{B:Nat}{w0:World}{N:Nat}{J:List Nat}:∀ {c:Code} {l:Slots} {bs:List Bx} {rs:List Rw} {w:World} {K:KK} {Q:Exit→Act→World→Prop} {a:Act},QT B w0 N J c l bs rs w K→Fs a N l→aV B w0 w bs rs →
 (∀ e a l bs rs w,Fs a N l→aV B w0 w bs rs→K e l bs rs w→Q e a w)→c.wp Tryz.prog Q a w:=by
 intro c
 induction c with
 | skip=>intro l bs rs w K Q a h F M hQ;exact wp_skip (hQ _ _ _ _ _ _ F M h)
 | label=>intro l bs rs w K Q a h F M hQ;exact wp_label (hQ _ _ _ _ _ _ F M h)
 | exit=>intro l bs rs w K Q a h F M hQ;exact wp_exit (hQ _ _ _ _ _ _ F M h)
 | ret=>intro l bs rs w K Q a h F M hQ;exact wp_ret (hQ _ _ _ _ _ _ F M h)
 | region id ops dr=>
  intro l bs rs w K Q a h F M hQ
  cases dr with
  | false=>exact wp_region_list (Z8 (ops:=ops) (fun i o hi=>by simpa using hi) (Inv.start F) M h fun a l' bs' rs' w' F' M' hk=>hQ _ _ _ _ _ _ F' M' hk)
  | true=>
   rcases h with h|h|h
   ·have:=aep (id:=id) F M h (Q:=Q) fun a l' bs' rs' w' F' M' hk=>hQ _ _ _ _ _ _ F' M' hk
    rwa [Array.toArray_toList] at this
   ·have:=aer (id:=id) F M h (Q:=Q) fun a l' bs' rs' w' F' M' hk=>hQ _ _ _ _ _ _ F' M' hk
    rwa [Array.toArray_toList] at this
   ·exact h a Q F M fun a l' bs' rs' w' F' M' hk=>hQ _ _ _ _ _ _ F' M' hk
 | seq x y ihx ihy=>
  intro l bs rs w K Q a h F M hQ;unfold QT at h
  cases hj:jn (fid y) J with
  | false=>
   rw[hj] at h;refine wp_seq (ihx h F M fun e a l' bs' rs' w' F' M' hk=>?_)
   cases e with
   | normal=>exact ihy hk F' M' hQ
   | _=>exact hQ _ _ _ _ _ _ F' M' hk
  | true=>
   rw[hj] at h;obtain⟨ds,h⟩:=rC h;obtain⟨kl,⟨ι,C,Ac,wI,R,h1,h2⟩,-,-⟩:=yc h;refine wp_seq (ihx h1 F M fun e a l' bs' rs' w' F' M' hk=>?_)
   cases e with
   | normal=>
    obtain⟨kl',⟨rfl,x,hs,hR⟩,hkl,-⟩:=yc hk;obtain⟨M',hR⟩:=hR M';exact ihy (h2 x w' M' hR) (F'.kept hs hkl) M' hQ
   | _=>exact hQ _ _ _ _ _ _ F' M' hk
 | cond c x y ihx ihy=>
  intro l bs rs w K Q a h F M hQ;obtain⟨v,h1,h⟩:=b_ h;have hv:a.eval c=v:=(Inv.start (ops:=#[]) F).E h1 (by simp)
  cases v with
  | bool b=>exact wp_cond_split hv (fun hb=>ihx (h.1 hb) F M hQ) (fun hb=>ihy (h.2 hb) F M hQ)
  | _=>exact h.elim
 | block id c ih=>
  intro l bs rs w K Q a h F M hQ;refine wp_block (ih h F M fun e a l' bs' rs' w' F' M' hk=>?_)
  cases e with
  | exit i=>
   show if i=id then Q .normal a w' else Q (.exit i) a w'
   have hk:bif Nat.beq i id then K .normal l' bs' rs' w' else K (.exit i) l' bs' rs' w':=hk
   cases hb:Nat.beq i id with
   | true=>
    rw[hb] at hk;rw[if_pos (au4 hb)];exact hQ _ _ _ _ _ _ F' M' hk
   | false=>
    rw[hb] at hk;rw[if_neg fun e=>by rw[e,Nat.beq_refl] at hb;cases hb];exact hQ _ _ _ _ _ _ F' M' hk
  | _=>exact hQ _ _ _ _ _ _ F' M' hk
 | loop c ih=>
  intro l bs rs w K Q a h F M hQ;obtain⟨ds,h⟩:=rC h;obtain⟨kl,⟨ι,C,Ac,wI,R,μ,x,⟨hs,hR⟩,h2⟩,hkl,-⟩:=yc h;obtain⟨M,hR⟩:=hR M;refine gj (fun x a w=>Fs a N (apS (C x) kl)∧aV B w0 w (Ac x) (wI x)∧R x w) μ x ⟨F.kept hs hkl,M,hR⟩ ?_;rintro x a w ⟨F,M,hR⟩;refine ih (h2 x w M hR) F M fun e a l' bs' rs' w' F' M' hk=>?_
  cases e with
  | normal=>
   obtain⟨kl',⟨rfl,x',⟨hs,hR⟩,hμ⟩,hkl,-⟩:=yc hk;obtain⟨M',hR⟩:=hR M';exact⟨x',⟨F'.kept hs hkl,M',hR⟩,hμ⟩
  | _=>exact hQ _ _ _ _ _ _ F' M' hk
 | rangeFunc=>intro l bs rs w K Q a h;exact h.elim
 | scope=>intro l bs rs w K Q a h;exact h.elim
 | goto=>intro l bs rs w K Q a h;exact h.elim
 | refuse=>intro l bs rs w K Q a h;exact h.elim
def rsK(l:Slots):List ResultVar→(List Value→Prop)→Prop
 | [],f=>f []
 | .tmp s::r,f=>(match look s l with|some v=>rsK l r fun vs=>f (v::vs)|none=>False)
 | _::_,_=>False
theorem U3{a:Act}{N:Nat}{l:Slots}(F:Fs a N l):∀ {rv:List ResultVar} {f:List Value→Prop},rsK l rv f→∃ vs,f vs∧DQ (fun r v=>∃ s,r=.tmp s∧At a s v) rv vs
 | [],_,h=>⟨[],h,.nil⟩
 | .tmp s::r,f,h=>by
  unfold rsK at h;split at h
  ·rename_i v hv;obtain⟨vs,h1,h2⟩:=U3 F h;exact⟨_,h1,.cons ⟨s,rfl,F.at_ s v hv⟩ h2⟩
  ·exact h.elim
 | .cell _ _::_,_,h=>h.elim
def lS:List Value→Value
 | [v]=>v
 | vs=>.tuple vs.toArray
def Xo(bs:List Bx)(g n:Nat)(k:List Value→Prop):Prop:=∃ i,tS bs i fun b=>bif Nat.blt b.2.1 9000 then b.1=g∧qR b.2.2.toList n (k b.2.2.toList) else False
def Qq(l:Slots)(bs:List Bx)(s:Nat)(ty:TypeId)(k:List Value→Prop):Prop:=match look s l with
 | some v=>F6 v False fun g off=>bif Nat.beq off 0 then D5 ty (fun D=>match D with|.st n _=>Xo bs g n k|.arr n _ m=>Xo bs g (n*m) k|_=>False) TT else False
 | none=>False
theorem KX{bs:List Bx}{rs:List Rw}{g n:Nat}{k:List Value→Prop}{B:Nat}{w0 w:World}(M:aV B w0 w bs rs)(h:Xo bs g n k):∃ t cs,Whole w g t cs∧n=cs.size∧k cs.toList:=by
 obtain⟨i,hq⟩:=h;obtain⟨⟨b,T,cs⟩,hb,hq1⟩:=gV hq;obtain⟨hT,h2,hq2⟩:=bI hq1;obtain⟨hl,hq3⟩:=iJ hq2;obtain rfl:b=g:=h2;exact⟨T,cs,M.b i hb hT,by rw[← hl,Array.length_toList],hq3⟩
theorem KY{l:Slots}{bs:List Bx}{rs:List Rw}{s:Nat}{ty:TypeId}{k:List Value→Prop}{B:Nat}{w0 w:World}(M:aV B w0 w bs rs)(h:Qq l bs s ty k):
 ∃ (g:Nat) (cs:Array Value),look s l=some (.pointer (some ⟨g,0,none⟩))∧(loadVar ty ⟨g,0,none⟩).run Tryz.prog w=.ok (.agg cs) w∧k cs.toList:=by
 unfold Qq at h;split at h
 ·rename_i v hv;rcases pI h with⟨g,off,rfl,hq⟩|h
  case inr=>exact h.elim
  obtain⟨h0,hq'⟩:=bI hq;obtain rfl:off=0:=au4 h0;obtain⟨D,hD,hq⟩:=j4 hq';split at hq
  ·obtain⟨t,cs,hW,hn,hk⟩:=KX M hq;obtain⟨fs,hu,hs,-⟩:=UK hD;exact⟨_,_,hv,run_loadVar_row w g t ty cs (0,0) (.struct fs) hW hu rfl (by rw[hs,hn]),hk⟩
  ·obtain⟨t,cs,hW,hn,hk⟩:=KX M hq;obtain⟨hu,-,hs⟩:=Mn hD;exact⟨_,_,hv,run_loadVar_row w g t ty cs (0,0) _ hW hu rfl (by rw[hs,hn]),hk⟩
  ·exact hq.elim
 ·exact h.elim
def YA(B:Nat)(w0:World)(R:Ending→World→Prop)(l:Slots)(bs:List Bx)(rs:List Rw)(w:World):List ResultVar→Prop
 | [.cell s ty]=>Qq l bs s ty fun cs=>aV B w0 w bs rs→R (.returned (.agg cs.toArray)) w
 | [.cell s ty,.tmp u]=>(match look u l with|some v=>Qq l bs s ty fun cs=>aV B w0 w bs rs→R (.returned (.tuple #[.agg cs.toArray,v])) w|none=>False)
 | L=>bif Nat.ble L.length 3 then rsK l L fun vs=>aV B w0 w bs rs→R (.returned (lS vs)) w else False
def aeI(fn:Func)(B:Nat)(w0:World)(R:Ending→World→Prop):KK:=fun e l bs rs w=>match e with
 | .normal=>YA B w0 R l bs rs w fn.results.toList
 | .ret=>YA B w0 R l bs rs w fn.results.toList
 | _=>False
theorem Yz{fn:Func}{R:Ending→World→Prop}{a:Act}{w:World}{N:Nat}(h3:Nat.ble fn.results.toList.length 3=true)(hf:Fr a N){vs:List Value}(h:DQ (fun r v=>∃ s,r=.tmp s∧At a s v) fn.results.toList vs)(hR:R (.returned (lS vs)) w):bodyPost Tryz.prog fn R .ret a w:=by
 generalize hl:fn.results.toList=L at h h3;have hres:fn.results=L.toArray:=by rw[← hl]
 clear hl
 match h with
 | .nil=>exact O3 hres hf hR
 | .cons ⟨s,e,h1⟩ .nil=>subst e;exact Us hres hf h1 hR
 | .cons ⟨s,e,h1⟩ (.cons ⟨s',e',h2⟩ .nil)=>subst e e';exact O2 hres hf h1 h2 hR
 | .cons ⟨s,e,h1⟩ (.cons ⟨s',e',h2⟩ (.cons ⟨s'',e'',h4⟩ .nil))=>subst e e' e'';exact X6 hres hf h1 h2 h4 hR
 | .cons _ (.cons _ (.cons _ (.cons _ _)))=>simp at h3
theorem Aq{fn:Func}{R:Ending→World→Prop}{a:Act}{N:Nat}{l:Slots}{bs:List Bx}{rs:List Rw}{B:Nat}{w0 w:World}(F:Fs a N l)(M:aV B w0 w bs rs)(h:YA B w0 R l bs rs w fn.results.toList):bodyPost Tryz.prog fn R .ret a w:=by
 generalize hL:fn.results.toList=L at h;unfold YA at h;split at h
 ·rename_i s ty;have hr:fn.results=#[.cell s ty]:=by rw[← Array.toList_inj,hL]
  obtain⟨g,cs,hv,hl,h⟩:=KY M h;refine⟨F.fr.defers,_,?_,h M⟩;have h2:a.tmps.getD s undef=.pointer (some ⟨g,0,none⟩):=F.e s hv;rw[au8] at h2;simp[results,hr,h2,asAddr,hl]
 ·rename_i s ty u;have hr:fn.results=#[.cell s ty,.tmp u]:=by rw[← Array.toList_inj,hL]
  split at h
  ·rename_i v hv2;obtain⟨g,cs,hv,hl,h⟩:=KY M h;refine⟨F.fr.defers,_,?_,h M⟩;have h2:a.tmps.getD s undef=.pointer (some ⟨g,0,none⟩):=F.e s hv;have k2:a.tmps.getD u undef=v:=F.e u hv2;rw[au8] at h2 k2;simp[results,hr,h2,k2,asAddr,hl]
  ·exact h.elim
 ·subst hL;obtain⟨h3,hk⟩:=bI h;obtain⟨vs,h1,h2⟩:=U3 F hk;exact Yz h3 F.fr h2 (h1 M)
theorem bP{f:FuncId}{fn:Func}{c:Code}{N:Nat}(J:List Nat){vs:List Value}{R:Ending→World→Prop}{w0:World}(hf:Tryz.prog.funcs[f]?=some fn)(hb:fn.body=some c)(hn:fn.ntmps=N)(hN:Nat.ble vs.length N=true)
 (h:QT w0.heap.size w0 N J c (ens 0 vs) [] [] w0 (aeI fn w0.heap.size w0 R)):Calls Tryz.prog f vs.toArray w0 R:=by
 refine en hf hb hn (by simpa using hN) rfl fun a F=>Mc h F (Mm.start w0) fun e a l bs rs w F M hk=>?_
 cases e with
 | normal=>exact Uu (Aq F M hk)
 | ret=>exact Aq F M hk
 | _=>exact hk.elim
theorem an{p q:Prop}(h:p)(k:q):p∧q:=⟨h,k⟩
theorem ei{α:Sort _}{p:α→Prop}{x:α}(h:p x):∃ x,p x:=⟨x,h⟩
theorem ia{p:Nat→Nat→Nat→Prop}{b off i:Nat}(h:p b off i):∃ b off i,p b off i:=⟨b,off,i,h⟩
theorem lb{p:Nat→Prop}{X:Prop}(i:Nat)(h:p i):(∃ i,p i)∨X:=.inl ⟨i,h⟩
theorem lc{α:Type}{p:α→Prop}{X:Prop}{x:α}(h:p x):X∨∃ x,p x:=.inr ⟨x,h⟩
theorem cl{p:Value→Prop}{X:Prop}{v:Value}(h:p v):(∃ v,p v)∨X:=.inl ⟨v,h⟩
theorem cg{p:(Value→World→Prop)→Prop}{X:Prop}{R:Value→World→Prop}(h:p R):X∨∃ R,p R:=.inr ⟨R,h⟩
theorem cw{B:Nat}{w0 w:World}{bs:List Bx}{rs:List Rw}{X:Prop}{f:FuncId}{args:Array Value}{e kk n:Nat}{xs:List Value}{K:Value→List Bx→List Rw→World→Prop}(M:aV B w0 w bs rs)
 (hc:Calls Tryz.prog f args w fun r w'=>∃ u,r=.returned u∧(w'.ownsRow w.heap.size e kk u n xs∧auT w.heap.size w w')) (h:∀ u w',aV B w0 w' bs (⟨u,e,kk,n,xs⟩::rs)→K u bs (⟨u,e,kk,n,xs⟩::rs) w') :
 X∨∃ R:Value→World→Prop,(Calls Tryz.prog f args w fun e w'=>∃ v,e=.returned v∧R v w')∧∀ v w',R v w'→∃ bs' rs',aV B w0 w' bs' rs'∧K v bs' rs' w':=
 .inr ⟨_,hc,fun u w' hR=>⟨_,_,M.yu (r:=⟨u,e,kk,n,xs⟩) hR.2 hR.1,h u w' (M.yu (r:=⟨u,e,kk,n,xs⟩) hR.2 hR.1)⟩⟩
theorem dr{p q X:Prop}(h:p)(k:q):(p∧q)∨X:=.inl ⟨h,k⟩
theorem dp{p q X Y:Prop}(h:p)(k:q):X∨(p∧q)∨Y:=.inr (.inl ⟨h,k⟩)
theorem cr{X Y Z:Prop}{p:(Value→World→Prop)→Prop}(R:Value→World→Prop)(h:p R):X∨Y∨(∃ R,p R)∨Z:=.inr (.inr (.inl ⟨R,h⟩))
theorem cv{X Y Z:Prop}{p:(Value→World→Prop)→Prop}(R:Value→World→Prop)(h:p R):X∨Y∨Z∨∃ R,p R:=.inr (.inr (.inr ⟨R,h⟩))
theorem cu{X Y:Prop}{p:Value→Prop}{v:Value}(h:p v):X∨(∃ v,p v)∨Y:=.inr (.inl ⟨v,h⟩)
theorem dU{a:Act}{x:Operand}{xs:List Operand}{v:Value}{vs:List Value}:wK a (x::xs) (v::vs)→a.eval x=v
 | .cons h _=>h
theorem fE{a:Act}{x y:Operand}{xs:List Operand}{u v:Value}{vs:List Value}:wK a (x::y::xs) (u::v::vs)→a.eval y=v
 | .cons _ (.cons h _)=>h
theorem akt{a:Act}{x y z:Operand}{xs:List Operand}{u v s:Value}{vs:List Value}:wK a (x::y::z::xs) (u::v::s::vs)→a.eval z=s
 | .cons _ (.cons _ (.cons h _))=>h
theorem bl{p q:Prop}(h:p):p∨q:=.inl h
theorem br{X:Prop}{p:(Value→World→Prop)→Prop}(R:Value→World→Prop)(h:p R):X∨∃ R,p R:=.inr ⟨R,h⟩
def adO(w:World)(e:TypeId)(R:Value→World→Prop):Value→World→Prop:=fun v w2=>∃ u g,v=.slice (some ⟨g,0,none⟩) 1 1∧Whole w2 g e #[u]∧w.heap.size≤g∧u.ownBlock≠some g∧R u w2
theorem NA{w:World}{e:TypeId}{R:Value→World→Prop}(h:eG R):eG (adO w e R):=fun _ _ _ ⟨u,g,h1,h2,h3,h5,h4⟩ hb=>⟨u,g,h1,Whole.under hb h2 h2.lt,h3,h5,h _ _ _ h4 hb⟩
theorem b1{B:Nat}{w0 w:World}{bs:List Bx}{rs:List Rw}{t e b:Nat}{x:Operand}{R:Value→World→Prop}{u:Value}(hR:eG R)(h1:∀ u w,R u w→u.cells=#[u])(h2:∀ u w q,R u w→u.ownBlock=some q→q<w.heap.size)(hD:jt Tryz.prog t (.sl e 1 b)=true):
 ∀ (w1:World) (a:Act) (o':Oper),auT w.heap.size w w1→aV B w0 w1 bs rs→R u w1→o'.op=.buildSlice t 1 #[(0,x)]→wK a (iE (.buildSlice t 1 #[(0,x)])) [u] →
  ∃ v w2,(execOp a.eval o').run Tryz.prog w1=.ok (.value v) w2∧adO w e R v w2∧auT w1.heap.size w1 w2:=fun w1 a o' hb _ hu hop oV=>by
 have hc:=h1 u w1 hu;have hr:=rQ (w:=w1) hop hD rfl rfl (by decide) (by decide) oV (by simp[hc]);have hbl:auT w1.heap.size w1 (w1.alloc (.cells ([u].flatMap fun v=>v.cells.toList).toArray e)):=(Below.refl _ w1).alloc (Nat.le_refl _) _;have hl:([u].flatMap fun v=>v.cells.toList).toArray=#[u]:=by simp[hc]
 refine⟨_,_,hr,⟨u,w1.heap.size,rfl,hl▸Whole.new w1 e _,hb.size,fun hq=>Nat.lt_irrefl _ (h2 u w1 _ hu hq),hR _ _ _ hu hbl⟩,hbl⟩
def Eo(w:World)(e n:Nat)(cs:List Value):Value→World→Prop:=fun v w2=>∃ g,v=.slice (some ⟨g,0,none⟩) n n∧Whole w2 g e cs.toArray∧w.heap.size≤g
theorem mw{w:World}{e n:Nat}{cs:List Value}:eG (Eo w e n cs):=fun _ _ _ ⟨g,h1,h2,h3⟩ hb=>⟨g,h1,Whole.under hb h2 h2.lt,h3⟩
theorem bK{w:World}{t e kk b len:Nat}{parts:Array (Nat×Operand)}{vs:List Value}{p:World→Prop}(hD:jt Tryz.prog t (.sl e kk b)=true)(hp:tQ 0 parts.toList=true)(hl:parts.toList.length=len)(h0:0<len*kk)(h1:len*kk≤2^24)(hc:∀ v∈vs,v.cells.size=kk){cs:List Value}(hcs:(vs.flatMap fun v=>v.cells.toList)=cs)
 (w1:World) (a:Act) (o':Oper) (hb:auT w.heap.size w w1) (_:p w1) (hop:o'.op=.buildSlice t len parts) (oV:wK a (iE (.buildSlice t len parts)) vs) :
  ∃ v w2,(execOp a.eval o').run Tryz.prog w1=.ok (.value v) w2∧Eo w e len cs v w2∧auT w1.heap.size w1 w2:=by
 subst hcs;exact⟨_,_,rQ (w:=w1) hop hD hp hl h0 h1 oV hc,⟨w1.heap.size,rfl,Whole.new w1 e _,hb.size⟩,(Below.refl _ w1).alloc (Nat.le_refl _) _⟩
theorem aV.perm{B:Nat}{w0 w:World}{bs:List Bx}{rs rs':List Rw}(M:aV B w0 w bs rs)(hp:rs.Perm rs'):aV B w0 w bs rs':=by
 refine⟨M.below,M.le,M.old,M.box,M.lo,M.nd,fun r h=>M.row r (hp.mem_iff.2 h),fun r h=>M.far r (hp.mem_iff.2 h),(hp.pairwise_iff fun {r s} h=>?_).1 M.wJ⟩;rcases h with h|h
 ·cases hs:s.v.ownBlock with
  | none=>exact .inl rfl
  | some q=>exact .inr (by rw[h];simp)
 ·exact .inr fun e=>h e.symm
theorem aV.YR{B:Nat}{w0 w w':World}{bs:List Bx}{rs:List Rw}(M:aV B w0 w bs rs)(hb:auT w.heap.size w w'){g:Nat}{t:TypeId}{cs:Array Value}(h:Whole w' g t cs)(hg:w.heap.size≤g){r:Rw}(ho:w'.ownsRow w.heap.size r.e r.k r.v r.n r.xs)(hne:r.v.ownBlock≠some g)(ht:Nat.blt t 9000=true:=by rfl):
 aV B w0 w' ((g,t,cs)::bs) (r::rs):=by
 refine(M.newAt hb h hg ht).DH (mZ ho M.big) ?_ ?_
 ·intro b hb' e;rcases auN.1 hb' with rfl|hb'
  ·exact hne e
  ·have:=(ho.lt _ e).1;have:=(M.box b hb').lt;omega
 ·intro s hs
  cases hso:r.v.ownBlock with
  | none=>exact .inl rfl
  | some q=>
   refine .inr fun e=>?_
   have h1:=(ho.lt q hso).1;have h2:=((M.row s hs).lt q (by rw[← e])).2;omega
theorem sr{X Y:Prop}{B:Nat}{w0:World}{rs:List Rw}{D:TD}{g off e n cap:Nat}{xs:List Value}{v:Value}{k:List Rw→Prop}(i j:Nat)(h:rs[i]?=some ⟨.slice (some ⟨g,0,none⟩) n cap,e,i_ D,n,xs⟩∧off=j*i_ D∧j<n)(h1:(aY v).all (·.oneCell')=true)
 (h2:qR (aY v) (i_ D) (BW rs i ⟨.slice (some ⟨g,0,none⟩) n cap,e,i_ D,n,xs.take off++aY v++xs.drop (off+i_ D)⟩ k)) (hW:Nat.beq e 52=false∨w0.heap.size≤B:=by first|exact .inl rfl|exact .inr (Nat.le_refl _)):X∨stR B w0 rs D g off v k∨Y:=
 .inr (.inl ⟨i,j,e,n,cap,xs,h,h1,hW,h2⟩)
theorem mz{B:Nat}{w0 w:World}{bs:List Bx}{rs:List Rw}{t e ty b n:Nat}{z:Value}{x y:Operand}{κ κ':IntKind}{l:Int}{K:Value→List Bx→List Rw→World→Prop}(M:aV B w0 w bs rs)(hu:Tryz.prog.underlying t=some (.slice e))(hi:iV (Tryz.prog.info? e) 1 b=true)(hz:(Tryz.prog.info? e).bind (·.zero)=some z)(h1:z.cells=#[z])(hl:l=(n:Int))(hb:b*n≤281474976710656∧n≤maxLen)
 (h:∀ g w',aV B w0 w' bs (⟨.slice (some ⟨g,0,none⟩) n n,e,1,n,List.replicate n z⟩::rs)→K (.slice (some ⟨g,0,none⟩) n n) bs (⟨.slice (some ⟨g,0,none⟩) n n,e,1,n,List.replicate n z⟩::rs) w') :
 ∃ R:Value→World→Prop,(∀ (a:Act) (o':Oper),o'.op=.makeSlice t x y→o'.type=ty→wK a (iE (.makeSlice t x y)) [.int κ l,.int κ' l]→∃ v w',(execOp a.eval o').run Tryz.prog w=.ok (.value v) w'∧R v w')∧∀ v w',R v w'→∃ bs' rs',aV B w0 w' bs' rs'∧K v bs' rs' w':=by
 subst hl;obtain⟨i,z',i1,i2,i3,i4,i5⟩:=nO hi;rw[i1] at hz;have hzz:i.zero=some z:=hz;obtain⟨w',hr,ho,hg⟩:=run_make_full (P:=Tryz.prog) w w.heap.size t e i z 1 hu i1 hzz i3 κ κ' n (by rw[i4];exact hb.1) hb.2 (Nat.le_refl _);rw[h1,Nat.mul_one,toList_madeCells_one] at ho;have hB:auT w.heap.size w w':=(Below.refl w.heap.size w).grown hg (Nat.le_refl _) (fun q hq=>by cases hq);refine⟨fun v w''=>v=.slice (some ⟨w.heap.size,0,none⟩) n n∧w''=w',fun a o' hop _ oV=>⟨_,_,?_,rfl,rfl⟩,?_⟩
 ·unfold execOp;simp[hop,dU oV,fE oV,hr]
 ·rintro v w'' ⟨rfl,rfl⟩;have M':=M.yu (r:=⟨.slice (some ⟨w.heap.size,0,none⟩) n n,e,1,n,List.replicate n z⟩) hB ho;exact⟨_,_,M',h _ _ M'⟩
theorem ap{B:Nat}{w0 w:World}{bs Te:List Bx}{rs Rs:List Rw}{u v:Value}{e kk Qu nn mm:Nat}{xs news:List Value}{k:Value→List Bx→List Rw→World→Prop}(i:Nat)(hM:aV B w0 w bs rs→aV B w0 w Te Rs)(hr:Rs[i]?=some ⟨v,e,kk,nn,xs⟩)(hs:SliceAt w u kk mm news)
 (hb:nn+mm≤maxLen∧(nn+mm)*Qu≤140737488355328) (h:∀ v' w',BW Rs i ⟨v',e,kk,nn+mm,xs++news⟩ fun rs'=>aV B w0 w' Te rs'→k v' Te rs' w') (hW:Nat.beq e 52=false∨w0.heap.size≤B:=by first|exact .inl rfl|exact .inr (Nat.le_refl _)):apO B w0 bs rs w u v e kk Qu k:=
 ⟨Te,Rs,i,nn,xs,mm,news,hM,hr,hs,hb,hW,h⟩
theorem lp{p:(ι:Type)→(ι→Slots)→(ι→List Bx)→(ι→List Rw)→(ι→World→Prop)→(ι→Nat)→ι→Prop}{ι:Type}(C:ι→Slots)(Ac:ι→List Bx)(wI:ι→List Rw)(R:ι→World→Prop)(μ:ι→Nat)(x:ι)(h:p ι C Ac wI R μ x):
 ∃ (ι:Type) (C:ι→Slots) (Ac:ι→List Bx) (wI:ι→List Rw) (R:ι→World→Prop) (μ:ι→Nat) (x:ι),p ι C Ac wI R μ x:=⟨ι,C,Ac,wI,R,μ,x,h⟩
theorem lq{p:(ι:Type)→(ι→Slots)→(ι→List Bx)→(ι→List Rw)→(ι→World→Prop)→(ι→Nat)→ι→Prop}{ι:Type}(C:ι→Slots){bs:List Bx}(wI:ι→List Rw)(R:ι→World→Prop)(μ:ι→Nat)(x:ι)(h:p ι C (fun _=>bs) wI R μ x):
 ∃ (ι:Type) (C:ι→Slots) (Ac:ι→List Bx) (wI:ι→List Rw) (R:ι→World→Prop) (μ:ι→Nat) (x:ι),p ι C Ac wI R μ x:=⟨ι,C,_,wI,R,μ,x,h⟩
theorem lr{p:(ι:Type)→(ι→Slots)→(ι→List Bx)→(ι→List Rw)→(ι→World→Prop)→(ι→Nat)→ι→Prop}{ι:Type}(C:ι→Slots){bs:List Bx}{rs:List Rw}(R:ι→World→Prop)(μ:ι→Nat)(x:ι)(h:p ι C (fun _=>bs) (fun _=>rs) R μ x):
 ∃ (ι:Type) (C:ι→Slots) (Ac:ι→List Bx) (wI:ι→List Rw) (R:ι→World→Prop) (μ:ι→Nat) (x:ι),p ι C Ac wI R μ x:=⟨ι,C,_,_,R,μ,x,h⟩
theorem bk{B:Nat}{w0 w:World}{ι:Type}{C:ι→Slots}{Ac:ι→List Bx}{wI:ι→List Rw}{R:ι→World→Prop}{l kl:Slots}{bs:List Bx}{rs:List Rw}{μ:ι→Nat}{m:Nat}(x:ι)(hs:Sub l (C x))(hM:aV B w0 w bs rs→aV B w0 w (Ac x) (wI x)∧R x w)(hm:μ x<m):
 kl=kl∧∃ x,inS B w0 C Ac wI R l bs rs w x∧μ x<m:=⟨rfl,x,⟨hs,hM⟩,hm⟩
structure Ls (X:List Nat) (a a':Act):Prop where
 fr:∀ {N:Nat},Fr a N→Fr a' N
 old:∀ {j:Nat} {u:Value},X.contains j=false→At a j u→At a' j u
theorem Ls.refl(X:List Nat)(a:Act):Ls X a a:=⟨fun h=>h,fun _ h=>h⟩
theorem Ls.put{X:List Nat}{a a' a2:Act}{s:Nat}{v:Value}(h:Ls X a a')(p:Put a' s v a2)(hs:X.contains s=true):Ls X a a2:=
 ⟨fun hf=>p.fr (h.fr hf),fun {j u} hj hu=>p.old (by
  cases e:j == s with
  | false=>rfl
  | true=>
   have e':j=s:=by simpa using e
   rw[e',hs] at hj;cases hj) (h.old hj hu)⟩
theorem Fs.agr{X:List Nat}{a a':Act}{N:Nat}{l:Slots}(F:Fs a N l)(h:Ls X a a'){l':Slots}(hl:l'.all (fun p=>!X.contains p.1)=true)(hs:Sub l l'):Fs a' N l':=by
 have F':=F.sub hs;refine⟨h.fr F'.fr,fun q v hq=>?_⟩;refine h.old ?_ (F'.at_ q v hq);clear F F' hs
 induction l' with
 | nil=>cases hq
 | cons p r ih=>
  obtain⟨s,u⟩:=p;simp only[List.all_cons,au1] at hl;rw[bH] at hq
  cases e:q == s with
  | true=>
   have e':q=s:=by simpa using e
   rw[e'];simpa using hl.1
  | false=>
   rw[e] at hq;exact ih hl.2 hq
abbrev Kn:=Nat×Nat×Value
def Bd(o:Oper)(k:Nat):Prop:=∃ gr,(⟨k,gr⟩:Edge)∈o.after.toList∧Region.binds .any ⟨k,gr⟩=true
inductive Tr where
 | done
 | step (j:Nat) (t:Tr)
 | last (j:Nat)
 | alt (x y:Tr)
def heads:Tr→List Nat
 | .done=>[]
 | .step j _=>[j]
 | .last j=>[j]
 | .alt x y=>heads x++heads y
inductive Moved (K:List Kn) (j:Nat) (o:Oper) (a a':Act):Prop
 | none:o.dst=none→a'=a→Moved K j o a a'
 | some (d:Nat) (v:Value):o.dst=some d→Put a d v a'→(∀ (n:Nat) (k:Kn),K[n]?=some k→k.1=j→k.2.2=v)→Moved K j o a a'
section
variable (P:Program) (ops:Array Oper) (l:List Oper) (K:List Kn) (X:List Nat) (J:World→Prop) (Q:Act→World→Prop)
def QG:Tr→Act→World→Prop
 | .done,a,w=>∀ a',Ls X a a'→(∀ (n:Nat) (k:Kn),K[n]?=some k→At a' k.2.1 k.2.2)→Q a' w
 | .step j t,a,w=>∀ o,l[j]?=some o→∀ a',Ls X a a'→(∀ (n:Nat) (k:Kn),K[n]?=some k→Bd o k.1→At a' k.2.1 k.2.2)→∀ Q':Exit→Act→World→Prop,(∀ a1 w1,J w1→Moved K j o a' a1→QG t a1 w1→Q' .normal a1 w1)→wpList P ops Q' [o] a' w
 | .last j,a,w=>∀ o,l[j]?=some o→∀ a',Ls X a a'→(∀ (n:Nat) (k:Kn),K[n]?=some k→Bd o k.1→At a' k.2.1 k.2.2)→∀ Q':Exit→Act→World→Prop,(∀ a1 w1,Moved K j o a' a1→(∀ a2,Ls X a1 a2→(∀ (n:Nat) (k:Kn),K[n]?=some k→At a2 k.2.1 k.2.2)→Q a2 w1)→Q' .normal a1 w1)→wpList P ops Q' [o] a' w
 | .alt x y,a,w=>QG x a w∧QG y a w
end
def cand(l:List Oper)(F E:List Nat):List Nat:=(List.range l.length).filter fun j=>!F.contains j&&!E.contains j&&(match l[j]? with|some o=>o.after.toList.all fun e=>!Region.binds .any e||F.contains e.on||E.contains e.on|none=>false)
def pz(l:List Oper)(F:List Nat):Tr→List Nat→Bool
 | .done,E=>(List.range l.length).all fun j=>F.contains j||E.contains j
 | .step j t,E=>!E.contains j&&!F.contains j&&decide (j<l.length)&&((cand l F (j::E)).all fun i=>(heads t).contains i)&&pz l F t (j::E)
 | .last j,E=>!E.contains j&&!F.contains j&&decide (j<l.length)&&((cand l F (j::E)).all fun i=>(heads .done).contains i)&&((List.range l.length).all fun i=>F.contains i||(j::E).contains i)&&(match l[j]? with|some o=>F.all fun f=>o.after.toList.any fun e=>Region.binds .any e&&e.on == f|none=>false)
 | .alt x y,E=>pz l F x E&&pz l F y E
theorem Vx{l:List Oper}{F E:List Nat}{j:Nat}{o:Oper}(hj:l[j]?=some o)(h1:F.contains j=false)(h2:E.contains j=false)(h3:∀ e∈o.after.toList,Region.binds .any e=true→F.contains e.on=true∨E.contains e.on=true):j∈cand l F E:=by
 unfold cand;refine List.mem_filter.2 ⟨List.mem_range.2 (auV.1 hj).1,?_⟩;rw[h1,h2,hj];simp only[Bool.not_false,Bool.true_and,au0];intro e he
 cases hb:Region.binds .any e with
 | false=>rfl
 | true=>
  rcases h3 e he hb with h|h
  ·rw[h];rfl
  ·rw[h];simp
section
variable {P:Program} {ops:Array Oper} {l:List Oper} {K:List Kn} {X F:List Nat} {J:World→Prop} {Q:Act→World→Prop}
theorem BR:∀ {t:Tr} {E:List Nat} {a:Act} {w:World} {j:Nat},QG P ops l K X J Q t a w→pz l F t E=true→j∈heads t→(∃ t',QG P ops l K X J Q (.step j t') a w∧pz l F (.step j t') E=true)∨(QG P ops l K X J Q (.last j) a w∧pz l F (.last j) E=true)
 | .done,_,_,_,_,_,_,h=>by cases h
 | .step j t,E,a,w,i,h,hs,hi=>by
  obtain rfl:i=j:=by simpa[heads] using hi
  exact .inl ⟨t,h,hs⟩
 | .last j,E,a,w,i,h,hs,hi=>by
  obtain rfl:i=j:=by simpa[heads] using hi
  exact .inr ⟨h,hs⟩
 | .alt x y,E,a,w,i,h,hs,hi=>by
  simp only[pz,au1] at hs;rcases au9.1 hi with hi|hi
  ·exact BR h.1 hs.1 hi
  ·exact BR h.2 hs.2 hi
theorem Pn:∀ {t:Tr} {E:List Nat} {a:Act} {w:World},QG P ops l K X J Q t a w→pz l F t E=true→(∀ j,j<l.length→F.contains j=true∨E.contains j=true)→QG P ops l K X J Q .done a w
 | .done,_,_,_,h,_,_=>h
 | .step j t,E,a,w,h,hs,hE=>by
  simp only[pz,au1,decide_eq_true_iff] at hs;obtain⟨⟨⟨⟨h1,h2⟩,h3⟩,_⟩,_⟩:=hs;rcases hE j h3 with h|h
  ·rw[h] at h2;cases h2
  ·rw[h] at h1;cases h1
 | .last j,E,a,w,h,hs,hE=>by
  simp only[pz,au1,decide_eq_true_iff] at hs;obtain⟨⟨⟨⟨⟨h1,h2⟩,h3⟩,_⟩,_⟩,_⟩:=hs;rcases hE j h3 with h|h
  ·rw[h] at h2;cases h2
  ·rw[h] at h1;cases h1
 | .alt x y,E,a,w,h,hs,hE=>by
  simp only[pz,au1] at hs;exact Pn h.1 hs.1 hE
end
def Bo(P:Program)(l:List Oper)(F:List Nat)(K:List Kn)(J:World→Prop)(a:Act)(N:Nat):List Kn→Prop
 | []=>True
 | k::r=>(F.contains k.1=true→∀ o,l[k.1]?=some o→∀ b u,Fr b N→J u→(∀ j v,(l.filterMap (·.dst)).contains j=false→At a j v→At b j v)→(∀ (n:Nat) (k':Kn),K[n]?=some k'→Bd o k'.1→At b k'.2.1 k'.2.2) →
  Region.wanted o (yielded l.toArray b.tmps)=true∧(execOp b.eval o).run P u=.ok (.value k.2.2) u)∧Bo P l F K J a N r
theorem fl{P:Program}{l:List Oper}{K:List Kn}{J:World→Prop}{a:Act}{N:Nat}{k:Kn}{o:Oper}(ho:l[k.1]?=some o) (h:∀ b u,Fr b N→J u→(∀ j v,(l.filterMap (·.dst)).contains j=false→At a j v→At b j v)→(∀ (n:Nat) (k':Kn),K[n]?=some k'→Bd o k'.1→At b k'.2.1 k'.2.2) →
 Region.wanted o (yielded l.toArray b.tmps)=true∧(execOp b.eval o).run P u=.ok (.value k.2.2) u) (F:List Nat):F.contains k.1=true→∀ o,l[k.1]?=some o→∀ b u,Fr b N→J u→(∀ j v,(l.filterMap (·.dst)).contains j=false→At a j v→At b j v)→(∀ (n:Nat) (k':Kn),K[n]?=some k'→Bd o k'.1→At b k'.2.1 k'.2.2) →
 Region.wanted o (yielded l.toArray b.tmps)=true∧(execOp b.eval o).run P u=.ok (.value k.2.2) u:=by
 intro _ o' ho';obtain rfl:o=o':=auQ (ho.symm.trans ho');exact h
theorem uf{P:Program}{l:List Oper}{F:List Nat}{K:List Kn}{J:World→Prop}{a:Act}{N:Nat}:∀ {r:List Kn},Bo P l F K J a N r→∀ k∈r,F.contains k.1=true→∀ o,l[k.1]?=some o→∀ b u,Fr b N→J u→(∀ j v,(l.filterMap (·.dst)).contains j=false→At a j v→At b j v)→(∀ (n:Nat) (k':Kn),K[n]?=some k'→Bd o k'.1→At b k'.2.1 k'.2.2) →
 Region.wanted o (yielded l.toArray b.tmps)=true∧(execOp b.eval o).run P u=.ok (.value k.2.2) u
 | [],_,_,h=>by cases h
 | x::r,h,k,hk=>by
  rcases auN.1 hk with rfl|hk
  ·exact h.1
  ·exact uf h.2 k hk
theorem Vv:∀ {l:List Oper},(l.filterMap (·.dst)).Nodup→∀ (i j:Nat) (o o':Oper) (s:Nat),l[i]?=some o→l[j]?=some o'→o.dst=some s→o'.dst=some s→i=j
 | [],_,i,_,_,_,_,h,_,_,_=>by simp at h
 | x::r,hn,i,j,o,o',s,hi,hj,ho,ho'=>by
  have hin:∀ (k:Nat) (o:Oper),r[k]?=some o→o.dst=some s→s∈r.filterMap (·.dst):=fun k o hk hs=>List.mem_filterMap.2 ⟨o,auS hk,hs⟩
  rw[List.filterMap_cons] at hn
  have hr:(r.filterMap (·.dst)).Nodup:=by
   split at hn
   ·exact hn
   ·exact(List.nodup_cons.1 hn).2
  have hx:x.dst=some s→s∉r.filterMap (·.dst):=fun e=>by
   rw[e] at hn;exact(List.nodup_cons.1 hn).1
  cases i with
  | zero=>
   cases j with
   | zero=>rfl
   | succ j=>
    obtain rfl:x=o:=by simpa using hi
    exact absurd (hin j o' (by simpa using hj) ho') (hx ho)
  | succ i=>
   cases j with
   | zero=>
    obtain rfl:x=o':=by simpa using hj
    exact absurd (hin i o (by simpa using hi) ho) (hx ho')
   | succ j=>rw[Vv hr i j o o' s (by simpa using hi) (by simpa using hj) ho ho']
def xs(F:List Nat)(K:List Kn):List Nat:=K.filterMap fun k=>if F.contains k.1 then some k.2.1 else none
theorem aV.swap{B:Nat}{w0 w:World}{b1 b2:Bx}{bs:List Bx}{rs:List Rw}(M:aV B w0 w (b1::b2::bs) rs):aV B w0 w (b2::b1::bs) rs:=by
 have hp:∀ b,b∈b2::b1::bs→b∈b1::b2::bs:=fun b hb=>by
  simp only[auN] at hb ⊢;rcases hb with h|h|h
  ·exact .inr (.inl h)
  ·exact .inl h
  ·exact .inr (.inr h)
 exact⟨M.below,M.le,M.old,fun b hb=>M.box b (hp b hb),fun b hb=>M.lo b (hp b hb),((List.Perm.swap b1 b2 bs).map Prod.fst).symm.nodup_iff.1 M.nd,M.row,fun r hr b hb=>M.far r hr b (hp b hb),M.wJ⟩
structure Jm (B:Nat) (w0:World) (bs:List Bx) (u:World):Prop where
 below:auT B w0 u
 box:∀ b∈bs,wG u b
theorem Jm.b{B:Nat}{w0 u:World}{bs:List Bx}(h:Jm B w0 bs u)(i:Nat){g:Nat}{t:TypeId}{cs:Array Value}(e:bs[i]?=some (g,t,cs))(ht:Nat.blt t 9000=true:=by rfl):Whole u g t cs:=(h.box _ (auS e)).whole ht
section
variable {P:Program} {Q:Exit→Act→World→Prop}
theorem Fz{id:Nat}{l:List Oper}{a:Act}{w:World}{N:Nat}(K:List Kn)(F:List Nat)(t:Tr)(J:World→Prop)
 (hm:P.follows .mixedOrders=true) (gI:ordered 0 l=true) (hK:(K.all fun k=>((l[k.1]?).bind (·.dst)) == some k.2.1)=true) (hF:(F.all fun i=>K.any fun k=>k.1 == i)=true) (hnd:(l.filterMap (·.dst)).Nodup) (hbd:((l.filterMap (·.dst)).all fun s=>Nat.blt s N)=true)
 (ajh:((cand l F []).all fun i=>(heads t).contains i)=true) (hsub:pz l F t []=true)
 (hf:Fr a N) (hfl:Bo P l F K J a N K) (hJ:J w.drew) (hsp:QG P l.toArray l K (xs F K) J (Q .normal) t a w.drew):(Code.region id l.toArray true).wp P Q a w:=by
 have hidx:=Vv hnd
 have hKd:∀ k∈K,∃ o:Oper,l[k.1]?=some o∧o.dst=some k.2.1:=fun k hk=>by
  have h:=au0.1 hK k hk;have h:(l[k.1]?).bind (·.dst)=some k.2.1:=by simpa using h
  cases e:l[k.1]? with
  | none=>rw[e] at h;cases h
  | some o=>rw[e] at h;exact⟨o,rfl,h⟩
 have hin:∀ (i:Nat) (o:Oper) (s:Nat),l[i]?=some o→o.dst=some s→(l.filterMap (·.dst)).contains s=true:=fun i o s ho hs=>by
  have:s∈l.filterMap (·.dst):=List.mem_filterMap.2 ⟨o,auS ho,hs⟩;simpa using this
 refine jM hm gI (fun L b u=>(∀ j o,l[j]?=some o→L j=true→∀ e∈o.after.toList,Region.binds .any e=true→L e.on=true)∧Fr b N∧(J u∨∀ f,F.contains f=true→L f=true)∧(∀ j v,(l.filterMap (·.dst)).contains j=false→At a j v→At b j v) ∧
  (∀ k∈K,L k.1=true→At b k.2.1 k.2.2)∧∃ t E a0,(∀ j,j<l.length→F.contains j=false→L j=E.contains j)∧((cand l F E).all fun i=>(heads t).contains i)=true∧pz l F t E=true∧Ls (xs F K) a0 b∧QG P l.toArray l K (xs F K) J (Q .normal) t a0 u) ?_ ?_ ?_
 ·exact⟨fun _ _ _ h=>(by cases h),hf,.inl hJ,fun _ _ _ h=>h,fun _ _ h=>(by cases h),t,[],a,fun _ _ _=>rfl,ajh,hsub,.refl _ _,hsp⟩
 ·have key:∀ (i:Nat) (o:Oper),l[i]?=some o→∀ (L:Nat→Bool) (b:Act) (u:World) (Q':Exit→Act→World→Prop),((∀ j o,l[j]?=some o→L j=true→∀ e∈o.after.toList,Region.binds .any e=true→L e.on=true)∧Fr b N∧(J u∨∀ f,F.contains f=true→L f=true)∧(∀ j v,(l.filterMap (·.dst)).contains j=false→At a j v→At b j v) ∧
   (∀ k∈K,L k.1=true→At b k.2.1 k.2.2)∧∃ t E a0,(∀ j,j<l.length→F.contains j=false→L j=E.contains j)∧((cand l F E).all fun i=>(heads t).contains i)=true∧pz l F t E=true∧Ls (xs F K) a0 b∧QG P l.toArray l K (xs F K) J (Q .normal) t a0 u)→L i=false →
   (∀ e∈o.after.toList,Region.binds .any e=true→L e.on=true) →
   (∀ b u,((∀ j o,l[j]?=some o→upd L i j=true→∀ e∈o.after.toList,Region.binds .any e=true→upd L i e.on=true)∧Fr b N∧(J u∨∀ f,F.contains f=true→upd L i f=true)∧(∀ j v,(l.filterMap (·.dst)).contains j=false→At a j v→At b j v) ∧
   (∀ k∈K,upd L i k.1=true→At b k.2.1 k.2.2)∧∃ t E a0,(∀ j,j<l.length→F.contains j=false→upd L i j=E.contains j)∧((cand l F E).all fun i=>(heads t).contains i)=true∧pz l F t E=true∧Ls (xs F K) a0 b∧QG P l.toArray l K (xs F K) J (Q .normal) t a0 u)→Q' .normal b u)→wpList P l.toArray Q' [o] b u:=by
   intro i o ho L b u Q' ⟨hcl,hfr,hj,hout,hkn,t,E,a0,hLE,hc,hs,hag,hsp⟩ hL hA hNext;have hil:=(auV.1 ho).1;have up:∀ j,L j=true→upd L i j=true:=fun j hj=>by simp[upd,hj]
   have hcl':∀ j o,l[j]?=some o→upd L i j=true→∀ e∈o.after.toList,Region.binds .any e=true→upd L i e.on=true:=by
    intro j o' hj CV e he hb;by_cases hji:j=i
    ·subst hji;obtain rfl:o=o':=auQ (ho.symm.trans hj);exact up _ (hA e he hb)
    ·have hne:(j == i)=false:=by simpa using hji
     exact up _ (hcl j o' hj (by simpa[upd,hne] using CV) e he hb)
   have kr:∀ (n:Nat) (k:Kn),K[n]?=some k→Bd o k.1→At b k.2.1 k.2.2:=fun n k hk ⟨gr,he,hb⟩=>hkn k (auS hk) (hA _ he hb)
   have keep:∀ {b':Act} {d:Nat} {v:Value},o.dst=some d→Put b d v b'→(∀ k∈K,k.1=i→k.2.2=v)→(∀ j v,(l.filterMap (·.dst)).contains j=false→At a j v→At b' j v)∧∀ k∈K,upd L i k.1=true→At b' k.2.1 k.2.2:=by
    intro b' d v hd hp hv;constructor
    ·intro j x Wl hx;refine hp.old ?_ (hout j x Wl hx)
     cases e:j == d with
     | false=>rfl
     | true=>
      have e':j=d:=by simpa using e
      rw[e',hin i o d ho hd] at Wl;cases Wl
    ·intro k hk hLk;obtain⟨o',ho',hd'⟩:=hKd k hk;by_cases hki:k.1=i
     ·rw[hki] at ho';obtain rfl:o=o':=auQ (ho.symm.trans ho');obtain rfl:d=k.2.1:=auQ (hd.symm.trans hd');rw[hv k hk hki];exact hp.now
     ·have hne:(k.1 == i)=false:=by simpa using hki
      refine hp.old ?_ (hkn k hk (by simpa[upd,hne] using hLk))
      cases e:k.2.1 == d with
      | false=>rfl
      | true=>
       have e':k.2.1=d:=by simpa using e
       exact absurd (hidx k.1 i o' o d ho' ho (by rw[hd',e']) hd) hki
   cases hFi:F.contains i with
   | true=>
    have hj:J u:=by
     rcases hj with hj|hj
     ·exact hj
     ·rw[hj i hFi] at hL;cases hL
    obtain⟨k,hk,hki⟩:=List.any_eq_true.1 (au0.1 hF i (by simpa using hFi));have hki:k.1=i:=by simpa using hki
    obtain⟨o',ho',hd'⟩:=hKd k hk;rw[hki] at ho';obtain rfl:o=o':=auQ (ho.symm.trans ho');obtain⟨hw,hr⟩:=uf hfl k hk (by rw[hki];exact hFi) o (by rw[hki];exact ho) b u hfr hj hout kr
    have hsN:k.2.1<N:=by
     have:=au0.1 hbd k.2.1 (List.mem_filterMap.2 ⟨o,auS ho,hd'⟩);simpa using this
    refine oZ hw hr hd' hfr hsN fun b' hp=>auZ (hNext b' u ?_)
    have hkv:∀ k'∈K,k'.1=i→k'.2.2=k.2.2:=fun k' hk' e=>by
     obtain⟨_,_,_⟩:=hKd k' hk';obtain⟨w2,h2⟩:=uf hfl k' hk' (by rw[e];exact hFi) o (by rw[e];exact ho) b u hfr hj hout kr;rw[hr] at h2;injection h2 with h2;injection h2 with h2;exact h2.symm
    obtain⟨g1,g2⟩:=keep hd' hp hkv;refine⟨hcl',hp.fr hfr,.inl hj,g1,g2,t,E,a0,fun j hjl hjF=>?_,hc,hs,hag.put hp ?_,hsp⟩
    ·have hne:(j == i)=false:=by
      cases e:j == i with
      | false=>rfl
      | true=>
       have e':j=i:=by simpa using e
       rw[e',hFi] at hjF;cases hjF
     rw[← hLE j hjl hjF];simp[upd,hne]
    ·have:k.2.1∈xs F K:=List.mem_filterMap.2 ⟨k,hk,by rw[hki,hFi];rfl⟩;simpa using this
   | false=>
    have hEi:E.contains i=false:=by rw[← hLE i hil hFi];exact hL
    have hmem:=Vx (F:=F) (E:=E) ho hFi hEi fun e he hb=>by
     have hLe:=hA e he hb;have hlt:=lW 0 l gI i o ho e he hb
     cases hFe:F.contains e.on with
     | true=>exact .inl rfl
     | false=>exact .inr (by rw[← hLE e.on (by omega) hFe];exact hLe)
    have hh:=au0.1 hc i hmem
    have fin:∀ a1,Moved K i o b a1→Fr a1 N∧(∀ j v,(l.filterMap (·.dst)).contains j=false→At a j v→At a1 j v)∧∀ k∈K,upd L i k.1=true→At a1 k.2.1 k.2.2:=by
     intro a1 hmv;rcases hmv with⟨hd,rfl⟩|⟨d,v,hd,hp,hv⟩
     ·refine⟨hfr,hout,fun k hk hLk=>?_⟩;obtain⟨o',ho',hd'⟩:=hKd k hk;by_cases hki:k.1=i
      ·rw[hki] at ho';obtain rfl:o=o':=auQ (ho.symm.trans ho');rw[hd] at hd';cases hd'
      ·have hne:(k.1 == i)=false:=by simpa using hki
       exact hkn k hk (by simpa[upd,hne] using hLk)
     ·obtain⟨g1,g2⟩:=keep hd hp fun k hk e=>by
       obtain⟨n,hn⟩:=List.getElem?_of_mem hk;exact hv n k hn e
      exact⟨hp.fr hfr,g1,g2⟩
    rcases BR hsp hs (j:=i) (by simpa using hh) with⟨t',h1,h2⟩|⟨h1,h2⟩
    ·simp only[pz,au1] at h2;refine h1 o ho b hag kr Q' fun a1 w1 hJ1 hmv hS=>hNext a1 w1 ?_
     have fin:=fin a1 hmv;refine⟨hcl',fin.1,.inl hJ1,fin.2.1,fin.2.2,t',i::E,a1,fun j hjl hjF=>?_,h2.1.2,h2.2,.refl _ _,hS⟩;simp only[upd,List.contains_cons,hLE j hjl hjF]
    ·simp only[pz,au1] at h2;refine h1 o ho b hag kr Q' fun a1 w1 hmv hS=>hNext a1 w1 ?_
     have fin:=fin a1 hmv;refine⟨hcl',fin.1,.inr fun f hfF=>?_,fin.2.1,fin.2.2,.done,i::E,a1,fun j hjl hjF=>?_,h2.1.1.2,h2.1.2,.refl _ _,hS⟩
     ·have h3:=h2.2;rw[ho] at h3;obtain⟨e,he,hb⟩:=List.any_eq_true.1 (au0.1 h3 f (by simpa using hfF));simp only[au1,beq_iff_eq] at hb;exact up f (by rw[← hb.2];exact hA e he hb.1)
     ·simp only[upd,List.contains_cons,hLE j hjl hjF]
  have all:∀ (r:List Oper) (m:Nat),(∀ i o,r[i]?=some o→l[m+i]?=some o)→mM P l.toArray (fun L b u=>(∀ j o,l[j]?=some o→L j=true→∀ e∈o.after.toList,Region.binds .any e=true→L e.on=true)∧Fr b N∧(J u∨∀ f,F.contains f=true→L f=true)∧(∀ j v,(l.filterMap (·.dst)).contains j=false→At a j v→At b j v) ∧
   (∀ k∈K,L k.1=true→At b k.2.1 k.2.2)∧∃ t E a0,(∀ j,j<l.length→F.contains j=false→L j=E.contains j)∧((cand l F E).all fun i=>(heads t).contains i)=true∧pz l F t E=true∧Ls (xs F K) a0 b∧QG P l.toArray l K (xs F K) J (Q .normal) t a0 u) m r:=by
   intro r
   induction r with
   | nil=>intro m _;trivial
   | cons o r ih=>
    intro m h;refine⟨fun L b u Q' hI hL hA hK=>key m o (h 0 o rfl) L b u Q' hI hL hA hK,ih (m+1) fun i o' ho'=>?_⟩;have:=h (i+1) o' (by simpa using ho')
    rwa [show m+1+i=m+(i+1) by omega]
  exact all l 0 fun i o ho=>by simpa using ho
 ·intro L b u ⟨hcl,hfr,hj,hout,hkn,t,E,a0,hLE,hc,hs,hag,hsp⟩ hall
  have h:=Pn hsp hs fun j hjl=>by
   cases hF:F.contains j with
   | true=>exact .inl rfl
   | false=>exact .inr (by rw[← hLE j hjl hF];exact hall j hjl)
  exact h b hag fun n k hk=>hkn k (auS hk) (hall k.1 (by
   obtain⟨o,ho,_⟩:=hKd k (auS hk);exact(auV.1 ho).1))
end
section
variable (P:Program) (fn:Func) (R:Ending→World→Prop) (N:Nat)
theorem hrC(s:Nat)(ty:TypeId)(hr:fn.results=#[.cell s ty]){d:TypeDesc}(hu:P.underlying ty=some d)(hd:(match d with|.struct _|.array _ _=>true|_=>false)=true){n:Nat}(hi:(P.info? ty).map (·.size)=some n)
 (a:Act) (w:World) (l:Slots) (g:Nat) (t:TypeId) (cs:Array Value) (F:Fs a N l) (hv:look s l=some (.pointer (some ⟨g,0,none⟩))) (hW:Whole w g t cs) (hn:Nat.beq n cs.size=true) (hR:R (.returned (.agg cs)) w):bodyPost P fn R .ret a w:=by
 refine⟨F.fr.defers,_,?_,hR⟩;have h:=F.e s hv;have hs:(P.info? ty).map (·.size)=some cs.size:=by rw[hi,au4 hn]
 have h2:a.tmps.getD s undef=.pointer (some ⟨g,0,none⟩):=h;rw[au8] at h2;simp[results,hr,h2,asAddr,run_loadVar_row w g t ty cs (0,0) d hW hu hd hs]
end
theorem I6{P:Program}{ops ops':Array Oper}{Q:Exit→Act→World→Prop}{S:Act→World→Prop}{o:Oper}{a:Act}{w:World}(hg:o.guard=none)(hS:∀ a w,S a w→a.defers=[])
 (h:wpList P ops' (fun e a w=>e=.normal∧S a w) [o] a w) (next:∀ a1 w1,S a1 w1→(∃ v,a1=a.put o.dst v)→Q .normal a1 w1):wpList P ops Q [o] a w:=by
 have hw:∀ ops,Region.wanted o (yielded ops a.tmps)=true:=fun ops=>j8 hg
 have hno:¬ LetsOut (fun e a w=>e=Exit.normal∧S a w):=fun⟨_,_,h,_⟩=>by cases h
 unfold wpList at h ⊢;rw[if_pos (hw _)] at h ⊢;rcases h with h|⟨_,h⟩
 case inr=>exact absurd h hno
 refine .inl ?_;unfold Oper.wp at h ⊢;generalize (execOp a.eval o).run P w=r at h ⊢
 match r,h with
 | .ok (.value v) w',h=>exact next _ _ h.2 ⟨_,rfl⟩
 | .ok .skip w',h=>exact next _ _ h.2 ⟨_,rfl⟩
 | .ok (.defer d) w',h=>exact absurd (hS _ _ h.2) (by cases o.dst<;>simp[Act.put])
 | .ok (.enter f args) w',h=>
  refine Calls.mono h fun e w'' h=>?_
  match e,h with
  | .returned v,h=>exact next _ _ h.2 ⟨_,rfl⟩
  | .panicked c,h=>cases h.1
  | .outgrown,h=>exact absurd h hno
 | .ok (.row row args) w',h=>exact Rows.mono h fun v w'' h=>next _ _ h.2 ⟨_,rfl⟩
 | .halt (.panic v) w',h=>cases h.1
def Dh:Nat→Slots→List gi
 | _,[]=>[]
 | n,(s,v)::r=>⟨s,n,[],true,v⟩::Dh (n+1) r
theorem j_:∀ {S:Slots} {n:Nat} {e:gi},e∈Dh n S→∃ i s v,S[i]?=some (s,v)∧e=⟨s,n+i,[],true,v⟩
 | [],_,_,h=>by cases h
 | (s,v)::r,n,e,h=>by
  rcases auN.1 h with rfl|h
  ·exact⟨0,s,v,rfl,rfl⟩
  ·obtain⟨i,s',v',h1,h2⟩:=j_ h;exact⟨i+1,s',v',by simpa using h1,by rw[h2,show n+1+i=n+(i+1) by omega]⟩
def aj7(s:Nat)(o:Oper):Oper:={ o with dst:=some s }
def Cg(o:Oper)(S:Slots):Array Oper:=(S.map (fun x=>aj7 x.1 o)++[o]).toArray
section
variable {a:Act} {N:Nat} {l S:Slots} {o:Oper}
theorem PJ:(Cg o S)[S.length]?=some o:=by
 unfold Cg;simp
theorem Xa:jm (Dh 0 S) S.length:=by
 refine⟨?_,?_,?_,?_⟩
 ·intro e he;obtain⟨i,s,v,h1,rfl⟩:=j_ he;have:=(auV.1 h1).1;simpa using this
 ·intro e he e' he' hj;obtain⟨i,s,v,h1,rfl⟩:=j_ he;obtain⟨i',s',v',h1',rfl⟩:=j_ he';obtain rfl:i=i':=by simpa using hj
  rw[h1] at h1';obtain⟨rfl,rfl⟩:=Prod.mk.inj (auQ h1');rfl
 ·intro e he x hx;obtain⟨i,s,v,h1,rfl⟩:=j_ he;cases hx
 ·intro e he;obtain⟨i,s,v,h1,rfl⟩:=j_ he;simp
theorem afg(hf:Fr a N)(hS:∀ x∈S,At a x.1 x.2)(hl:∀ q v,look q l=some v→At a q v):Inv (Cg o S) a N l (Dh 0 S) S.length:=by
 refine⟨hf,Xa,?_,?_,fun q v _ h=>hl q v h⟩
 ·intro e he;obtain⟨i,s,v,h1,rfl⟩:=j_ he;have hi:=(auV.1 h1).1;simp only[Cg,Nat.zero_add,List.getElem?_toArray];rw[au6 (by simpa using hi),auW,h1];rfl
 ·intro e he;obtain⟨i,s,v,h1,rfl⟩:=j_ he;exact hS (s,v) (auS h1)
end
def zK:List Kn→Oper→Slots
 | [],_=>[]
 | (j,d,v)::r,o=>bif uj o j then (d,v)::zK r o else zK r o
theorem AA{o:Oper}{x:Nat×Value}:∀ {K:List Kn},x∈zK K o→∃ k∈K,uj o k.1=true∧k.2=x
 | [],h=>by cases h
 | (j,d,v)::r,h=>by
  unfold zK at h
  cases e:uj o j with
  | false=>
   rw[e] at h;obtain⟨k,h1,h2⟩:=AA h;exact⟨k,auO _ h1,h2⟩
  | true=>
   rw[e] at h;rcases auN.1 h with rfl|h
   ·exact⟨_,auR ..,e,rfl⟩
   ·obtain⟨k,h1,h2⟩:=AA h;exact⟨k,auO _ h1,h2⟩
theorem Qh{o:Oper}{j:Nat}(h:uj o j=true):Bd o j:=by
 unfold uj at h;obtain⟨⟨on,gr⟩,h1,h2⟩:=List.any_eq_true.1 h;simp only[au1,beq_iff_eq] at h2;obtain⟨h2,rfl⟩:=h2;exact⟨gr,h1,h2⟩
def Xz:List Kn→Slots
 | []=>[]
 | (_,d,v)::r=>(d,v)::Xz r
theorem JT{x:Nat×Value}:∀ {K:List Kn},x∈Xz K→∃ k∈K,k.2=x
 | [],h=>by cases h
 | (j,d,v)::r,h=>by
  rcases auN.1 h with rfl|h
  ·exact⟨_,auR ..,rfl⟩
  ·obtain⟨k,h1,h2⟩:=JT h;exact⟨k,auO _ h1,h2⟩
theorem Cy{q:Nat}{v:Value}:∀ {l:Slots},look q l=some v→(q,v)∈l
 | [],h=>by cases h
 | (s,u)::r,h=>by
  rw[bH] at h
  cases e:q == s with
  | true=>
   rw[e] at h;obtain rfl:u=v:=auQ h;obtain rfl:q=s:=by simpa using e
   exact auR ..
  | false=>
   rw[e] at h;exact auO _ (Cy h)
theorem oJ{q:Nat}:∀ {l:Slots},look q l=none→∀ x∈l,x.1≠q
 | [],_,x,hx=>by cases hx
 | (s,u)::r,h,x,hx=>by
  rw[bH] at h
  cases e:q == s with
  | true=>rw[e] at h;cases h
  | false=>
   rw[e] at h;rcases auN.1 hx with rfl|hx
   ·exact fun h'=>(by simpa using e:q≠s) h'.symm
   ·exact oJ h x hx
theorem ab5{o:Option Value}(h:isN o=true):o=none:=by cases o with|none=>rfl|some v=>cases h
theorem Cz{q:Nat}{v:Value}:∀ {l r:Slots},look q (l++r)=some v→look q l=some v∨look q r=some v
 | [],_,h=>.inr h
 | (s,u)::t,r,h=>by
  rw[List.cons_append,bH] at h;rw[bH]
  cases e:q == s with
  | true=>rw[e] at h;exact .inl h
  | false=>
   rw[e] at h;exact Cz h
def ldJ(B:Nat)(w0:World)(bs:List Bx)(D:TD)(g off:Nat)(k:Value→Prop):Prop:=
 bif D.one' then
  (∃ i,tS bs i fun b=>match b with|(b,T,cs)=>bif Nat.blt T 9000 then b=g∧tS cs.toList off k else False)∨(∃ v,(∀ u,auT B w0 u→u.cell? ⟨g,off,none⟩=some v)∧k v)
 else
  (∃ i,tS bs i fun b=>match b with|(b,T,cs)=>bif Nat.blt T 9000 then b=g∧(KF off cs.toList fun r=>Jk (i_ D) r fun l=>k (.agg l.toArray)) else False) ∨
   (∃ cs:List Value,(∀ u,auT B w0 u→∀ j v,cs[j]?=some v→u.cell? ⟨g,off+j,none⟩=some v)∧qR cs (i_ D) (k (.agg cs.toArray)))
theorem ab3{B:Nat}{w0:World}{bs:List Bx}{D:TD}{g off:Nat}{kk:Value→Prop}(h:ldJ B w0 bs D g off kk){ty:TypeId}(hD:jt Tryz.prog ty D=true):∃ v,kk v∧∀ u,Jm B w0 bs u→∀ (a:Act) (o:Oper) (x:Operand),o.op=.load ty x→a.eval x=.pointer (some ⟨g,off,none⟩)→(execOp a.eval o).run Tryz.prog u=.ok (.value v) u:=by
 unfold ldJ at h
 cases h1:D.one' with
 | true=>
  rw[h1] at h;obtain⟨dd,hu,hd⟩:=UL hD h1;rcases h with⟨i,h⟩|⟨v,h2,h3⟩
  ·obtain⟨⟨b,T,cs⟩,hb,h⟩:=gV h;obtain⟨hT,rfl,h3⟩:=bI h;obtain⟨v,h4,h5⟩:=gV h3;exact⟨v,h5,fun u J a o x ho hx=>dB ho hx hu (by cases dd<;>first|rfl|cases hd) ((J.b i hb hT).cell off▸by simpa using h4)⟩
  ·exact⟨v,h3,fun u J a o x ho hx=>dB ho hx hu (by cases dd<;>first|rfl|cases hd) (h2 u J.below)⟩
 | false=>
  rw[h1] at h;obtain⟨dd,hu,hd,hs⟩:=Aj hD h1;rcases h with⟨i,h⟩|⟨cs,h2,h3⟩
  ·obtain⟨⟨b,T,cs⟩,hb,h⟩:=gV h;obtain⟨hT,rfl,h3⟩:=bI h;obtain⟨h4,h5⟩:=KE h3;obtain⟨h6,h7⟩:=Jj h5;refine⟨_,h7,fun u J a o x ho hx=>?_⟩;refine g_ _ ho hx hu (by cases dd<;>first|rfl|cases hd) (hs.trans ?_) (Bu (J.b i hb hT) ?_)
   ·rw[au2,Nat.min_eq_left h6]
   ·rw[au2,Nat.min_eq_left h6]
  ·obtain⟨h4,h5⟩:=iJ h3;exact⟨_,h5,fun u J a o x ho hx=>g_ cs ho hx hu (by cases dd<;>first|rfl|cases hd) (hs.trans (by rw[h4])) (h2 u J.below)⟩
def Z6(B:Nat)(w0:World)(l:Slots)(wg:List Bx)(L:List Oper):List Nat→List Kn→(List Kn→Prop)→Prop
 | [],K,f=>f K
 | j::r,K,f=>tS L j fun o=>match o.guard with
  | some _=>False
  | none=>match o.dst with
   | none=>False
   | some d=>match o.op with
    | .load ty x=>qK l (Dh 0 (zK K o)) [] x fun u=>F6 u False fun g off=>D5 ty (fun D=>ldJ B w0 wg D g off fun v=>sJ K [(j,d,v)] fun K'=>Z6 B w0 l wg L r K' f) TT
    | op=>pop l (Dh 0 (zK K o)) [] true (fun v=>sJ K [(j,d,v)] fun K'=>Z6 B w0 l wg L r K' f) op
def FlP(B:Nat)(w0:World)(N:Nat)(l:Slots)(wg:List Bx)(L:List Oper)(K:List Kn)(k:Kn):Prop:=
 ∃ o,L[k.1]?=some o∧o.dst=some k.2.1∧o.guard=none∧∀ (b:Act) (u:World),Fr b N→Jm B w0 wg u→(∀ q v,look q l=some v→At b q v)→(∀ k'∈K,uj o k'.1=true→At b k'.2.1 k'.2.2)→(execOp b.eval o).run Tryz.prog u=.ok (.value k.2.2) u
section
variable {B:Nat} {w0:World} {N:Nat} {l:Slots} {wg:List Bx} {L:List Oper}
theorem Ux:∀ {F:List Nat} {K:List Kn} {f:List Kn→Prop},Z6 B w0 l wg L F K f→∃ K1,f (K++K1)∧K1.map (·.1)=F∧∀ k∈K1,FlP B w0 N l wg L (K++K1) k
 | [],K,f,h=>⟨[],by rw[List.append_nil];unfold Z6 at h;exact h,rfl,by simp⟩
 | j::r,K,f,h=>by
  unfold Z6 at h;obtain⟨o,ho,h⟩:=gV h;split at h
  ·exact h.elim
  rename_i hg;split at h
  ·exact h.elim
  rename_i d hd
  have hE:∀ (b:Act),Fr b N→(∀ q v,look q l=some v→At b q v)→(∀ k'∈K,uj o k'.1=true→At b k'.2.1 k'.2.2)→Inv (Cg o (zK K o)) b N l (Dh 0 (zK K o)) (zK K o).length:=fun b hf hl hk=>afg hf (fun x hx=>by
   obtain⟨k,h1,h2,rfl⟩:=AA hx;exact hk k h1 h2) hl
  have main:∀ v:Value,(∀ (b:Act) (u:World),Fr b N→Jm B w0 wg u→Inv (Cg o (zK K o)) b N l (Dh 0 (zK K o)) (zK K o).length→(execOp b.eval o).run Tryz.prog u=.ok (.value v) u)→(sJ K [(j,d,v)] fun K'=>Z6 B w0 l wg L r K' f)→∃ K1,f (K++K1)∧K1.map (·.1)=j::r∧∀ k∈K1,FlP B w0 N l wg L (K++K1) k:=by
   intro v hv h;obtain⟨K1,h1,h2,h3⟩:=Ux (iL h);rw[List.append_assoc] at h1 h3;refine⟨(j,d,v)::K1,h1,by simp[h2],fun k hk=>?_⟩;rcases auN.1 hk with rfl|hk
   ·exact⟨o,ho,hd,hg,fun b u hf hJ hl hkn=>hv b u hf hJ (hE b hf hl fun k' hk'=>hkn k' (List.mem_append_left _ hk'))⟩
   ·exact h3 k hk
  split at h
  ·rename_i ty x hop;obtain⟨u,h1,h5⟩:=b_ h;rcases pI h5 with⟨g,off,rfl,h6⟩|h6
   case inr=>exact h6.elim
   obtain⟨D,hD,h7⟩:=j4 h6;obtain⟨v,h2,h3⟩:=ab3 h7 hD;exact main v (fun b u hf hJ I=>h3 u hJ b o x hop (I.E h1 (by simp))) h2
  ·obtain⟨v,h2,h3⟩:=MV Xa (by simp) h;exact main v (fun b u hf hJ I=>h3 b u o rfl (fun x _ π' v hR hc=>I.E hR hc) rfl) h2
end
def newS:Nat→List gi→Slots→(Slots→Prop)→Prop
 | 0,_,T,f=>f T
 | n+1,⟨s,_,p,t,v⟩::r,T,f=>(match p with
  | []=>(match t with
   | true=>newS n r T fun T'=>f ((s,v)::T')
   | false=>False)
  | _::_=>False)
 | _+1,[],_,_=>False
theorem Ge:∀ {n:Nat} {m:List gi} {T:Slots} {f:Slots→Prop},newS n m T f→∃ T',f T'∧∀ x∈T',x∈T∨∃ e∈m,e.t=true∧(e.s,e.v)=x
 | 0,_,T,f,h=>⟨T,h,fun x hx=>.inl hx⟩
 | n+1,⟨s,j,p,t,v⟩::r,T,f,h=>by
  unfold newS at h;split at h
  ·split at h
   ·obtain⟨T',h1,h2⟩:=Ge h;refine⟨_,h1,fun x hx=>?_⟩;rcases auN.1 hx with rfl|hx
    ·exact .inr ⟨_,auR ..,rfl,rfl⟩
    ·rcases h2 x hx with h3|⟨e,h3,h4⟩
     ·exact .inl h3
     ·exact .inr ⟨e,auO _ h3,h4⟩
   ·exact h.elim
  ·exact h.elim
 | _+1,[],_,_,h=>h.elim
def UR:List Nat→List Bx→(List Bx→Prop)→Prop
 | [],_,f=>f []
 | i::r,bs,f=>tS bs i fun b=>UR r bs fun l=>f (b::l)
theorem FW:∀ {kb:List Nat} {bs:List Bx} {f:List Bx→Prop},UR kb bs f→∃ l,f l∧∀ b∈l,b∈bs
 | [],_,_,h=>⟨[],h,by simp⟩
 | i::r,bs,f,h=>by
  obtain⟨b,h1,h2⟩:=gV h;obtain⟨l,h3,h4⟩:=FW h2;refine⟨_,h3,fun x hx=>?_⟩;rcases auN.1 hx with rfl|hx
  ·exact auS h1
  ·exact h4 x hx
def rvK:List Bx→List Bx→(List Bx→Prop)→Prop
 | [],acc,f=>f acc
 | b::r,acc,f=>rvK r (b::acc) f
theorem MF:∀ {bs acc:List Bx} {f:List Bx→Prop},rvK bs acc f→∃ l,f l∧∀ b∈l,b∈bs∨b∈acc
 | [],acc,_,h=>⟨acc,h,fun _ h=>.inr h⟩
 | b::r,acc,f,h=>by
  obtain⟨l,h1,h2⟩:=MF (bs:=r) h;refine⟨l,h1,fun x hx=>?_⟩;rcases h2 x hx with h3|h3
  ·exact .inl (auO _ h3)
  ·rcases auN.1 h3 with rfl|h3
   ·exact .inl (auR ..)
   ·exact .inr h3
def oN(o:Oper)(T:Slots):Bool:=match o.dst with
 | none=>true
 | some d=>isN (look d T)
def slN(q:Nat):List Kn→Bool
 | []=>true
 | (_,d,_)::r=>bif Nat.beq q d then false else slN q r
theorem Mt{q:Nat}:∀ {K:List Kn},slN q K=true→∀ k∈K,k.2.1≠q
 | [],_,_,h=>by cases h
 | (j,d,v)::r,h,k,hk=>by
  unfold slN at h
  cases e:Nat.beq q d with
  | true=>rw[e] at h;cases h
  | false=>
   rw[e] at h;rcases auN.1 hk with rfl|hk
   ·intro e';have e':d=q:=e';rw[e',Nat.beq_refl] at e;cases e
   ·exact Mt h k hk
def frK(K:List Kn):Slots→Bool
 | []=>true
 | (q,_)::r=>bif slN q K then frK K r else false
theorem WI{K:List Kn}:∀ {T:Slots},frK K T=true→∀ x∈T,∀ k∈K,k.2.1≠x.1
 | [],_,_,h=>by cases h
 | (q,v)::r,h,x,hx=>by
  unfold frK at h
  cases e:slN q K with
  | false=>rw[e] at h;cases h
  | true=>
   rw[e] at h;rcases auN.1 hx with rfl|hx
   ·exact Mt e
   ·exact WI h x hx
def noJ(j:Nat):List Kn→Bool
 | []=>true
 | (i,_,_)::r=>bif Nat.beq j i then false else noJ j r
theorem Vr{j:Nat}:∀ {K:List Kn},noJ j K=true→∀ k∈K,k.1≠j
 | [],_,_,h=>by cases h
 | (i,d,v)::r,h,k,hk=>by
  unfold noJ at h
  cases e:Nat.beq j i with
  | true=>rw[e] at h;cases h
  | false=>
   rw[e] at h;rcases auN.1 hk with rfl|hk
   ·intro e';have e':i=j:=e';rw[e',Nat.beq_refl] at e;cases e
   ·exact Vr h k hk
theorem GA{ds:List Nat}:∀ {l:Slots} {f:Slots→Prop},WK ds l f→∃ l',f l'∧∀ x∈l',x∈l
 | [],f,h=>⟨[],h,fun _ h=>h⟩
 | (s,v)::r,f,h=>by
  unfold WK at h
  cases hm:jr s ds with
  | true=>
   rw[hm] at h;obtain⟨l',h1,h2⟩:=GA h;exact⟨l',h1,fun x hx=>auO _ (h2 x hx)⟩
  | false=>
   rw[hm] at h;obtain⟨l',h1,h2⟩:=GA h;exact⟨_,h1,fun x hx=>(auN.1 hx).elim (fun e=>e▸auR ..) fun hx=>auO _ (h2 x hx)⟩
def flO(d:Option Nat)(T:Slots)(f:Slots→Prop):Prop:=match d with
 | none=>f T
 | some q=>WK [q] T f
theorem ac2{d:Option Nat}{T:Slots}{f:Slots→Prop}(h:flO d T f):∃ l',f l'∧∀ x∈l',x∈T:=by
 unfold flO at h;split at h
 ·exact⟨T,h,fun _ h=>h⟩
 ·exact GA h
def ltK(K:List Kn)(l:Slots):List Nat→(Slots→Prop)→Prop
 | [],f=>f []
 | d::r,f=>match look d l with
  | none=>ltK K l r f
  | some v=>bif slN d K then ltK K l r fun T=>f ((d,v)::T) else ltK K l r f
theorem Gg{K:List Kn}{l:Slots}:∀ {ds:List Nat} {f:Slots→Prop},ltK K l ds f→∃ T,f T∧∀ x∈T,look x.1 l=some x.2∧∀ k∈K,k.2.1≠x.1
 | [],f,h=>⟨[],h,fun _ h=>by cases h⟩
 | d::r,f,h=>by
  unfold ltK at h;split at h
  ·exact Gg h
  ·rename_i v hv
   cases e:slN d K with
   | false=>rw[e] at h;exact Gg h
   | true=>
    rw[e] at h;obtain⟨T,h1,h2⟩:=Gg h;refine⟨_,h1,fun x hx=>?_⟩;rcases auN.1 hx with rfl|hx
    ·exact⟨hv,Mt e⟩
    ·exact h2 x hx
def knA(j:Nat)(v:Value)(p:Prop):List Kn→Prop
 | []=>p
 | (i,_,u)::r=>bif Nat.beq i j then u=v∧knA j v p r else knA j v p r
theorem NG{j:Nat}{v:Value}{p:Prop}:∀ {K:List Kn},knA j v p K→p∧∀ k∈K,k.1=j→k.2.2=v
 | [],h=>⟨h,fun _ h=>by cases h⟩
 | (i,d,u)::r,h=>by
  unfold knA at h
  cases e:Nat.beq i j with
  | true=>
   rw[e] at h;obtain⟨h1,h2⟩:=NG (K:=r) h.2;exact⟨h1,fun k hk=>(auN.1 hk).elim (fun e _=>by rw[e];exact h.1) (h2 k)⟩
  | false=>
   rw[e] at h;obtain⟨h1,h2⟩:=NG (K:=r) h;refine⟨h1,fun k hk hkj=>?_⟩;rcases auN.1 hk with rfl|hk
   ·have hkj:i=j:=hkj;rw[hkj,Nat.beq_refl] at e;cases e
   ·exact h2 k hk hkj
def isD(s:Nat):Option Nat→Bool
 | none=>false
 | some q=>Nat.beq q s
def knT(K:List Kn)(j:Nat)(d:Option Nat)(p:Prop):Slots→Prop
 | []=>False
 | (s,v)::r=>match r with
  | []=>bif isD s d then knA j v p K else False
  | _::_=>False
def vop(B:Nat)(w0:World)(N:Nat)(l:Slots)(L:List Oper)(K:List Kn)(j:Nat)(T:Slots)(bs:List Bx)(rs:List Rw)(w:World)(k:Slots→List Bx→List Rw→World→Prop):Prop:=
 tS L j fun o=>match o.guard with
  | some _=>False
  | none=>flO o.dst T fun T1=>bif oN o T1 then bif noJ j K then sJ T1 (zK K o) fun S=>Pm B w0 N l o S.length (Dh 0 S) bs rs w fun m' bs' rs' w'=>newS (m'.length-S.length) m' T1 fun T'=>bif frK K T' then k T' bs' rs' w' else False else (sJ T1 (zK K o) fun S=>Pm B w0 N l o S.length (Dh 0 S) bs rs w fun m' bs' rs' w'=>newS (m'.length-S.length) m' [] fun T'=>knT K j o.dst (k T1 bs' rs' w') T') else False
def vst(B:Nat)(w0:World)(N:Nat)(l:Slots)(L:List Oper)(K:List Kn)(kb:List Nat)(wg:List Bx)(k:Slots→List Bx→List Rw→World→Prop):Tr→Slots→List Bx→List Rw→World→Prop
 | .done,T,bs,rs,w=>sJ (Xz K) l fun r=>sJ T r fun l'=>k l' bs rs w
 | .step j t,T,bs,rs,w=>vop B w0 N l L K j T bs rs w fun T' bs' rs' w'=>(rvK bs' [] fun r=>UR kb r fun b=>b=wg)∧vst B w0 N l L K kb wg k t T' bs' rs' w'
 | .last j,T,bs,rs,w=>vop B w0 N l L K j T bs rs w fun T' bs' rs' w'=>sJ (Xz K) l fun r=>sJ T' r fun l'=>k l' bs' rs' w'
 | .alt x y,T,bs,rs,w=>vst B w0 N l L K kb wg k x T bs rs w∧vst B w0 N l L K kb wg k y T bs rs w
section
variable {B:Nat} {w0:World} {N:Nat} {l:Slots} {wg:List Bx} {L:List Oper} {K:List Kn} {kb:List Nat} {k:Slots→List Bx→List Rw→World→Prop}
theorem Z4{F:List Nat}{q:Nat}(h:∀ k∈K,k.2.1≠q):(xs F K).contains q=false:=by
 cases e:(xs F K).contains q with
 | false=>rfl
 | true=>
  have e:q∈xs F K:=by simpa using e
  unfold xs at e;obtain⟨k,h1,h2⟩:=List.mem_filterMap.1 e;split at h2
  ·exact absurd (auQ h2) (h k h1)
  ·cases h2
structure TI (N:Nat) (l:Slots) (K:List Kn) (T:Slots) (a:Act):Prop where
 fr:Fr a N
 l_:∀ q v,look q l=some v→At a q v
 T_:∀ x∈T,At a x.1 x.2
 K_:∀ x∈T,∀ k∈K,k.2.1≠x.1
variable (Si:∀ q v,look q l=some v→∀ k∈K,k.2.1≠q) (qW:∀ (j:Nat) (o:Oper) (d:Nat),L[j]?=some o→o.dst=some d→look d l=none∧d<N)
include Si in
theorem TI.agr{F:List Nat}{T:Slots}{a a':Act}(h:TI N l K T a)(hA:Ls (xs F K) a a'):TI N l K T a':=
 ⟨hA.fr h.fr,fun q v hq=>hA.old (Z4 (Si q v hq)) (h.l_ q v hq),fun x hx=>hA.old (Z4 (h.K_ x hx)) (h.T_ x hx),h.K_⟩
include Si in
theorem TI.end{F:List Nat}{T:Slots}{a a':Act}(h:TI N l K T a)(hA:Ls (xs F K) a a')(hk:∀ (n:Nat) (k:Kn),K[n]?=some k→At a' k.2.1 k.2.2):Fs a' N (T++(Xz K++l)):=by
 have h':=h.agr Si hA;refine⟨h'.fr,fun q v hq=>?_⟩;rcases Cz hq with hq|hq
 ·exact h'.T_ _ (Cy hq)
 ·rcases Cz hq with hq|hq
  ·obtain⟨k,h1,h2⟩:=JT (Cy hq);obtain⟨i,hi⟩:=List.getElem?_of_mem h1;have:=hk i k hi
   rwa [h2] at this
  ·exact h'.l_ q v hq
include Si qW in
theorem Uw{F:List Nat}{ops:Array Oper}{Q':Exit→Act→World→Prop}{j:Nat}{T:Slots}{bs:List Bx}{rs:List Rw}{a a':Act}{w:World}{kk:Slots→List Bx→List Rw→World→Prop}(hv:vop B w0 N l L K j T bs rs w kk)(h:TI N l K T a)(M:aV B w0 w bs rs){o:Oper}(ho:L[j]?=some o)
 (hA:Ls (xs F K) a a') (hb:∀ (n:Nat) (k:Kn),K[n]?=some k→Bd o k.1→At a' k.2.1 k.2.2)
 (next:∀ a1 w1 T' bs' rs',TI N l K T' a1→aV B w0 w1 bs' rs'→kk T' bs' rs' w1→Moved K j o a' a1→Q' .normal a1 w1):wpList Tryz.prog ops Q' [o] a' w:=by
 unfold vop at hv;obtain⟨o',ho',hv⟩:=gV hv;obtain rfl:o'=o:=auQ (ho'.symm.trans ho);split at hv
 ·exact hv.elim
 rename_i hg;obtain⟨T1,hv,hT1⟩:=ac2 hv;obtain⟨hoN,hv⟩:=bI hv;have h':=h.agr Si hA
 have keep:∀ v q u,(∀ d,o'.dst=some d→d≠q)→At a' q u→At (a'.put o'.dst v) q u:=fun v q u hq hu=>by
  cases hd:o'.dst with
  | none=>exact hu
  | some d=>
   refine(qL h'.fr (qW j o' d ho hd).2).old ?_ hu;simpa using fun e=>hq d hd e.symm
 have hT:∀ v,∀ x∈T1,At (a'.put o'.dst v) x.1 x.2:=fun v x hx=>keep v _ _ (fun d hd=>by
  unfold oN at hoN;rw[hd] at hoN;exact fun e=>oJ (ab5 hoN) x hx e.symm) (h'.T_ x (hT1 x hx))
 have hS:∀ x∈T1++zK K o',At a' x.1 x.2:=fun x hx=>by
  rcases au9.1 hx with hx|hx
  ·exact h'.T_ x (hT1 x hx)
  ·obtain⟨k,h1,h2,rfl⟩:=AA hx;obtain⟨i,hi⟩:=List.getElem?_of_mem h1;exact hb i k hi (Qh h2)
 have I:Inv (Cg o' (T1++zK K o')) a' N l (Dh 0 (T1++zK K o')) (T1++zK K o').length:=afg h'.fr hS h'.l_
 cases hnJ:noJ j K with
 | false=>
  rw[hnJ] at hv;replace hv:=iL hv;refine I6 (ops':=Cg o' (T1++zK K o')) (S:=fun a1 w1=>∃ m' bs' rs',Inv (Cg o' (T1++zK K o')) a1 N l m' ((T1++zK K o').length+1)∧aV B w0 w1 bs' rs'∧newS (m'.length-(T1++zK K o').length) m' [] fun T'=>knT K j o'.dst (kk T1 bs' rs' w1) T') hg (fun a w ⟨_,_,_,I,_⟩=>I.fr.defers) (Al I M PJ hv fun a1 m' bs' rs' w1 I' M' h'=>auZ ⟨rfl,m',bs',rs',I',M',h'⟩) ?_;rintro a1 w1 ⟨m',bs',rs',I',M',hn⟩ ⟨v,rfl⟩;obtain⟨T',h1,h2⟩:=Ge hn;unfold knT at h1;split at h1
  ·exact h1.elim
  rename_i s u r;split at h1
  ·obtain⟨h3,h4⟩:=bI h1;obtain⟨h5,h6⟩:=NG h4
   obtain⟨d,hd⟩:∃ d,o'.dst=some d:=by
    cases hd:o'.dst with
    | none=>rw[hd] at h3;cases h3
    | some d=>exact⟨d,rfl⟩
   have hs:d=s:=by rw[hd] at h3;exact au4 h3
   have hat:At (a'.put o'.dst v) s u:=by
    rcases h2 (s,u) (auR ..) with h7|⟨e,h7,h8,h9⟩
    ·cases h7
    ·have:=I'.at_ e h7;rw[h8] at this;obtain⟨rfl,rfl⟩:=Prod.mk.inj h9;exact this
   have hp:Put a' d v (a'.put o'.dst v):=by rw[hd];exact qL h'.fr (qW j o' d ho hd).2
   have huv:u=v:=by
    have h10:=hp.now;rw[hs] at h10;exact auQ (hat.symm.trans h10)
   refine next _ _ T1 bs' rs' ⟨I'.fr,fun q u hq=>keep v _ _ (fun d hd e=>?_) (h'.l_ q u hq),hT v,fun x hx=>h'.K_ x (hT1 x hx)⟩ M' h5 (.some d v hd hp fun n k hk hkj=>(h6 k (auS hk) hkj).trans huv)
   rw[← e,(qW j o' d ho hd).1] at hq;cases hq
  ·exact h1.elim
 | true=>
 rw[hnJ] at hv;replace hv:=iL hv;refine I6 (ops':=Cg o' (T1++zK K o')) (S:=fun a1 w1=>∃ m' bs' rs',Inv (Cg o' (T1++zK K o')) a1 N l m' ((T1++zK K o').length+1)∧aV B w0 w1 bs' rs'∧newS (m'.length-(T1++zK K o').length) m' T1 fun T'=>bif frK K T' then kk T' bs' rs' w1 else False) hg (fun a w ⟨_,_,_,I,_⟩=>I.fr.defers) (Al I M PJ hv fun a1 m' bs' rs' w1 I' M' h'=>auZ ⟨rfl,m',bs',rs',I',M',h'⟩) ?_;rintro a1 w1 ⟨m',bs',rs',I',M',hn⟩ ⟨v,rfl⟩;obtain⟨T',h1,h2⟩:=Ge hn;obtain⟨h3,h4⟩:=bI h1;refine next _ _ T' bs' rs' ⟨I'.fr,fun q u hq=>keep v _ _ (fun d hd e=>?_) (h'.l_ q u hq),fun x hx=>?_,WI h3⟩ M' h4 ?_
 ·rw[← e,(qW j o' d ho hd).1] at hq;cases hq
 ·rcases h2 x hx with h5|⟨e,h5,h6,rfl⟩
  ·exact hT v x h5
  ·have:=I'.at_ e h5
   rwa [h6] at this
 ·cases hd:o'.dst with
  | none=>exact .none hd rfl
  | some d=>
   refine .some d v hd (qL h'.fr (qW j o' d ho hd).2) fun n k hk hkj=>absurd hkj (Vr hnJ k (auS hk))
include Si qW in
theorem FH{F:List Nat}{ops:Array Oper}{Q:Act→World→Prop}(hQ:∀ a l' bs rs w,Fs a N l'→aV B w0 w bs rs→k l' bs rs w→Q a w):∀ {t:Tr} {T:Slots} {bs:List Bx} {rs:List Rw} {a:Act} {w:World},vst B w0 N l L K kb wg k t T bs rs w→TI N l K T a→aV B w0 w bs rs→QG Tryz.prog ops L K (xs F K) (Jm B w0 wg) Q t a w
 | .done,T,bs,rs,a,w,hv,h,M=>fun a' hA hk=>hQ a' _ bs rs w (h.end Si hA hk) M (iL (iL hv))
 | .step j t,T,bs,rs,a,w,hv,h,M=>fun o ho a' hA hb Q' hn=>Uw Si qW hv h M ho hA hb fun a1 w1 T' bs' rs' h' M' ⟨h1,h2⟩ mv=>by
  refine hn a1 w1 ⟨M'.below,fun b Zk=>M'.box b ?_⟩ mv (FH hQ h2 h' M');obtain⟨r,h3,h4⟩:=MF h1;obtain⟨s,h5,h6⟩:=FW h3;subst h5;rcases h4 b (h6 b Zk) with h7|h7
  ·exact h7
  ·cases h7
 | .last j,T,bs,rs,a,w,hv,h,M=>fun o ho a' hA hb Q' hn=>Uw Si qW hv h M ho hA hb fun a1 w1 T' bs' rs' h' M' h1 mv=>hn a1 w1 mv fun a2 hA2 hk=>hQ a2 _ bs' rs' w1 (h'.end Si hA2 hk) M' (iL (iL h1))
 | .alt x y,T,bs,rs,a,w,hv,h,M=>⟨FH hQ hv.1 h M,FH hQ hv.2 h M⟩
end
def dsL:List Oper→(List Nat→Prop)→Prop
 | [],f=>f []
 | o::r,f=>match o.dst with
  | some d=>dsL r fun s=>f (d::s)
  | none=>dsL r f
theorem Om:∀ {L:List Oper} {f:List Nat→Prop},dsL L f→f (L.filterMap (·.dst))
 | [],_,h=>h
 | o::r,f,h=>by
  unfold dsL at h;split at h
  ·rename_i d hd;rw[List.filterMap_cons,hd];exact Om h
  ·rename_i hd;rw[List.filterMap_cons,hd];exact Om h
def abI(N:Nat)(L:List Oper)(F:List Nat)(t:Tr):Bool:=
 ordered 0 L&&(decide (L.filterMap (·.dst)).Nodup&&(((L.filterMap (·.dst)).all fun s=>Nat.blt s N)&&(((cand L F []).all fun i=>(heads t).contains i)&&pz L F t [])))
def Y1(L:List Oper)(F:List Nat):List Kn→Bool
 | []=>true
 | (j,d,_)::r=>bif F.contains j then false else (match L[j]? with
  | none=>false
  | some o=>bif isD d o.dst then Y1 L F r else false)
theorem PX{L:List Oper}{F:List Nat}:∀ {K:List Kn},Y1 L F K=true→(∀ k∈K,∃ o:Oper,L[k.1]?=some o∧o.dst=some k.2.1)∧∀ k∈K,F.contains k.1=false
 | [],_=>⟨fun _ h=>(by cases h),fun _ h=>(by cases h)⟩
 | (j,d,v)::r,h=>by
  unfold Y1 at h
  cases e:F.contains j with
  | true=>rw[e] at h;cases h
  | false=>
   rw[e] at h
   cases e2:L[j]? with
   | none=>rw[e2] at h;cases h
   | some o=>
    rw[e2] at h
    cases e3:isD d o.dst with
    | false=>simp only[e3] at h;cases h
    | true=>
     simp only[e3] at h;obtain⟨h1,h2⟩:=PX (K:=r) h;refine⟨fun k hk=>?_,fun k hk=>?_⟩
     ·rcases auN.1 hk with rfl|hk
      ·refine⟨o,e2,?_⟩
       cases hd:o.dst with
       | none=>rw[hd] at e3;cases e3
       | some q=>rw[hd] at e3;exact congrArg some (au4 e3)
      ·exact h1 k hk
     ·rcases auN.1 hk with rfl|hk
      ·exact e
      ·exact h2 k hk
theorem spk{X Y:Prop}{B:Nat}{w0 w:World}{N:Nat}{l:Slots}{bs:List Bx}{rs:List Rw}{ops:Array Oper}{id:Nat}{k:Slots→List Bx→List Rw→World→Prop}(K0:List Kn)(F:List Nat)(t:Tr)(kb:List Nat)(hk0:Y1 ops.toList F K0=true)(h0:abI N ops.toList F t=true)
 (h:dsL ops.toList fun ds=>WK ds l fun l'=>rvK bs [] fun r=>UR kb r fun wg=>Z6 B w0 l' wg ops.toList F K0 fun K=>ltK K l ds fun T=>∀ w',auT w.heap.size w w'→aV B w0 w' bs rs→vst B w0 N l' ops.toList K kb wg k t T bs rs w') :
 X∨Y∨∀ (a:Act) (Q:Exit→Act→World→Prop),Fs a N l→aV B w0 w bs rs→(∀ a' l' bs' rs' w',Fs a' N l'→aV B w0 w' bs' rs'→k l' bs' rs' w'→Q .normal a' w')→(Code.region id ops true).wp Tryz.prog Q a w:=by
 refine .inr (.inr fun a Q Fa M next=>?_);obtain⟨L,rfl⟩:∃ L:List Oper,ops=L.toArray:=⟨ops.toList,by simp⟩;rw[List.toList_toArray] at hk0 h0 h;unfold abI at h0;simp only[au1,decide_eq_true_eq] at h0;obtain⟨gI,hnd,hbd,hcd,hsub⟩:=h0;obtain⟨l',h,hl'⟩:=CZ (Om h);obtain⟨r,h,hr⟩:=MF h;obtain⟨wg,h,hJ⟩:=FW h;obtain⟨K,h,hKF,hK⟩:=Ux (N:=N) h;obtain⟨hk1,hk2⟩:=PX hk0;obtain⟨T0,h,hT0⟩:=Gg h;have hin:∀ (j:Nat) (o:Oper) (d:Nat),L[j]?=some o→o.dst=some d→d∈L.filterMap (·.dst):=fun j o d ho hd=>List.mem_filterMap.2 ⟨o,auS ho,hd⟩
 have hno:∀ d,d∈L.filterMap (·.dst)→look d l'=none:=fun d hd=>by
  rw[hl',oI.2 hd];rfl
 have hold:∀ q v,look q l'=some v→look q l=some v∧(L.filterMap (·.dst)).contains q=false:=fun q v hq=>by
  rw[hl'] at hq
  cases hm:jr q (L.filterMap (·.dst)) with
  | true=>rw[hm] at hq;cases hq
  | false=>
   rw[hm] at hq;refine⟨hq,?_⟩
   cases hc:(L.filterMap (·.dst)).contains q with
   | false=>rfl
   | true=>
    have:q∈L.filterMap (·.dst):=by simpa using hc
    rw[oI.2 this] at hm;cases hm
 have hKo:∀ k∈K0++K,∃ o:Oper,L[k.1]?=some o∧o.dst=some k.2.1:=fun k hk=>by
  rcases au9.1 hk with hk|hk
  ·exact hk1 k hk
  ·obtain⟨o,h1,h2,-⟩:=hK k hk;exact⟨o,h1,h2⟩
 have hKd:∀ k∈K0++K,k.2.1∈L.filterMap (·.dst):=fun k hk=>by
  obtain⟨o,h1,h2⟩:=hKo k hk;exact hin _ _ _ h1 h2
 have Si:∀ q v,look q l'=some v→∀ k∈K0++K,k.2.1≠q:=fun q v hq k hk e=>by
  have h1:=hno _ (hKd k hk);rw[e,hq] at h1;cases h1
 have qW:∀ (j:Nat) (o:Oper) (d:Nat),L[j]?=some o→o.dst=some d→look d l'=none∧d<N:=fun j o d ho hd=>⟨hno d (hin j o d ho hd),by
  have:=au0.1 hbd d (hin j o d ho hd);simpa using this⟩
 have Md:=M.keep (w':=w.drew) (Below.refl _ _).drew;refine Fz (K0++K) F t (Jm B w0 wg) (by kernel_rfl) gI ?_ ?_ hnd hbd hcd hsub Fa.fr ?_ ⟨Md.below,fun b hb=>Md.box b ?_⟩ (FH Si qW (fun a l' bs rs w F M h=>next a l' bs rs w F M h) (h w.drew (Below.refl _ _).drew Md) ⟨Fa.fr,fun q v hq=>Fa.at_ q v (hold q v hq).1,fun x hx=>Fa.at_ _ _ (hT0 x hx).1,fun x hx=>(hT0 x hx).2⟩ Md)
 ·rw[au0];intro k hk;obtain⟨o,h1,h2⟩:=hKo k hk;simp[h1,h2]
 ·rw[au0];intro i hi;rw[← hKF] at hi;obtain⟨k,hk,rfl⟩:=auP.1 hi;exact List.any_eq_true.2 ⟨k,List.mem_append_right _ hk,by simp⟩
 ·have key:∀ K2:List Kn,(∀ k∈K2,F.contains k.1=true→FlP B w0 N l' wg L (K0++K) k)→Bo Tryz.prog L F (K0++K) (Jm B w0 wg) a N K2:=by
   intro K2
   induction K2 with
   | nil=>intro _;trivial
   | cons k r ih=>
    intro h2;refine⟨fun hFk o ho b u hf hj hq hb=>?_,ih fun k' hk'=>h2 k' (auO _ hk')⟩;obtain⟨o',h3,-,h4,h5⟩:=h2 k (auR ..) hFk;obtain rfl:o'=o:=auQ (h3.symm.trans ho)
    exact⟨j8 h4,h5 b u hf hj (fun q v hv=>hq q v (hold q v hv).2 (Fa.at_ q v (hold q v hv).1)) fun k' hk' he=>by
     obtain⟨i,hi⟩:=List.getElem?_of_mem hk';exact hb i k' hi (Qh he)⟩
  exact key _ fun k hk hFk=>(au9.1 hk).elim (fun h=>by rw[hk2 k h] at hFk;cases hFk) (hK k)
 ·rcases hr b (hJ b hb) with h1|h1
  ·exact h1
  ·cases h1
theorem sp{X Y:Prop}{B:Nat}{w0 w:World}{N:Nat}{l:Slots}{bs:List Bx}{rs:List Rw}{ops:Array Oper}{id:Nat}{k:Slots→List Bx→List Rw→World→Prop}(F:List Nat)(t:Tr)(kb:List Nat)(h0:abI N ops.toList F t=true)
 (h:dsL ops.toList fun ds=>WK ds l fun l'=>rvK bs [] fun r=>UR kb r fun wg=>Z6 B w0 l' wg ops.toList F [] fun K=>ltK K l ds fun T=>∀ w',auT w.heap.size w w'→aV B w0 w' bs rs→vst B w0 N l' ops.toList K kb wg k t T bs rs w') :
 X∨Y∨∀ (a:Act) (Q:Exit→Act→World→Prop),Fs a N l→aV B w0 w bs rs→(∀ a' l' bs' rs' w',Fs a' N l'→aV B w0 w' bs' rs'→k l' bs' rs' w'→Q .normal a' w')→(Code.region id ops true).wp Tryz.prog Q a w:=spk [] F t kb rfl h0 h
theorem mva{R:Value→World→Prop}{x:Operand}{B:Nat}{w w0:World}{bs:List Bx}{rs:List Rw}{q:(Value→World→Prop)→Prop}(hR:eG R)(h:q R):
 ∃ R',eG R'∧(∀ (u:Value) (w1:World) (a:Act) (o':Oper),auT w.heap.size w w1→aV B w0 w1 bs rs→R u w1→o'.op=.assign x→wK a [x] [u]→∃ v w2,(execOp a.eval o').run Tryz.prog w1=.ok (.value v) w2∧R' v w2∧auT w1.heap.size w1 w2)∧q R':=
 ⟨R,hR,fun u w1 _ _ _ _ hu ho oV=>⟨u,w1,oO ho (dU oV),hu,Below.refl _ _⟩,h⟩
section
variable {B:Nat} {w0 w:World} {bs:List Bx} {rs:List Rw} {t e ty mb:Nat} {m x y:Operand} {z v:Value} {k:Int} {L:List (Int×Value)} {K:Value→List Bx→List Rw→World→Prop}
theorem mmk(M:aV B w0 w bs rs)(h:∀ mb w',aV B w0 w' ((mb,9003,eC [])::bs) rs→K (.map (some mb)) ((mb,9003,eC [])::bs) rs w'):
 ∃ R:Value→World→Prop,(∀ (a:Act) (o':Oper),o'.op=.makeMap t none→o'.type=ty→wK a [] []→∃ v w',(execOp a.eval o').run Tryz.prog w=.ok (.value v) w'∧R v w')∧∀ v w',R v w'→∃ bs' rs',aV B w0 w' bs' rs'∧K v bs' rs' w':=by
 refine⟨fun v w'=>v=.map (some w.heap.size)∧w'=w.alloc (.map #[] 0),fun a o' ho _ _=>⟨_,_,?_,rfl,rfl⟩,?_⟩
 ·unfold execOp;simp[ho,Instr.makeMap]
 ·rintro v w' ⟨rfl,rfl⟩;have M':=M.Nk ((Below.refl _ w).alloc (Nat.le_refl _) _) (b:=(w.heap.size,9003,eC [])) (nh (aU.made w _ _)) (Nat.le_refl _);exact⟨_,_,M',h _ _ M'⟩
theorem mlk(M:aV B w0 w bs rs)(i:Nat)(hi:bs[i]?=some (mb,9003,eC L))(ht:Tryz.prog.underlying t=some (.map 3 e))(hz:∀ w,(zeroValue e).run Tryz.prog w=.ok z w)(hk:iX k)(h:aV B w0 w bs rs→K (.tuple #[(jT L k).getD z,.bool (jT L k).isSome]) bs rs w):
 ∃ R:Value→World→Prop,(∀ (a:Act) (o':Oper),o'.op=.lookup t m x true→o'.type=ty→wK a [m,x] [.map (some mb),.int .i64 k]→∃ v w',(execOp a.eval o').run Tryz.prog w=.ok (.value v) w'∧R v w')∧∀ v w',R v w'→∃ bs' rs',aV B w0 w' bs' rs'∧K v bs' rs' w':=
 ⟨fun v w'=>v=.tuple #[(jT L k).getD z,.bool (jT L k).isSome]∧w'=w,fun _ _ ho _ oV=>⟨_,_,GW ht (hz _) M i hi ho (dU oV) (fE oV) hk,rfl,rfl⟩,fun _ _ ⟨h1,h2⟩=>by subst h1 h2;exact⟨_,_,M,h M⟩⟩
theorem ml1(M:aV B w0 w bs rs)(i:Nat)(hi:bs[i]?=some (mb,9003,eC L))(ht:Tryz.prog.underlying t=some (.map 3 e))(hz:∀ w,(zeroValue e).run Tryz.prog w=.ok z w)(hk:iX k)(h:aV B w0 w bs rs→K ((jT L k).getD z) bs rs w):
 ∃ R:Value→World→Prop,(∀ (a:Act) (o':Oper),o'.op=.lookup t m x false→o'.type=ty→wK a [m,x] [.map (some mb),.int .i64 k]→∃ v w',(execOp a.eval o').run Tryz.prog w=.ok (.value v) w'∧R v w')∧∀ v w',R v w'→∃ bs' rs',aV B w0 w' bs' rs'∧K v bs' rs' w':=
 ⟨fun v w'=>v=(jT L k).getD z∧w'=w,fun _ _ ho _ oV=>⟨_,_,Zz ht (hz _) M i hi ho (dU oV) (fE oV) hk,rfl,rfl⟩,fun _ _ ⟨h1,h2⟩=>by subst h1 h2;exact⟨_,_,M,h M⟩⟩
theorem Vw{k':List Bx→List Rw→World→Prop}(M:aV B w0 w bs rs)(i:Nat)(hi:bs[i]?=some (mb,9003,eC L))(ht:Tryz.prog.underlying t=some (.map 3 e))(hk:iX k)(h:∀ w',aV B w0 w' (bs.set i (mb,9003,eC ((k,v)::iq L k))) rs→k' (bs.set i (mb,9003,eC ((k,v)::iq L k))) rs w'):
 ∃ R:World→Prop,(∀ (a:Act) (o':Oper),o'.op=.mapUpdate t m x y→o'.type=ty→wK a [m,x,y] [.map (some mb),.int .i64 k,v]→∃ w',(execOp a.eval o').run Tryz.prog w=.ok .skip w'∧R w')∧∀ w',R w'→∃ bs' rs',aV B w0 w' bs' rs'∧k' bs' rs' w':=by
 obtain⟨w',hr,M'⟩:=M.ae2 ht i hi hk v;refine⟨fun w''=>w''=w',fun a o' ho _ oV=>⟨_,?_,rfl⟩,fun w'' e=>by subst e;exact⟨_,_,M',h _ M'⟩⟩;unfold execOp;simp[ho,dU oV,fE oV,akt oV,hr]
end
end Go.Proofs.YtdcofoaihmongaaGreat

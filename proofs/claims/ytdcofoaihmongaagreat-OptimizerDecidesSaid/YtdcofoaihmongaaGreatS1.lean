import Derived.DeepKeys4
import Derived.Laws.Entries
import Derived.Laws.MakeOwn
import Derived.Shelf.SlSortCmp.Insertion
import Derived.Sort.LotA
import Derived.WideKeyMaps
import Derived.WideKeyPair
import Derived.Test.YtdcofoaihmongaaGreatS0
open Array renaming getD_eq_getD_getElem?→arK
open Bool renaming and_eq_true→arD
open Go renaming wpList_nil→arB
open Go.RowKit renaming Below→aru
open Go.Sem renaming run_bind→arA
open List renaming mem_cons→arl,mem_cons_of_mem→arn,mem_map→aro,mem_cons_self→arq,mem_of_getElem?→ars,getElem?_eq_some_iff→arw,getElem?_map→arx,mem_singleton→arz,all_eq_true→arC,length_take→arE,length_map→arH,getElem?_append_left→arI,getElem?_eq_getElem→arJ,mem_append→arL
open Nat renaming le_trans→arv,mul_le_mul_right→arF,eq_of_beq_eq_true→arG
open Option.some renaming inj→arp
set_option maxRecDepth 100000
set_option maxHeartbeats 8000000
namespace Go.Proofs.YtdcofoaihmongaaGreat
open Go Go.RowKit Go.WideMaps
theorem Tq:laidOutB Tryz.prog=true:=by kernel_rfl
theorem acI:KeyLaw Tryz.prog 113:=deep_law_laid Tq (m:=5) (by decide) (of_decide_eq_true (by kernel_rfl)) (by kernel_rfl) (by kernel_rfl)
theorem zl:Maps.Keyed Tryz.prog 113:=Maps.Keyed.of_law acI
end Go.Proofs.YtdcofoaihmongaaGreat
namespace Go.Proofs.YtdcofoaihmongaaGreat
open Go Go.WideMaps Go.RowKit
theorem sizeT:∃ m,Tryz.prog.types.size=m+1:=⟨Tryz.prog.types.size-1,by have:0<Tryz.prog.types.size:=of_decide_eq_true (by kernel_rfl);omega⟩
theorem afO(m:Nat){a:Int}(wa:(Lit.int .i64 a).wf=true):Tryz.prog.keyLits (m+1) 3 [.int .i64 a]=some [.int .i64 a]:=by
 unfold Program.keyLits;simp[Tryz.underlying3,wa]
theorem acT{a b c d:Int}(wa:(Lit.int .i64 a).wf=true)(wb:(Lit.int .i64 b).wf=true)(wc:(Lit.int .i64 c).wf=true)(wd:(Lit.int .i64 d).wf=true):
 ∃ l,keyOf Tryz.prog 113 (.agg #[.int .i64 a,.int .i64 b,.int .i64 c,.int .i64 d])=some l:=by
 obtain⟨m,hm⟩:=sizeT;have hu:Tryz.prog.underlying 113=some (.struct (Tryz.prog.fieldsOf 113)):=by kernel_rfl
 have hk:Tryz.prog.keyType 113=true:=by kernel_rfl
 have hc:Tryz.prog.cellsOf 113=4:=by kernel_rfl
 have hc3:Tryz.prog.cellsOf 3=1:=by kernel_rfl
 have hf:(Tryz.prog.fieldsOf 113).toList.map (fun f=>(f.type,f.offset))=[(3,0),(3,1),(3,2),(3,3)]:=by kernel_rfl
 have hn:(Tryz.prog.fieldsOf 113).all (fun f=>f.name != "_")=true:=by kernel_rfl
 have hform:(Value.agg #[.int .i64 a,.int .i64 b,.int .i64 c,.int .i64 d]).formed Tryz.prog 113=true:=by kernel_rfl
 unfold keyOf;simp only[hu];rw[if_pos (by rw[hk,hform];rfl),hm];unfold Program.keyLits;simp only[hu,Value.cells];rw[if_pos ⟨by rw[hc];rfl,hn⟩];generalize (Tryz.prog.fieldsOf 113).toList=fs at hf
 obtain⟨f0,f1,f2,f3,rfl⟩:∃ f0 f1 f2 f3,fs=[f0,f1,f2,f3]:=by
  rcases fs with _|⟨f0,_|⟨f1,_|⟨f2,_|⟨f3,_|⟨f4,r⟩⟩⟩⟩⟩
  ·simp at hf
  ·simp at hf
  ·simp at hf
  ·simp at hf
  ·exact⟨_,_,_,_,rfl⟩
  ·simp at hf
 simp only[List.map_cons,List.map_nil,List.cons.injEq,Prod.mk.injEq,and_true] at hf;obtain⟨⟨t0,o0⟩,⟨t1,o1⟩,⟨t2,o2⟩,⟨t3,o3⟩⟩:=hf;obtain⟨m',rfl⟩:∃ m',m=m'+1:=⟨m-1,by have h:1<Tryz.prog.types.size:=of_decide_eq_true (by kernel_rfl);omega⟩;simp[List.mapM_cons,t0,o0,t1,o1,t2,o2,t3,o3,hc3,afO,wa,wb,wc,wd]
end Go.Proofs.YtdcofoaihmongaaGreat
namespace Go.Proofs.YtdcofoaihmongaaGreat
open Go Go.Sort
instance:Inhabited bP:=⟨⟨0,0,0,0,0,0,0⟩⟩
theorem vQ(x y:bP):ltOf zC x y=decide (x.src<y.src∨x.src=y.src∧(x.tgt<y.tgt∨x.tgt=y.tgt∧(x.cls<y.cls∨x.cls=y.cls∧x.cond<y.cond))):=by
 unfold ltOf zC;simp only[orI,QF];by_cases h0:x.src=y.src
 ·by_cases h1:x.tgt=y.tgt
  ·by_cases h2:x.cls=y.cls
   ·by_cases h3:x.cond=y.cond
    ·simp[h0,h1,h2,h3]
    ·simp[h0,h1,h2,h3,uG]
   ·simp[h0,h1,h2,uG]
  ·simp[h0,h1,uG]
 ·simp[h0,uG]
theorem z_:SWO (ltOf zC) where
 irrefl x:=by rw[vQ];simp
 trans x y z h1 h2:=by rw[vQ] at *;simp at *;omega
 ntrans x y z h1 h2:=by rw[vQ] at *;simp at *;omega
theorem Ac{α:Type}(lt:α→α→Prop)(hi:∀ x,¬ lt x x)(ht:∀ x y z,lt x y→lt y z→lt x z):∀ {a b:List α},a.Pairwise lt→b.Pairwise lt→(∀ x,x∈a↔x∈b)→a=b
 | [],[],_,_,_=>rfl
 | [],y::b,_,_,h=>by have:=(h y).2 (by simp);cases this
 | x::a,[],_,_,h=>by have:=(h x).1 (by simp);cases this
 | x::a,y::b,ha,hb,h=>by
  have ha':=List.pairwise_cons.1 ha;have hb':=List.pairwise_cons.1 hb
  have hxy:x=y:=by
   rcases arl.1 ((h x).1 (by simp)) with e|e
   ·exact e
   ·rcases arl.1 ((h y).2 (by simp)) with e'|e'
    ·exact e'.symm
    ·exact absurd (ht _ _ _ (ha'.1 _ e') (hb'.1 _ e)) (hi _)
  subst hxy;congr 1;refine Ac lt hi ht ha'.2 hb'.2 fun z=>⟨fun hz=>?_,fun hz=>?_⟩
  ·rcases arl.1 ((h z).1 (arn _ hz)) with e|e
   ·subst e;exact absurd (ha'.1 _ hz) (hi _)
   ·exact e
  ·rcases arl.1 ((h z).2 (arn _ hz)) with e|e
   ·subst e;exact absurd (hb'.1 _ hz) (hi _)
   ·exact e
structure bW where
 src:Int
 tgt:Int
 cls:Int
 cond:Int
deriving DecidableEq
def bP.key(e:bP):bW:=⟨e.src,e.tgt,e.cls,e.cond⟩
def bP.Y8(e:bP):bn:=⟨e.allow,e.j8,e.dont⟩
def bn.zero:bn:=⟨0,0,0⟩
instance:DecidableEq bn:=fun a b=>decidable_of_iff (a.allow=b.allow∧a.j8=b.j8∧a.dont=b.dont) (by cases a;cases b;simp)
def mkE(k:bW)(v:bn):bP:=⟨k.src,k.tgt,k.cls,k.cond,v.allow,v.j8,v.dont⟩
def iU(a:Int):Prop:=-9223372036854775808≤a∧a<9223372036854775808
def OL(a:Int):Prop:=0≤a∧a<4294967296
structure bW.Ok (k:bW):Prop where
 src:iU k.src
 tgt:iU k.tgt
 cls:iU k.cls
 cond:iU k.cond
structure bn.Ok (v:bn):Prop where
 allow:OL v.allow
 j8:OL v.j8
 dont:OL v.dont
def Vt(x y:bP):Prop:=ltOf zC x y=true
theorem Vt.irrefl(x:bP):¬ Vt x x:=by unfold Vt;rw[z_.irrefl];simp
theorem Vt.trans(x y z:bP):Vt x y→Vt y z→Vt x z:=z_.trans x y z
structure Canon (f:bW→bn) (l:List bP):Prop where
 ord:l.Pairwise Vt
 mem:∀ e,e∈l↔e.Y8=f e.key∧f e.key≠bn.zero
theorem Canon.uniq{f:bW→bn}{a b:List bP}(ha:Canon f a)(hb:Canon f b):a=b:=
 Ac Vt Vt.irrefl Vt.trans ha.ord hb.ord fun x=>(ha.mem x).trans (hb.mem x).symm
def kY(p:bW×bn):Value×Value:=(.agg #[.int .i64 p.1.src,.int .i64 p.1.tgt,.int .i64 p.1.cls,.int .i64 p.1.cond],.agg #[.int .u32 p.2.allow,.int .u32 p.2.j8,.int .u32 p.2.dont])
def nz(p:bW×bn):Bool:=decide (p.2≠bn.zero)
def sj(E:List (bW×bn)):List bP:=(E.filter nz).map fun p=>mkE p.1 p.2
def Zc(f:bW→bn)(k:bW)(v:bn):bW→bn:=fun x=>if x=k then (f k).or v else f x
def accum(l:List (bW×bn)):bW→bn:=l.foldl (fun f p=>Zc f p.1 p.2) fun _=>bn.zero
theorem BW(l:List (bW×bn))(p:bW×bn):accum (l++[p])=Zc (accum l) p.1 p.2:=by simp[accum,List.foldl_append]
theorem QX:accum []=fun _=>bn.zero:=rfl
theorem wrap32(n:Int):IntKind.u32.wrap n=n%4294967296:=by simp[IntKind.wrap,IntKind.signed,IntKind.bits]
theorem xB(a b:Int):bits .or .u32 a b=((BitVec.ofInt 32 a|||BitVec.ofInt 32 b).toNat:Int):=by
 show IntKind.u32.wrap ((BitVec.ofInt 32 a|||BitVec.ofInt 32 b).toNat:Int)=_;have h:=(BitVec.ofInt 32 a|||BitVec.ofInt 32 b).isLt;rw[wrap32];omega
theorem KP(a b:Int):OL (bits .or .u32 a b):=by
 rw[xB];have h:=(BitVec.ofInt 32 a|||BitVec.ofInt 32 b).isLt;exact⟨by omega,by omega⟩
theorem YP(a b:Int):BitVec.ofInt 32 (bits .or .u32 a b)=BitVec.ofInt 32 a|||BitVec.ofInt 32 b:=by rw[xB,BitVec.ofInt_natCast,BitVec.ofNat_toNat];simp
theorem Xt{a:Int}(h:OL a):((BitVec.ofInt 32 a).toNat:Int)=a:=by
 obtain⟨n,rfl⟩:∃ n:Nat,a=n:=⟨a.toNat,by have:=h.1;omega⟩;rw[BitVec.ofInt_natCast,BitVec.toNat_ofNat,Nat.mod_eq_of_lt (by have:=h.2;omega)]
theorem vM(a b:Int):bits .or .u32 a b=bits .or .u32 b a:=by rw[xB,xB,BitVec.or_comm]
theorem KQ(a b c:Int):bits .or .u32 (bits .or .u32 a b) c=bits .or .u32 a (bits .or .u32 b c):=by rw[xB,xB a (bits .or .u32 b c),YP,YP,BitVec.or_assoc]
theorem vL{a:Int}(h:OL a):bits .or .u32 a 0=a:=by rw[xB,show BitVec.ofInt 32 0=0#32 from rfl,BitVec.or_zero,Xt h]
theorem bn.G9(u v:bn):(u.or v).Ok:=⟨KP _ _,KP _ _,KP _ _⟩
theorem bn.or_comm(u v:bn):u.or v=v.or u:=by simp only[bn.or,vM u.allow,vM u.j8,vM u.dont]
theorem bn.or_assoc(u v x:bn):(u.or v).or x=u.or (v.or x):=by simp only[bn.or,KQ]
theorem bn.or_zero{u:bn}(h:u.Ok):u.or bn.zero=u:=by simp only[bn.or,bn.zero,vL h.allow,vL h.j8,vL h.dont]
theorem bn.yL:bn.zero.Ok:=by constructor<;>exact⟨by decide,by decide⟩
end Go.Proofs.YtdcofoaihmongaaGreat
namespace Go.Proofs.YtdcofoaihmongaaGreat
open Go Go.RowKit Go.Sort Go.WideMaps
def sy(k:bW):Value:=.agg #[.int .i64 k.src,.int .i64 k.tgt,.int .i64 k.cls,.int .i64 k.cond]
def Gy(v:bn):Value:=.agg #[.int .u32 v.allow,.int .u32 v.j8,.int .u32 v.dont]
theorem Hx{a b:bW}(h:sy a=sy b):a=b:=by
 cases a;cases b;simpa[sy] using h
theorem A8{a:Int}(h:iU a):(Lit.int .i64 a).wf=true:=by
 have h1:(-9223372036854775808≤a∧a<9223372036854775808):=h;simp[Lit.wf,IntKind.min,IntKind.max,IntKind.signed,IntKind.bits];omega
theorem Tv{k:bW}(h:k.Ok):∃ l,keyOf Tryz.prog 113 (sy k)=some l:=acT (A8 h.src) (A8 h.tgt) (A8 h.cls) (A8 h.cond)
theorem YV(w:World):(zeroValue 107).run Tryz.prog w=.ok (Gy bn.zero) w:=by kernel_rfl
structure lJ (w:World) (mb n:Nat) (f:bW→bn):Prop where
 ex:∃ D:List (bW×bn),aL w Tryz.prog 113 mb (D.map kY)∧(∀ p∈D,p.2=f p.1∧p.1.Ok∧p.2.Ok)∧(∀ k,f k≠bn.zero→k∈D.map Prod.fst)∧D.length≤n
theorem lJ.lt{w:World}{mb n:Nat}{f:bW→bn}(h:lJ w mb n f):mb<w.heap.size:=by
 obtain⟨D,h1,_⟩:=h.ex;exact h1.lt
theorem lJ.kept{w w':World}{mb n:Nat}{f:bW→bn}(h:lJ w mb n f)(hb:w'.heap[mb]?=w.heap[mb]?):lJ w' mb n f:=by
 obtain⟨D,h1,h2⟩:=h.ex;exact⟨D,h1.kept hb,h2⟩
theorem lJ.made(w:World):lJ (w.alloc (.map #[] 0)) w.heap.size 0 (fun _=>bn.zero):=
 ⟨[],aL.made w _ _,by simp,by simp,Nat.le_refl _⟩
theorem lJ.val{w:World}{mb n:Nat}{f:bW→bn}(h:lJ w mb n f)(k:bW):(f k).Ok:=by
 obtain⟨D,h1,h2,h3,h4⟩:=h.ex;by_cases hz:f k=bn.zero
 ·rw[hz];exact bn.yL
 ·obtain⟨p,hp,rfl⟩:=aro.1 (h3 _ hz);have:=h2 p hp;rw[← this.1];exact this.2.2
theorem lJ.look{w:World}{mb n:Nat}{f:bW→bn}(h:lJ w mb n f){k:bW}(hk:k.Ok):(Instr.lookup 105 (.map (some mb)) (sy k) false).run Tryz.prog w=.ok (Gy (f k)) w:=by
 obtain⟨D,h1,h2,h3,h4⟩:=h.ex;obtain⟨l,hl⟩:=Tv hk;by_cases hm:k∈D.map Prod.fst
 ·obtain⟨p,hp,rfl⟩:=aro.1 hm;have:=h1.qV false zl Tryz.underlying105 hl (val:=Gy p.2) (aro.2 ⟨p,hp,rfl⟩);rw[← (h2 p hp).1];exact this
 ·have hz:f k=bn.zero:=Classical.byContradiction fun h=>hm (h3 k h)
  rw[hz];refine h1.mZ false zl Tryz.underlying105 (YV w) hl ?_;intro p hp e;obtain⟨q,hq,rfl⟩:=aro.1 hp;exact hm (aro.2 ⟨q,hq,Hx e⟩)
theorem Sy{D:List (bW×bn)}{p:bW×bn}(h:p∈D):∃ R,D.Perm (p::R):=by
 obtain⟨s,t,rfl⟩:=List.append_of_mem h;exact⟨s++t,List.perm_middle⟩
theorem lJ.put{w:World}{mb n:Nat}{f:bW→bn}(h:lJ w mb n f){k:bW}(hk:k.Ok){v:bn}(hv:v.Ok):
 ∃ w',(Instr.mapUpdate 105 (.map (some mb)) (sy k) (Gy v)).run Tryz.prog w=.ok () w'∧(lJ w' mb (n+1) (fun x=>if x=k then v else f x)∧w.grownBy w' (some mb)∧w'.heap.size=w.heap.size):=by
 obtain⟨D,h1,h2,h3,h4⟩:=h.ex;obtain⟨l,hl⟩:=Tv hk;by_cases hm:k∈D.map Prod.fst
 ·obtain⟨p,hp,rfl⟩:=aro.1 hm;obtain⟨R,hR⟩:=Sy hp
  have hnd:(D.map Prod.fst).Nodup:=by
   have:=h1.keys;rw[List.map_map] at this;have e:(Prod.fst∘kY)=sy∘Prod.fst:=rfl;rw[e,← List.map_map] at this;exact List.Pairwise.of_map sy (fun a b hab e=>hab (congrArg sy e)) this
  have ada:=((hR.map Prod.fst).nodup_iff.1 hnd);simp only[List.map_cons,List.nodup_cons] at ada;obtain⟨w',hw,hM,hg,hs⟩:=h1.Nx (key:=sy p.1) (val:=Gy v) (old:=Gy p.2) (R:=R.map kY) zl Tryz.underlying105 hl (by simpa[kY,sy,Gy] using hR.map kY);refine⟨w',hw,⟨(p.1,v)::R,hM,?_,?_,?_⟩,hg,hs⟩
  ·intro q hq;rcases arl.1 hq with rfl|hq
   ·exact⟨by simp,hk,hv⟩
   ·have hne:q.1≠p.1:=fun e=>ada.1 (e▸aro.2 ⟨q,hq,rfl⟩)
    simp only[if_neg hne];exact h2 q (hR.mem_iff.2 (arn _ hq))
  ·intro x hx;by_cases hxk:x=p.1
   ·subst hxk;simp
   ·simp only[if_neg hxk] at hx;have:=(hR.map Prod.fst).mem_iff.1 (h3 x hx);simpa using this
  ·have:=hR.length_eq;simp at this ⊢;omega
 ·obtain⟨w',hw,hM,hg,hs⟩:=h1.Ny (key:=sy k) (val:=Gy v) zl Tryz.underlying105 hl (by
   intro p hp e;obtain⟨q,hq,rfl⟩:=aro.1 hp;exact hm (aro.2 ⟨q,hq,Hx e⟩))
  refine⟨w',hw,⟨(k,v)::D,hM,?_,?_,by simp;omega⟩,hg,hs⟩
  ·intro q hq;rcases arl.1 hq with rfl|hq
   ·exact⟨by simp,hk,hv⟩
   ·have hne:q.1≠k:=fun e=>hm (e▸aro.2 ⟨q,hq,rfl⟩)
    simp only[if_neg hne];exact h2 q hq
  ·intro x hx;by_cases hxk:x=k
   ·subst hxk;simp
   ·simp only[if_neg hxk] at hx;exact arn _ (h3 x hx)
def bP.Ok(e:bP):Prop:=e.key.Ok∧e.Y8.Ok
theorem lJ.nodup{D:List (bW×bn)}{w:World}{mb:Nat}(h1:aL w Tryz.prog 113 mb (D.map kY)):(D.map Prod.fst).Nodup:=by
 have:=h1.keys;rw[List.map_map] at this;have e:(Prod.fst∘kY)=sy∘Prod.fst:=rfl;rw[e,← List.map_map] at this;exact List.Pairwise.of_map sy (fun a b hab e=>hab (congrArg sy e)) this
end Go.Proofs.YtdcofoaihmongaaGreat
namespace Go.Proofs.YtdcofoaihmongaaGreat
open Go Go.RowKit Go.WideMaps
def ival(p:Int×Value):Value×Value:=(.int .i64 p.1,p.2)
def dU(L:List (Int×Value)):Array Value:=jH (L.map ival)
def jt:List (Int×Value)→Int→Option Value
 | [],_=>none
 | p::r,k=>if p.1=k then some p.2 else jt r k
def gB(L:List (Int×Value))(k:Int):List (Int×Value):=L.filter fun p=>decide (p.1≠k)
theorem Es(L:List (Int×Value))(k j:Int):jt (gB L k) j=if j=k then none else jt L j:=by
 induction L with
 | nil=>simp[gB,jt]
 | cons p r ih=>
  unfold gB at *;rw[List.filter_cons];by_cases h:p.1=k
  ·rw[if_neg (by simp[h]),ih];by_cases hj:j=k
   ·simp[hj]
   ·rw[if_neg hj,if_neg hj,jt,if_neg (fun e=>hj (by rw[← e,h]))]
  ·rw[if_pos (by simp[h]),jt,jt,ih];by_cases hj:p.1=j
   ·rw[if_pos hj,if_neg (fun e=>h (hj.trans e)),if_pos hj]
   ·rw[if_neg hj,if_neg hj]
theorem zj(L:List (Int×Value))(k j:Int)(v:Value):jt ((k,v)::gB L k) j=if j=k then some v else jt L j:=by
 rw[jt,Es];by_cases h:j=k
 ·subst h;simp
 ·rw[if_neg (fun e=>h e.symm),if_neg h,if_neg h]
theorem WB{L:List (Int×Value)}{k:Int}{v:Value}(h:jt L k=some v):(k,v)∈L:=by
 induction L with
 | nil=>cases h
 | cons p r ih=>
  rw[jt] at h;split at h
  ·rename_i e;obtain rfl:=arp h;subst e;exact arq ..
  ·exact arn _ (ih h)
theorem AO{L:List (Int×Value)}{k:Int}(h:jt L k=none):∀ p∈L,p.1≠k:=by
 induction L with
 | nil=>simp
 | cons p r ih=>
  rw[jt] at h;split at h
  ·cases h
  ·rename_i hne;intro q hq;rcases arl.1 hq with rfl|hq
   ·exact hne
   ·exact ih h q hq
theorem QB{L:List (Int×Value)}{k:Int}(h:jt L k=none):gB L k=L:=List.filter_eq_self.2 fun p hp=>by simpa using AO h p hp
theorem wE{L:List (Int×Value)}{k:Int}{v:Value}(hn:(L.map Prod.fst).Nodup)(h:jt L k=some v):L.Perm ((k,v)::gB L k):=by
 induction L with
 | nil=>cases h
 | cons p r ih=>
  simp only[List.map_cons,List.nodup_cons] at hn;rw[jt] at h;unfold gB at *;rw[List.filter_cons];split at h
  ·rename_i e;obtain rfl:=arp h;subst e;rw[if_neg (by simp)]
   have:(r.filter fun q=>decide (q.1≠p.1))=r:=List.filter_eq_self.2 fun q hq=>by
    have:q.1≠p.1:=fun e=>hn.1 (e▸aro.2 ⟨q,hq,rfl⟩)
    simpa using this
   rw[this]
  ·rename_i hne;rw[if_pos (by simpa using hne)];exact((ih hn.2 h).cons p).trans (List.Perm.swap ..)
theorem tY:∀ {D E:List (Value×Value)},jH D=jH E→D=E
 | [],[],_=>rfl
 | [],_::_,h=>by simp[jH] at h
 | _::_,[],h=>by simp[jH] at h
 | (a,b)::D,(c,d)::E,h=>by
  have h':a=c∧b=d∧D.flatMap (fun p=>[p.1,p.2])=E.flatMap (fun p=>[p.1,p.2]):=by simpa[jH] using h
  obtain⟨rfl,rfl,h3⟩:=h';rw[tY (D:=D) (E:=E) (by unfold jH;rw[h3])]
theorem vX:Maps.Keyed Tryz.prog 3:=Maps.int_keyed Tryz.underlying3
theorem WH{n:Int}(h:iU n):∃ l,keyOf Tryz.prog 3 (.int .i64 n)=some l:=by
 unfold keyOf;simp[Tryz.underlying3,mapKey,A8 h]
section
variable {B:Nat} {w0 w w':World} {bs:List Bx} {rs:List Rw} {mb:Nat} {L:List (Int×Value)}
theorem aV.map(M:aV B w0 w bs rs)(i:Nat)(h:bs[i]?=some (mb,9003,dU L)):aL w Tryz.prog 3 mb (L.map ival):=by
 rcases M.box _ (ars h) with⟨h0,_⟩|⟨_,D,h1,h2⟩
 ·have h0:Nat.blt 9003 9000=true:=h0;exact absurd h0 (by decide)
 ·have h2:aL w Tryz.prog ((9003:Nat)-9000) mb D:=h2;rw[show(9003:Nat)-9000=3 by decide] at h2;rw[show L.map ival=D from tY h1];exact h2
theorem lU{w:World}{mb:Nat}{L:List (Int×Value)}(h:aL w Tryz.prog 3 mb (L.map ival)):uR w (mb,9003,dU L):=by
 refine .inr ⟨by show Nat.blt 9003 9000=false;decide,L.map ival,rfl,?_⟩;show aL w Tryz.prog ((9003:Nat)-9000) mb (L.map ival);rw[show(9003:Nat)-9000=3 by decide];exact h
theorem aV.KZ(M:aV B w0 w bs rs)(hb:aru w.heap.size w w'){b:Bx}(h:uR w' b)(hg:w.heap.size≤b.1):aV B w0 w' (b::bs) rs:=by
 have M':=M.keep hb;refine⟨M'.below,M'.le,M'.old,?_,?_,?_,M'.row,?_,M.vH⟩
 ·intro c hc;rcases arl.1 hc with rfl|hc
  ·exact h
  ·exact M'.box c hc
 ·intro c hc;rcases arl.1 hc with rfl|hc
  ·exact arv M.big hg
  ·exact M.lo c hc
 ·rw[List.map_cons,List.nodup_cons];refine⟨fun h=>?_,M.nd⟩;obtain⟨c,hc,e⟩:=aro.1 h;have:=(M.box c hc).lt;omega
 ·intro r hr c hc;rcases arl.1 hc with rfl|hc
  ·intro e;have:=((M.row r hr).lt _ e).2;omega
  ·exact M.far r hr c hc
theorem fZ{w:World}{g mb:Nat}{t k:TypeId}{cs:Array Value}{P:Program}{D:List (Value×Value)}(h:Whole w g t cs)(m:aL w P k mb D):g≠mb:=fun e=>by
 subst e;obtain⟨es,clock,hb,_⟩:=m;have h:w.heap[g]?=some (.cells cs t (0,0)):=h;rw[hb] at h;cases h
theorem aV.En(M:aV B w0 w bs rs)(hb:aru w.heap.size w w'){b1 b2:Bx}(h1:uR w' b1)(g1:w.heap.size≤b1.1)(h2:uR w' b2)(g2:w.heap.size≤b2.1)(hne:b1.1≠b2.1):aV B w0 w' (b1::b2::bs) rs:=by
 have M':=M.KZ hb h2 g2;refine⟨M'.below,M'.le,M'.old,?_,?_,?_,M'.row,?_,M.vH⟩
 ·intro c hc;rcases arl.1 hc with rfl|hc
  ·exact h1
  ·exact M'.box c hc
 ·intro c hc;rcases arl.1 hc with rfl|hc
  ·exact arv M.big g1
  ·exact M'.lo c hc
 ·rw[List.map_cons,List.nodup_cons];refine⟨fun h=>?_,M'.nd⟩;obtain⟨c,hc,e⟩:=aro.1 h;rcases arl.1 hc with rfl|hc
  ·exact hne e.symm
  ·have:=(M.box c hc).lt;omega
 ·intro r hr c hc;rcases arl.1 hc with rfl|hc
  ·intro e;have:=((M.row r hr).lt _ e).2;omega
  ·exact M'.far r hr c hc
theorem aV.turn(M:aV B w0 w bs rs)(i:Nat){b b':Bx}(h:bs[i]?=some b)(e:b'.1=b.1)(hg:w.grownBy w' (some b.1))(h':uR w' b')(hm2:∀ g cs,Whole w g 52 cs→g≠b.1):aV B w0 w' (bs.set i b') rs:=by
 have hi:=(arw.1 h).1;have hm:=ars h
 have hmap:(bs.set i b').map (·.1)=bs.map (·.1):=by
  refine List.ext_getElem? fun j=>?_
  rw[arx,arx,List.getElem?_set];by_cases ej:i=j
  ·subst ej;simp[hi,(arw.1 h).2,e]
  ·simp[ej]
 have T4:∀ c∈bs.set i b',∃ c'∈bs,c'.1=c.1:=fun c hc=>by
  rcases List.mem_or_eq_of_mem_set hc with hc|rfl
  ·exact⟨c,hc,rfl⟩
  ·exact⟨_,hm,e.symm⟩
 have hS:=St.grown (X:=[b.1]) hg (arz.2 rfl);refine⟨M.below.trans (hS.below M.big fun k hk=>by rw[arz.1 hk];exact M.lo _ hm),M.le,fun g cs h2=>hS.whole (M.old g cs h2) fun hx=>hm2 g cs (M.old g cs h2) (arz.1 hx),?_,?_,by rw[hmap];exact M.nd,?_,?_,M.vH⟩
 ·intro c hc;obtain⟨j,hj⟩:=List.getElem?_of_mem hc;rw[List.getElem?_set] at hj;by_cases ej:i=j
  ·subst ej;rw[if_pos rfl,if_pos hi] at hj;obtain rfl:=arp hj;exact h'
  ·rw[if_neg ej] at hj;have hb:=M.box c (ars hj);refine hb.kept (hS.block _ hb.lt fun hx=>ej ?_);have e2:c.1=b.1:=arz.1 hx;have h1:(bs.map (·.1))[i]?=some b.1:=by rw[arx,h];rfl
   have h2:(bs.map (·.1))[j]?=some b.1:=by rw[arx,hj];simp[e2]
   exact kT M.nd h1 h2
 ·intro c hc;obtain⟨c',hc',ec⟩:=T4 c hc;rw[← ec];exact M.lo c' hc'
 ·intro r hr;exact hS.own (M.row r hr) fun q hq=>by rw[arz.1 hq];exact M.far r hr _ hm
 ·intro r hr c hc;obtain⟨c',hc',ec⟩:=T4 c hc;rw[← ec];exact M.far r hr c' hc'
theorem aL.KY{w:World}{mb:Nat}{L:List (Int×Value)}(h:aL w Tryz.prog 3 mb (L.map ival)):(L.map Prod.fst).Nodup:=by
 have hk:=h.keys;rw[List.map_map] at hk;have e:(Prod.fst∘ival)=(fun n:Int=>Value.int .i64 n)∘Prod.fst:=rfl;rw[e,← List.map_map] at hk;exact(List.pairwise_map.1 hk).imp fun h e=>h (by rw[e])
section
variable {t e:TypeId} (ht:Tryz.prog.underlying t=some (.map 3 e))
include ht
theorem aL.Tf{z:Value}(hz:(zeroValue e).run Tryz.prog w=.ok z w)(hM:aL w Tryz.prog 3 mb (L.map ival)){k:Int}(hk:iU k)(c:Bool):
 (Instr.lookup t (.map (some mb)) (.int .i64 k) c).run Tryz.prog w=.ok (if c then .tuple #[(jt L k).getD z,.bool (jt L k).isSome] else (jt L k).getD z) w:=by
 obtain⟨l,hl⟩:=WH hk
 cases hf:jt L k with
 | some v=>exact hM.qV c vX ht hl (aro.2 ⟨(k,v),WB hf,rfl⟩)
 | none=>
  refine hM.mZ c vX ht hz hl fun p hp e=>?_
  obtain⟨q,hq,rfl⟩:=aro.1 hp;exact AO hf q hq (by simpa[ival] using e)
theorem aV.look{z:Value}(hz:(zeroValue e).run Tryz.prog w=.ok z w)(M:aV B w0 w bs rs)(i:Nat)(h:bs[i]?=some (mb,9003,dU L)){k:Int}(hk:iU k)(c:Bool):
 (Instr.lookup t (.map (some mb)) (.int .i64 k) c).run Tryz.prog w=.ok (if c then .tuple #[(jt L k).getD z,.bool (jt L k).isSome] else (jt L k).getD z) w:=aL.Tf ht hz (M.map i h) hk c
theorem aL.Sr(hM:aL w Tryz.prog 3 mb (L.map ival)){k:Int}(hk:iU k)(v:Value):
 ∃ w',(Instr.mapUpdate t (.map (some mb)) (.int .i64 k) v).run Tryz.prog w=.ok () w'∧(aL w' Tryz.prog 3 mb (((k,v)::gB L k).map ival)∧w.grownBy w' (some mb)):=by
 obtain⟨l,hl⟩:=WH hk
 cases hf:jt L k with
 | some u=>
  obtain⟨w',hw,LP,hg,-⟩:=hM.Nx (key:=.int .i64 k) (val:=v) (old:=u) (R:=(gB L k).map ival) vX ht hl ((wE hM.KY hf).map ival);exact⟨w',hw,LP,hg⟩
 | none=>
  obtain⟨w',hw,LP,hg,-⟩:=hM.Ny (key:=.int .i64 k) (val:=v) vX ht hl fun p hp e=>by
   obtain⟨q,hq,rfl⟩:=aro.1 hp;exact AO hf q hq (by simpa[ival] using e)
  refine⟨w',hw,?_,hg⟩;rw[QB hf];exact LP
theorem aV.acD(M:aV B w0 w bs rs)(i:Nat)(h:bs[i]?=some (mb,9003,dU L)){k:Int}(hk:iU k)(v:Value):
 ∃ w',(Instr.mapUpdate t (.map (some mb)) (.int .i64 k) v).run Tryz.prog w=.ok () w'∧aV B w0 w' (bs.set i (mb,9003,dU ((k,v)::gB L k))) rs:=by
 obtain⟨w',hw,LP,hg⟩:=aL.Sr ht (M.map i h) hk v;exact⟨w',hw,M.turn i h rfl hg (lU LP) fun g cs h2=>fZ h2 (M.map i h)⟩
theorem aV.afK{ty:TypeId}(M:aV B w0 w bs rs)(i:Nat)(h:bs[i]?=some (mb,9003,dU L)){k:Int}(hk:iU k)(hin:(jt L k).isSome=true):
 ∃ w',(Builtin.delete_ #[t,3] ty #[.map (some mb),.int .i64 k]).run Tryz.prog w=.ok (.tuple #[]) w'∧aV B w0 w' (bs.set i (mb,9003,dU (gB L k))) rs:=by
 have hM:=M.map i h;obtain⟨l,hl⟩:=WH hk;obtain⟨u,hf⟩:=Option.isSome_iff_exists.1 hin;obtain⟨w',hw,LP,hg,-⟩:=hM.del (ty:=ty) (key:=.int .i64 k) (old:=u) (R:=(gB L k).map ival) vX ht hl ((wE hM.KY hf).map ival);exact⟨w',hw,M.turn i h rfl hg (lU LP) fun g cs h2=>fZ h2 (M.map i h)⟩
end
end
end Go.Proofs.YtdcofoaihmongaaGreat
namespace Go.Proofs.YtdcofoaihmongaaGreat
open Go Go.RowKit
section
variable {P:Program} {a:Act} {w:World} {o:Oper} {x y:Operand} {ty yt:TypeId} {k yk:IntKind} {m n:Int}
theorem k_(ho:o.op=.binOp .shl ty x y yt)(hx:a.eval x=.int k m)(hy:a.eval y=.int yk n)(h0:0≤n)(h1:n≤k.bits):(execOp a.eval o).run P w=.ok (.value (.int k (k.wrap (m*2^n.toNat)))) w:=by
 unfold execOp;simp[ho,hx,hy,eqGuard,binOp,shift_shl k yk m n h0 h1]
theorem YK(ho:o.op=.binOp .shr ty x y yt)(hx:a.eval x=.int k m)(hy:a.eval y=.int yk n)(h0:0≤n)(h1:n≤k.bits):(execOp a.eval o).run P w=.ok (.value (.int k (m/2^n.toNat))) w:=by
 unfold execOp;simp[ho,hx,hy,eqGuard,binOp,shift_shr k yk m n h0 h1]
theorem IC(ho:o.op=.binOp .quo ty x y yt)(hx:a.eval x=.int k m)(hy:a.eval y=.int k n)(h0:n≠0):(execOp a.eval o).run P w=.ok (.value (.int k (k.wrap (m.tdiv n)))) w:=by
 unfold execOp;simp[ho,hx,hy,eqGuard,binOp,Op.intDiv,h0]
theorem Oo(ho:o.op=.unOp .xor ty x)(hx:a.eval x=.int .u64 m):(execOp a.eval o).run P w=.ok (.value (.int .u64 (bits .xor .u64 18446744073709551615 m))) w:=by
 unfold execOp;simp[ho,hx];rfl
theorem aaV{t u:TypeId}(ho:o.op=.call { callee:=.builtin .min,args:=#[x,y],argTypes:=#[t,u] })(hx:a.eval x=.int k m)(hy:a.eval y=.int yk n):(execOp a.eval o).run P w=.ok (.value (.int k (if n<m then n else m))) w:=by
 unfold execOp;simp[ho,hx,hy,resolve,invoke,builtin,Builtin.min_,Builtin.min2,List.foldlM]
theorem Bu{t u:TypeId}(ho:o.op=.call { callee:=.builtin .max,args:=#[x,y],argTypes:=#[t,u] })(hx:a.eval x=.int k m)(hy:a.eval y=.int yk n):(execOp a.eval o).run P w=.ok (.value (.int k (if m<n then n else m))) w:=by
 unfold execOp;simp[ho,hx,hy,resolve,invoke,builtin,Builtin.max_,Builtin.max2,List.foldlM]
theorem EW{f:FuncId}{x:Operand}{xs:Array Operand}{ts:Array TypeId}{fn:Func}{c:Code}{first cap args:Array Value}(ho:o.op=.call { callee:=.value x,args:=xs,argTypes:=ts })(hx:a.eval x=.func (.func f) first cap)(hf:P.funcs[f]?=some fn) (hn:(fn.name == "runtime.NumGoroutine")=false) (hb:fn.body=some c)
 (ha:first++xs.map a.eval++cap=args):(execOp a.eval o).run P w=.ok (.enter f args) w:=by
 have h0:fn.body.isNone=false:=by rw[hb];rfl
 unfold execOp;simp only[ho,resolve,hx,Deferred.ofValue,invoke,callFunc,arA,Sem.run_pure,Result.andThen_ok,run_program,hf,hn,h0];rw[← ha];simp
theorem IE{t e:TypeId}{i:TypeInfo}{z:Value}{c:Nat}{cs:Array Value}(ho:o.op=.makeSlice t x y)(hx:a.eval x=.int k (c:Int))(hy:a.eval y=.int yk (c:Int))(ht:P.underlying t=some (.slice e))(hi:P.info? e=some i)(hz:i.zero=some z)
 (hcs:madeCells z.cells (c*i.size)=cs) (hb:i.bytes*c≤281474976710656) (h63:c≤maxLen) :
 (execOp a.eval o).run P w=.ok (.value (.slice (some ⟨w.heap.size,0,none⟩) c c)) (w.alloc (.cells cs e)):=by
 have hb':(i.bytes:Int)*(c:Int)≤281474976710656:=by
  have h:((i.bytes*c:Nat):Int)≤281474976710656:=by omega
  rwa [Int.natCast_mul] at h
 have h63':(c:Int)≤9223372036854775807:=by
  have h:=h63;simp[maxLen] at h;omega
 have hr:=run_make (P:=P) w t e i z ht hi hz k yk (c:Int) (c:Int) (by omega) (Int.le_refl _) hb' h63';simp only[Int.toNat_natCast] at hr;unfold execOp;simp[ho,hx,hy,hr,hcs]
theorem SH(z:Value):madeCells #[z] (1*1)=#[z]:=by
 unfold madeCells;refine Array.ext (by simp) fun i h1 h2=>?_
 have hi:i=0:=by simp at h2;omega
 subst hi;simp
theorem EU{t e:TypeId}{z:Value}{b:Nat}(ho:o.op=.makeSlice t x y)(hx:a.eval x=.int k 1)(hy:a.eval y=.int yk 1)(ht:P.underlying t=some (.slice e))(hi:iQ (P.info? e) 1 b=true)(hz:(P.info? e).bind (·.zero)=some z)(h1:z.cells=#[z])(hb:b≤281474976710656):
 (execOp a.eval o).run P w=.ok (.value (.slice (some ⟨w.heap.size,0,none⟩) 1 1)) (w.alloc (.cells #[z] e)):=by
 obtain⟨i,z',hi',hz0,hz1,hz2,hzs⟩:=nX hi;rw[hi'] at hz;simp only[Option.bind_some] at hz;have h2:=IE (P:=P) (w:=w) (c:=1) (z:=z) (cs:=#[z]) ho hx hy ht hi' hz (by rw[hz1,h1];exact SH z) (by rw[hz2];omega) (by simp[maxLen]);exact h2
end
section
variable {P:Program} {ops:Array Oper} {Q:Exit→Act→World→Prop} {rest:List Oper} {a:Act} {w:World} {o:Oper}
theorem kmu(hg:o.guard=none)(hd:o.dst=none){m x v:Operand}{t:TypeId}(hop:o.op=.mapUpdate t m x v){mv key val:Value}(hm:a.eval m=mv)(hx:a.eval x=key)(hv:a.eval v=val)
 {Post:World→Prop} (hrun:∃ w',(Instr.mapUpdate t mv key val).run P w=.ok () w'∧Post w') (next:∀ w',Post w'→wpList P ops Q rest a w'):wpList P ops Q (o::rest) a w:=
 J6 w hg m x v t hop mv key val hm hx hv Post hrun fun w' h=>by
  have:a.put o.dst undef=a:=by rw[hd];rfl
  rw[this];exact next w' h
end
def F7(wb:World):Good:=fun v u=>∃ b,v=.map (some b)∧aL u Tryz.prog 3 b []∧wb.heap.size≤b
theorem P0(wb:World):gN (F7 wb):=fun _ _ _ ⟨b,e,h,k⟩ hb=>⟨b,e,h.kept (hb.block _ h.lt),k⟩
theorem dmk{ops:Array Oper}{Q':Exit→Act→World→Prop}{a:Act}{w wb:World}{o:Oper}{d N:Nat}{t k e:TypeId}(hw:Region.wanted o (yielded ops a.tmps)=true)(ho:o.op=.makeMap t none)(_:Tryz.prog.underlying t=some (.map k e))(hd:o.dst=some d)(hf:Fr a N)(hN:Nat.blt d N=true)(hi:aru wb.heap.size wb w)
 (hK:∀ v a' w',aru w.heap.size w w'→F7 wb v w'→Put a (o.dst.getD 0) v a'→Q' .normal a' w'):wpList Tryz.prog ops Q' [o] a w:=by
 have hr:(execOp a.eval o).run Tryz.prog w=.ok (.value (.map (some w.heap.size))) (w.alloc (.map #[] 0)):=by
  unfold execOp;simp[ho,Instr.makeMap]
 refine wpList_step fun K hK'=>?_
 rw[if_pos hw];unfold Oper.wp;rw[hr,Oper.upon_value];refine hK' _ _ (arB (hK _ _ _ ((Below.refl _ w).alloc (Nat.le_refl _) _) ⟨_,rfl,aL.made w _ _,hi.size⟩ ?_));rw[hd];exact pQ hf (by simpa using hN)
def Jx(wb:World)(cs:Array Value):Good:=fun v u=>∃ b,v=.agg (cs.push (.map (some b)))∧aL u Tryz.prog 3 b []∧wb.heap.size≤b
theorem Hw(wb:World)(cs:Array Value):gN (Jx wb cs):=fun _ _ _ ⟨b,e,h,k⟩ hb=>⟨b,e,h.kept (hb.block _ h.lt),k⟩
def B6(wb:World)(t:TypeId)(cs:Array Value):Good:=fun v u=>∃ g b,v=.pointer (some ⟨g,0,none⟩)∧Whole u g t (cs.push (.map (some b)))∧aL u Tryz.prog 3 b []∧wb.heap.size≤g∧wb.heap.size≤b
theorem xG(wb:World)(t:TypeId)(cs:Array Value):gN (B6 wb t cs):=fun _ _ _ ⟨g,b,e,hw,h,k⟩ hb=>⟨g,b,e,Whole.under hb hw hw.lt,h.kept (hb.block _ h.lt),k⟩
theorem kmk{P:Program}{ops:Array Oper}{Q:Exit→Act→World→Prop}{rest:List Oper}{a:Act}{B:Nat}{w w0:World}{o:Oper}{d N:Nat}{l:Slots}{bs:List Bx}{rs:List Rw}{t:TypeId}(hw:Region.wanted o (yielded ops a.tmps)=true)(ho:o.op=.makeMap t none)(hd:o.dst=some d)(F:Fs a N l)(hN:Nat.blt d N=true)(M:aV B w0 w bs rs)
 (next:∀ mb a' w',Fs a' N ((d,.map (some mb))::l)→aV B w0 w' ((mb,9003,dU [])::bs) rs→wpList P ops Q rest a' w'):wpList P ops Q (o::rest) a w:=by
 have hr:(execOp a.eval o).run P w=.ok (.value (.map (some w.heap.size))) (w.alloc (.map #[] 0)):=by
  unfold execOp;simp[ho,Instr.makeMap]
 refine wpList_step fun K hK'=>?_
 rw[if_pos hw];unfold Oper.wp;rw[hr,Oper.upon_value,hd];exact hK' _ _ (next w.heap.size _ _ (F.put (pQ F.fr (by simpa using hN))) (M.KZ ((Below.refl _ w).alloc (Nat.le_refl _) _) (b:=(w.heap.size,9003,dU [])) (lU (aL.made w _ _)) (Nat.le_refl _)))
section
variable {ops:Array Oper} {Q:Exit→Act→World→Prop} {rest:List Oper} {a:Act} {B:Nat} {w w0:World} {o:Oper} {d N:Nat} {l:Slots} {bs:List Bx} {rs:List Rw} {mb:Nat} {L:List (Int×Value)}
theorem EV{t e:TypeId}{m x:Operand}{z:Value}{k:Int}(ht:Tryz.prog.underlying t=some (.map 3 e))(hz:(zeroValue e).run Tryz.prog w=.ok z w)(M:aV B w0 w bs rs)(i:Nat)(h:bs[i]?=some (mb,9003,dU L))(ho:o.op=.lookup t m x true)(hm:a.eval m=.map (some mb))(hx:a.eval x=.int .i64 k)(hk:iU k):
 (execOp a.eval o).run Tryz.prog w=.ok (.value (.tuple #[(jt L k).getD z,.bool (jt L k).isSome])) w:=by
 have hl:=M.look ht hz i h hk true;unfold execOp;simp[ho,hm,hx,hl]
theorem Xj{t e:TypeId}{m x:Operand}{z:Value}{k:Int}(ht:Tryz.prog.underlying t=some (.map 3 e))(hz:(zeroValue e).run Tryz.prog w=.ok z w)(M:aV B w0 w bs rs)(i:Nat)(h:bs[i]?=some (mb,9003,dU L))(ho:o.op=.lookup t m x false)(hm:a.eval m=.map (some mb))(hx:a.eval x=.int .i64 k)(hk:iU k):
 (execOp a.eval o).run Tryz.prog w=.ok (.value ((jt L k).getD z)) w:=by
 have hl:=M.look ht hz i h hk false;unfold execOp;simp[ho,hm,hx,hl]
theorem uw{t e:TypeId}{m x:Operand}{z:Value}{k:Int}(ht:Tryz.prog.underlying t=some (.map 3 e))(hz:(zeroValue e).run Tryz.prog w=.ok z w)(hM:aL w Tryz.prog 3 mb (L.map ival))(ho:o.op=.lookup t m x true)(hm:a.eval m=.map (some mb))(hx:a.eval x=.int .i64 k)(hk:iU k):
 (execOp a.eval o).run Tryz.prog w=.ok (.value (.tuple #[(jt L k).getD z,.bool (jt L k).isSome])) w:=by
 have hl:=aL.Tf ht hz hM hk true;unfold execOp;simp[ho,hm,hx,hl]
theorem kmp(hg:o.guard=none)(hd:o.dst=none){t e:TypeId}{m x y:Operand}{v:Value}{k:Int}(ho:o.op=.mapUpdate t m x y)(ht:Tryz.prog.underlying t=some (.map 3 e))(hm:a.eval m=.map (some mb))(hx:a.eval x=.int .i64 k)(hy:a.eval y=v)(hk:iU k)(M:aV B w0 w bs rs)(i:Nat)(h:bs[i]?=some (mb,9003,dU L))
 (next:∀ w',aV B w0 w' (bs.set i (mb,9003,dU ((k,v)::gB L k))) rs→wpList Tryz.prog ops Q rest a w'):wpList Tryz.prog ops Q (o::rest) a w:=
 kmu hg hd ho hm hx hy (M.acD ht i h hk v) next
end
def tJK(p:Pa)(t c b:Bool)(f:Bool→Prop):Prop:=match p with
 | []=>(match b with|true=>f c|false=>f (!c))
 | _::_=>(match b with|true=>f (t&&c)|false=>f (t&&!c))
theorem Zg{p:Pa}{t c b:Bool}{f:Bool→Prop}(h:tJK p t c b f):f (tJ p t c b):=by
 cases p<;>cases b<;>exact h
def gK(m:List fG)(g:Option (Nat×Bool))(f:Pa→Bool→Prop):Prop:=match g with
 | none=>f [] true
 | some (j,b)=>lkJ j (fun p t v=>match v with|.bool c=>tJK p t c b (f ((j,b)::p))|_=>False) m
def dK(N:Nat)(m:List fG)(dst:Option Nat)(f:Nat→Prop):Prop:=match dst with
 | some d=>bif Nat.blt d N then bif jg d m then f d else False else False
 | none=>False
def Rm(π:Pa)(p:Prop):Prop:=match π with
 | []=>p
 | _::_=>False
def aW(v:Value):List Value:=match v with
 | .agg cs=>cs.toList
 | v=>[v]
theorem kM(v:Value):v.cells.toList=aW v:=by cases v<;>rfl
def QI(v:Value)(f:Array Value→Prop):Prop:=match v with
 | .agg cs=>f cs
 | .bool b=>f #[.bool b]
 | .int k n=>f #[.int k n]
 | .string s=>f #[.string s]
 | .pointer a=>f #[.pointer a]
 | .slice a n c=>f #[.slice a n c]
 | .map r=>f #[.map r]
 | .func a b c=>f #[.func a b c]
 | .nilFunc=>f #[.nilFunc]
 | .iface t v=>f #[.iface t v]
 | .nilIface=>f #[.nilIface]
 | _=>False
theorem uI{v:Value}{f:Array Value→Prop}(h:QI v f):f v.cells:=by
 cases v<;>first|exact h|exact h.elim
def ldK(π:Pa)(t:Bool)(bs:List Bx)(w:World)(D:TD)(g off:Nat)(k:Value→Prop):Prop:=
 bif D.one' then
  (∃ i,sq bs i fun b=>match b with|(b,T,cs)=>bif Nat.blt T 9000 then ob π t (b=g) (sq cs.toList off k) else False)∨(∃ v,ob π t (w.cell? ⟨g,off,none⟩=some v) (k v))
 else
  (∃ i,sq bs i fun b=>match b with|(b,T,cs)=>bif Nat.blt T 9000 then ob π t (b=g) (IJ off cs.toList fun r=>GP (iC D) r fun l=>k (.agg l.toArray)) else False) ∨
   (∃ cs:List Value,ob π t (∀ j u,cs[j]?=some u→w.cell? ⟨g,off+j,none⟩=some u) (pW cs (iC D) (k (.agg cs.toArray))))
def stK(B:Nat)(w0:World)(bs:List Bx)(D:TD)(g off:Nat)(v:Value)(k:List Bx→Prop):Prop:=
 ∃ i,sq bs i fun b=>match b with|(b,T,cs)=>bif Nat.blt T 9000 then bif Nat.beq T 52 then
  ((b=g∧(aW v).all (·.oneCell')=true)∧w0.heap.size≤B)∧pW (aW v) (iC D) (GW cs.toList off (aW v) fun cs'=>Ae bs i (b,T,cs'.toArray) k)
  else (b=g∧(aW v).all (·.oneCell')=true)∧pW (aW v) (iC D) (GW cs.toList off (aW v) fun cs'=>Ae bs i (b,T,cs'.toArray) k) else False
def stR(B:Nat)(w0:World)(rs:List Rw)(D:TD)(g off:Nat)(v:Value)(k:List Rw→Prop):Prop:=
 ∃ i j e n cap xs,(rs[i]?=some ⟨.slice (some ⟨g,0,none⟩) n cap,e,iC D,n,xs⟩∧off=j*iC D∧j<n)∧(aW v).all (·.oneCell')=true∧(Nat.beq e 52=false∨w0.heap.size≤B) ∧
  pW (aW v) (iC D) (Ae rs i ⟨.slice (some ⟨g,0,none⟩) n cap,e,iC D,n,xs.take off++aW v++xs.drop (off+iC D)⟩ k)
def apO(B:Nat)(w0:World)(bs:List Bx)(rs:List Rw)(w:World)(u v:Value)(e kk Oy:Nat)(k:Value→List Bx→List Rw→World→Prop):Prop:=
 ∃ QL Pt i nn xs mm news,(aV B w0 w bs rs→aV B w0 w QL Pt)∧Pt[i]?=some ⟨v,e,kk,nn,xs⟩∧SliceAt w u kk mm news∧(nn+mm≤maxLen∧(nn+mm)*Oy≤140737488355328)∧(Nat.beq e 52=false∨w0.heap.size≤B) ∧
  ∀ v' w',Ae Pt i ⟨v',e,kk,nn+mm,xs++news⟩ fun rs'=>aV B w0 w' QL rs'→k v' QL rs' w'
def rZ:Nat→List (Nat×Operand)→Bool
 | _,[]=>true
 | i,(j,_)::r=>bif Nat.beq i j then rZ (i+1) r else false
def Xr(kk:Nat):List Value→(List Value→Prop)→Prop
 | [],f=>f []
 | v::r,f=>QI v fun cs=>pW cs.toList kk (Xr kk r fun l=>rA cs.toList l f)
section
variable (B:Nat) (w0:World) (N:Nat) (l:Slots) (o:Oper) (n:Nat) (m:List fG) (bs:List Bx) (rs:List Rw) (w:World) (k:List fG→List Bx→List Rw→World→Prop)
def FB:Prop:=Nw l m [] (gT o.op) fun vs=>match o.dst with
 | some d=>bif Nat.blt d N then bif jg d m then
  ∃ R:Value→World→Prop,(∀ (a:Act) (o':Oper),o'.op=o.op→o'.type=o.type→wQ a (gT o.op) vs→∃ v w',(execOp a.eval o').run Tryz.prog w=.ok (.value v) w'∧R v w') ∧
   ∀ v w',R v w'→∃ bs' rs',aV B w0 w' bs' rs'∧k (⟨d,n,[],true,v⟩::m) bs' rs' w'
  else False else False
 | none=>∃ R:World→Prop,(∀ (a:Act) (o':Oper),o'.op=o.op→o'.type=o.type→wQ a (gT o.op) vs→∃ w',(execOp a.eval o').run Tryz.prog w=.ok .skip w'∧R w') ∧
  ∀ w',R w'→∃ bs' rs',aV B w0 w' bs' rs'∧k m bs' rs' w'
def cK(π:Pa)(t:Bool)(f:FuncId)(vs:List Value):Prop:=bif iO f Rv then False else bif Nat.blt f NF then dK N m o.dst fun d=>(∃ v,ob π t (Calls Tryz.prog f vs.toArray w fun e w'=>e=.returned v∧aru w.heap.size w w') (∀ w',aV B w0 w' bs rs→k (⟨d,n,π,t,v⟩::m) bs rs w')) ∨
 (match π with
 | []=>∃ R:Value→World→Prop,(Calls Tryz.prog f vs.toArray w fun e w'=>∃ v,e=.returned v∧R v w')∧∀ v w',R v w'→∃ bs' rs',aV B w0 w' bs' rs'∧k (⟨d,n,[],true,v⟩::m) bs' rs' w'
 | π=>∃ R:Value→World→Prop,(t=true→Calls Tryz.prog f vs.toArray w fun e w'=>∃ v,e=.returned v∧R v w')∧(t=false→∃ v,R v w)∧∀ v w',R v w'→∃ bs' rs',aV B w0 w' bs' rs'∧k (⟨d,n,π,t,v⟩::m) bs' rs' w')
 else False
def apK(π:Pa)(c:Call):Prop:=Rm π (match c.args.toList with
 | [s,x]=>(match c.argTypes.toList with
  | [ty,ty']=>bif Nat.beq ty ty' then dK N m o.dst fun d=>pP l m π s fun v=>pP l m π x fun u=>Cl ty (fun D=>match D with
   | .sl e kk Oy=>bif Nat.blt 0 kk then apO B w0 bs rs w u v e kk Oy (fun v'=>k (⟨d,n,[],true,v'⟩::m)) else False
   | _=>False) TT else False
  | _=>False)
 | _=>False)
def Nh:Prop:=gK m o.guard fun π t=>match o.op with
 | .load ty x=>dK N m o.dst fun d=>pP l m π x fun u=>Ef u (zy π t fun v=>k (⟨d,n,π,t,v⟩::m) bs rs w) fun g off=>Cl ty (fun D=>ldK π t bs w D g off fun v=>k (⟨d,n,π,t,v⟩::m) bs rs w) TT
 | .store ty x y=>Rm π (match o.dst with
  | none=>(pP l m π x fun u=>pP l m π y fun v=>Ef u False fun g off=>Cl ty (fun D=>stK B w0 bs D g off v fun bs'=>∀ w',aV B w0 w' bs' rs→k m bs' rs w') TT) ∨
   (pP l m π x fun u=>pP l m π y fun v=>Ef u False fun g off=>Cl ty (fun D=>stR B w0 rs D g off v fun rs'=>∀ w',aV B w0 w' bs rs'→k m bs rs' w') TT)∨FB B w0 N l o n m w k
  | some _=>False)
 | .alloc ty=>Rm π (dK N m o.dst fun d=>∃ z,(Tryz.prog.info? ty).bind (·.zero)=some z∧bif Nat.blt ty 9000 then QI z fun cs=>∀ g w',aV B w0 w' ((g,ty,cs)::bs) rs→k (⟨d,n,[],true,.pointer (some ⟨g,0,none⟩)⟩::m) ((g,ty,cs)::bs) rs w' else False)
 | .box ty x=>Rm π (dK N m o.dst fun d=>pP l m π x fun u=>bif Nat.blt ty 9000 then QI u fun cs=>∀ g w',aV B w0 w' ((g,ty,cs)::bs) rs→k (⟨d,n,[],true,.pointer (some ⟨g,0,none⟩)⟩::m) ((g,ty,cs)::bs) rs w' else False)
 | .buildSlice ty len parts=>Rm π (dK N m o.dst fun d=>Cl ty (fun D=>match D with
  | .sl e kk _=>bif rZ 0 parts.toList then pW parts.toList len (bif Nat.blt 0 (len*kk) then bif Nat.ble (len*kk) 16777216 then bif Nat.blt e 9000 then Nw l m π (parts.toList.map (·.2)) fun vs=>Xr kk vs fun cs=>∀ g w',aV B w0 w' ((g,e,cs.toArray)::bs) rs→k (⟨d,n,[],true,.slice (some ⟨g,0,none⟩) len len⟩::m) ((g,e,cs.toArray)::bs) rs w'
   else False else False else bif Nat.beq len 0 then bif Nat.blt e 9000 then ∀ g w',aV B w0 w' ((g,e,#[])::bs) rs→k (⟨d,n,[],true,.slice (some ⟨g,0,none⟩) 0 0⟩::m) ((g,e,#[])::bs) rs w' else False else False) else False
  | _=>False) TT)
 | .call c=>(match c.callee with
  | .value (.func f)=>Nw l m π c.args.toList fun vs=>cK B w0 N o n m bs rs w k π t f vs
  | .value y=>pP l m π y fun u=>(match u with
   | .func (.func f) first cap=>Nw l m π c.args.toList fun vs=>rA first.toList vs fun xs=>rA xs cap.toList fun ys=>cK B w0 N o n m bs rs w k π t f ys
   | _=>False)
  | .builtin .append=>apK B w0 N l o n m bs rs w k π c
  | .builtin .len=>dK N m o.dst fun d=>pop l m π t (fun v=>k (⟨d,n,π,t,v⟩::m) bs rs w) (.call c)
  | _=>Rm π (FB B w0 N l o n m w k))
 | .insert _ _ _ _|.makeMap _ _|.makeChan _ _|.makeSlice _ _ _|.mapUpdate _ _ _ _|.mapEntry _ _ _|.entryStore _ _ _ _|.range _ _|.next _ _|.entry _|.typeAssert _ _ _ _|.panic _|.lookup _ _ _ _|.slice _ _ _ _ _=>Rm π (FB B w0 N l o n m w k)
 | op=>dK N m o.dst fun d=>pop l m π t (fun v=>k (⟨d,n,π,t,v⟩::m) bs rs w) op
end
def isN(o:Option Value):Bool:=match o with
 | none=>true
 | some _=>false
def og:List fG→Slots→(Slots→Prop)→Prop
 | [],l,f=>f l
 | ⟨s,_,p,t,v⟩::r,l,f=>match p with
  | []=>og r l fun l'=>f ((s,v)::l')
  | _::_=>bif isN (look s l) then og r l f else og r l fun l'=>f ((s,gd t v)::l')
theorem lW:∀ {m:List fG} {l:Slots} {f:Slots→Prop},og m l f→∃ l',f l'∧∀ q v,look q l'=some v→(∃ e∈m,e.s=q∧((e.p=[]∧v=e.v)∨v=gd e.t e.v))∨(look q l=some v∧∀ e∈m,e.s≠q)
 | [],l,_,h=>⟨l,h,fun _ _ h=>.inr ⟨h,by simp⟩⟩
 | ⟨s,j,p,t,v⟩::r,l,f,h=>by
  have key:∀ (v':Value),((p=[]∧v'=v)∨v'=gd t v)→(∃ l',f ((s,v')::l')∧∀ q v,look q l'=some v→(∃ e∈r,e.s=q∧((e.p=[]∧v=e.v)∨v=gd e.t e.v))∨(look q l=some v∧∀ e∈r,e.s≠q)) →
   ∃ l',f l'∧∀ q u,look q l'=some u→(∃ e∈(⟨s,j,p,t,v⟩:fG)::r,e.s=q∧((e.p=[]∧u=e.v)∨u=gd e.t e.v))∨(look q l=some u∧∀ e∈(⟨s,j,p,t,v⟩:fG)::r,e.s≠q):=by
   rintro v' hv ⟨l',h1,h2⟩;refine⟨_,h1,fun q u hq=>?_⟩;rw[bB] at hq
   cases e:q == s with
   | true=>
    rw[e] at hq;have e1:v'=u:=arp hq;subst e1;exact .inl ⟨_,arq ..,(by simpa using e:q=s).symm,hv⟩
   | false=>
    rw[e] at hq;rcases h2 q u hq with⟨e',h3,h4⟩|⟨h3,h4⟩
    ·exact .inl ⟨e',arn _ h3,h4⟩
    ·refine .inr ⟨h3,fun e' he'=>?_⟩;rcases arl.1 he' with rfl|he'
     ·exact fun h=>(by simpa using e:q≠s) h.symm
     ·exact h4 e' he'
  cases p with
  | nil=>exact key v (.inl ⟨rfl,rfl⟩) (lW (f:=fun l'=>f ((s,v)::l')) h)
  | cons x p=>
   have h:bif isN (look s l) then og r l f else og r l fun l'=>f ((s,gd t v)::l'):=h
   cases hn:isN (look s l) with
   | false=>
    rw[hn] at h;exact key _ (.inr rfl) (lW (f:=fun l'=>f ((s,gd t v)::l')) h)
   | true=>
    rw[hn] at h
    have hnone:look s l=none:=by
     cases hl:look s l with
     | none=>rfl
     | some u=>rw[hl] at hn;cases hn
    obtain⟨l',h1,h2⟩:=lW h;refine⟨l',h1,fun q u hq=>?_⟩;rcases h2 q u hq with⟨e',h3,h4⟩|⟨h3,h4⟩
    ·exact .inl ⟨e',arn _ h3,h4⟩
    ·refine .inr ⟨h3,fun e' he'=>?_⟩;rcases arl.1 he' with rfl|he'
     ·intro hs;have hs:s=q:=hs;rw[← hs,hnone] at h3;cases h3
     ·exact h4 e' he'
def vc(B:Nat)(w0:World)(N:Nat)(l:Slots):List Oper→Nat→List fG→List Bx→List Rw→World→(Slots→List Bx→List Rw→World→Prop)→Prop
 | [],_,m,bs,rs,w,K=>og m l fun l'=>K l' bs rs w
 | o::r,n,m,bs,rs,w,K=>Nh B w0 N l o n m bs rs w fun m' bs' rs' w'=>vc B w0 N l r (n+1) m' bs' rs' w' K
structure Inv (ops:Array Oper) (a:Act) (N:Nat) (l:Slots) (m:List fG) (n:Nat):Prop where
 fr:Fr a N
 L:iL m n
 dst:∀ e∈m,(ops[e.j]?).bind (·.dst)=some e.s
 at_:∀ e∈m,At a e.s (gd e.t e.v)
 base:∀ q v,(∀ e∈m,e.s≠q)→look q l=some v→At a q v
section
variable {ops:Array Oper} {a a':Act} {N:Nat} {l:Slots} {m:List fG} {n:Nat} {o:Oper}
theorem Inv.start(F:Fs a N l):Inv ops a N l [] 0:=⟨F.fr,.nil 0,by simp,by simp,fun q v _ h=>F.at_ q v h⟩
theorem Inv.E(I:Inv ops a N l m n){x:Operand}{π:Pa}{v:Value}(h:DH l m π x v)(hc:∀ y∈π,Cond m y):a.eval x=v:=by
 cases x with
 | tmp q=>
  rcases h with⟨e,he,rfl,rfl,hs⟩|⟨h1,h2⟩
  ·have ht:e.t=true:=(I.L.tv e he).2 fun y hy=>hc y (yT hs y hy)
   exact((I.at_ e he).on ht).ev
  ·exact(I.base q v h1 h2).ev
 | const u=>exact h
 | global=>exact h.elim
 | func f=>exact h
theorem Inv.put(I:Inv ops a N l m n)(ho:ops[n]?=some o){d:Nat}(hd:o.dst=some d)(hfr:jg d m=true){π:Pa}(hp:∀ x∈π,∃ e∈m,e.j=x.1){t:Bool}(ht:t=true↔∀ x∈π,Cond m x){v:Value}(p:Put a d (gd t v) a'):Inv ops a' N l (⟨d,n,π,t,v⟩::m) (n+1):=by
 have hne:=Qo hfr;refine⟨p.fr I.fr,I.L.put hp ht,?_,?_,?_⟩
 ·intro e he;rcases arl.1 he with rfl|he
  ·simp[ho,hd]
  ·exact I.dst e he
 ·intro e he;rcases arl.1 he with rfl|he
  ·exact p.now
  ·exact p.old (by simpa using hne e he) (I.at_ e he)
 ·intro q u hq hl;exact p.old (by have:=hq _ (arq ..);simp only at this;simpa using fun e=>this e.symm) (I.base q u (fun e he=>hq e (arn _ he)) hl)
theorem Inv.next(I:Inv ops a N l m n):Inv ops a N l m (n+1):=⟨I.fr,I.L.mono (Nat.le_succ n),I.dst,I.at_,I.base⟩
theorem Inv.fsK(I:Inv ops a N l m n){f:Slots→Prop}(h:og m l f):∃ l',f l'∧Fs a N l':=by
 obtain⟨l',h1,h2⟩:=lW h;refine⟨l',h1,I.fr,fun q v hq=>?_⟩;rcases h2 q v hq with⟨e,he,rfl,h3⟩|⟨h3,h4⟩
 ·rcases h3 with⟨hp,rfl⟩|rfl
  ·exact(I.at_ e he).on ((I.L.tv e he).2 (by rw[hp];simp))
  ·exact I.at_ e he
 ·exact I.base q v h4 h3
theorem Ob(hL:iL m n){g:Option (Nat×Bool)}{f:Pa→Bool→Prop}(h:gK m g f):∃ π t,f π t∧(∀ x∈π,∃ e∈m,e.j=x.1)∧(t=true↔∀ x∈π,Cond m x)∧(π=[]→t=true) ∧
 ((g=none∧t=true)∨∃ e∈m,∃ b c,g=some (e.j,b)∧e.v=.bool c∧(t=true↔e.t=true∧c=b)):=by
 unfold gK at h;split at h
 ·exact⟨_,_,h,by simp,by simp,fun _=>rfl,.inl ⟨rfl,rfl⟩⟩
 ·rename_i j b;obtain⟨e,he,rfl,h⟩:=ZM h;split at h
  ·rename_i c hv;have h:=Zg h;obtain⟨h1,h2,h3⟩:=hL.guard he hv (b:=b);exact⟨_,_,h,h1,h2,fun h=>(by cases h),.inr ⟨e,he,b,c,rfl,hv,h3⟩⟩
  ·exact h.elim
theorem qH{t:Bool}(hg:(o.guard=none∧t=true)∨∃ e∈m,∃ b c,o.guard=some (e.j,b)∧e.v=.bool c∧(t=true↔e.t=true∧c=b))
 (hd:∀ e∈m,(∃ b,o.guard=some (e.j,b))→(ops[e.j]?).bind (·.dst)=some e.s∧At a e.s (gd e.t e.v)):Region.wanted o (yielded ops a.tmps)=t:=by
 rcases hg with⟨h1,rfl⟩|⟨e,he,b,c,hg,hv,h3⟩
 ·exact jF h1
 ·obtain⟨hds,hat⟩:=hd e he ⟨b,hg⟩;rw[hv] at hat
  cases t with
  | true=>
   obtain⟨h4,rfl⟩:=h3.1 rfl;exact G_ hg hds (hat.on h4)
  | false=>
   cases h4:e.t with
   | false=>
    rw[h4] at hat
    exact PE hg hds hat
   | true=>
    have hne:¬ c=b:=fun e2=>by
     have:=h3.2 ⟨h4,e2⟩;cases this
    exact Db hg hds (hat.on h4) (by cases c<;>cases b<;>simp_all)
theorem adM(I:Inv ops a N l m n){f:Pa→Bool→Prop}(h:gK m o.guard f):∃ π t,f π t∧(∀ x∈π,∃ e∈m,e.j=x.1)∧(t=true↔∀ x∈π,Cond m x)∧Region.wanted o (yielded ops a.tmps)=t∧(π=[]→t=true):=by
 obtain⟨π,t,h1,h2,h3,h4,h5⟩:=Ob I.L h;exact⟨π,t,h1,h2,h3,qH h5 fun e he _=>⟨I.dst e he,I.at_ e he⟩,h4⟩
theorem gM{dst:Option Nat}{f:Nat→Prop}(h:dK N m dst f):∃ d,dst=some d∧Nat.blt d N=true∧jg d m=true∧f d:=by
 unfold dK at h;split at h
 ·rename_i d
  cases h1:Nat.blt d N with
  | false=>rw[h1] at h;exact h.elim
  | true=>
   rw[h1] at h
   cases h2:jg d m with
   | false=>rw[h2] at h;exact h.elim
   | true=>rw[h2] at h;exact⟨d,rfl,h1,h2,h⟩
 ·exact h.elim
theorem mE{π:Pa}{p:Prop}(h:Rm π p):π=[]∧p:=by
 unfold Rm at h;split at h
 ·exact⟨rfl,h⟩
 ·exact h.elim
theorem bC{b:Bool}{p:Prop}(h:bif b then p else False):b=true∧p:=by
 cases b with
 | true=>exact⟨rfl,h⟩
 | false=>exact h.elim
end
section
variable {ops:Array Oper} {a:Act} {N:Nat} {l:Slots} {m:List fG} {n:Nat} {o:Oper} {B:Nat} {w0 w:World} {bs:List Bx} {rs:List Rw} {k:List fG→List Bx→List Rw→World→Prop} {rest:List Oper} {Q:Exit→Act→World→Prop} {π:Pa} {t:Bool} {d:Nat} {v:Value}
theorem afc(hw:Region.wanted o (yielded ops a.tmps)=t)(hr:t=true→(execOp a.eval o).run Tryz.prog w=.ok (.value v) w)(hd:o.dst=some d)(hf:Fr a N)(hN:Nat.blt d N=true)(next:∀ a',Put a d (gd t v) a'→wpList Tryz.prog ops Q rest a' w):wpList Tryz.prog ops Q (o::rest) a w:=by
 cases t with
 | true=>exact nE hw (hr rfl) hd hf (by simpa using hN) next
 | false=>exact zL hw hd hf (by simpa using hN) next
theorem ur{a:Act}:∀ {xs:List Operand} {vs:List Value},wQ a xs vs→xs.map a.eval=vs
 | _,_,.nil=>rfl
 | _,_,.cons h r=>by rw[List.map_cons,ur r];exact congrArg (·::_) h
theorem jh{a:Act}{xs:Array Operand}{vs:List Value}(h:wQ a xs.toList vs):xs.map a.eval=vs.toArray:=by
 apply Array.toList_inj.1;rw[Array.toList_map];exact ur h
theorem Inv.evs(I:Inv ops a N l m n){xs:List Operand}{vs:List Value}(h:Ca (DH l m π) xs vs)(hc:∀ y∈π,Cond m y):wQ a xs vs:=wz h hc fun _ _ _ _ h hc=>I.E h hc
theorem Ar{f:FuncId}(h1:Nat.blt f NF=true)(h2:iO f Rv=false):za Tryz.prog f=true:=by
 have:=arC.1 aei f (by simpa using h1);rw[h2,Bool.or_false] at this;exact this
theorem He{f:FuncId}(hf:za Tryz.prog f=true){x:Operand}{xs:Array Operand}{ts:Array TypeId}{first cap args:Array Value}(ho:o.op=.call { callee:=.value x,args:=xs,argTypes:=ts })(hx:a.eval x=.func (.func f) first cap)(ha:first++xs.map a.eval++cap=args):(execOp a.eval o).run Tryz.prog w=.ok (.enter f args) w:=by
 unfold za at hf;split at hf
 ·rename_i fn hfn;rw[arD,Bool.not_eq_true'] at hf;obtain⟨c,hc⟩:=Option.isSome_iff_exists.1 hf.2;exact EW ho hx hfn hf.1 hc ha
 ·cases hf
theorem YO(I:Inv ops a N l m n)(M:aV B w0 w bs rs)(ho:ops[n]?=some o)(hp:∀ x∈π,∃ e∈m,e.j=x.1)(ht:t=true↔∀ x∈π,Cond m x)(hw:Region.wanted o (yielded ops a.tmps)=t)(h0:π=[]→t=true){f:FuncId}{vs:List Value}
 (h:cK B w0 N o n m bs rs w k π t f vs) (hrun:t=true→za Tryz.prog f=true→(execOp a.eval o).run Tryz.prog w=.ok (.enter f vs.toArray) w)
 (next:∀ a' m' bs' rs' w',Inv ops a' N l m' (n+1)→aV B w0 w' bs' rs'→k m' bs' rs' w'→wpList Tryz.prog ops Q rest a' w'):wpList Tryz.prog ops Q (o::rest) a w:=by
 unfold cK at h
 cases hm:iO f Rv with
 | true=>rw[hm] at h;exact h.elim
 | false=>
  rw[hm] at h;obtain⟨hb,h⟩:=bC h;obtain⟨d,hd,hN,hfr,h⟩:=gM h;have hok:=Ar hb hm;rcases h with⟨v,h⟩|h
  ·obtain⟨h1,h2⟩:=gD h
   cases t with
   | true=>
    refine j_ hw (hrun rfl hok) (wH (h1 rfl)) hd I.fr (by simpa using hN) fun u a' w' h3 p=>?_
    obtain⟨rfl,h3⟩:=h3;exact next a' _ _ _ _ (I.put ho hd hfr hp ht p) (M.keep h3) (h2 w' (M.keep h3))
   | false=>exact zL hw hd I.fr (by simpa using hN) fun a' p=>next a' _ _ _ _ (I.put ho hd hfr hp ht p) M (h2 w M)
  ·split at h
   ·obtain⟨R,h1,h2⟩:=h;obtain rfl:=h0 rfl;refine j_ hw (hrun rfl hok) h1 hd I.fr (by simpa using hN) fun u a' w' h3 p=>?_
    obtain⟨bs',rs',M',h4⟩:=h2 u w' h3;exact next a' _ _ _ _ (I.put (t:=true) (v:=u) ho hd hfr (by simp) (by simp) p) M' h4
   ·obtain⟨R,h1,h2,h5⟩:=h
    cases t with
    | true=>
     refine j_ hw (hrun rfl hok) (h1 rfl) hd I.fr (by simpa using hN) fun u a' w' h3 p=>?_
     obtain⟨bs',rs',M',h4⟩:=h5 u w' h3;exact next a' _ _ _ _ (I.put (t:=true) (v:=u) ho hd hfr hp ht p) M' h4
    | false=>
     obtain⟨v,hv⟩:=h2 rfl;obtain⟨bs',rs',M',h4⟩:=h5 v w hv;exact zL hw hd I.fr (by simpa using hN) fun a' p=>next a' _ _ _ _ (I.put (t:=false) (v:=v) ho hd hfr hp ht p) M' h4
theorem Vq(I:Inv ops a N l m n)(ho:ops[n]?=some o)(hw:Region.wanted o (yielded ops a.tmps)=true)(h:FB B w0 N l o n m w k)
 (next:∀ a' m' bs' rs' w',Inv ops a' N l m' (n+1)→aV B w0 w' bs' rs'→k m' bs' rs' w'→wpList Tryz.prog ops Q rest a' w'):wpList Tryz.prog ops Q (o::rest) a w:=by
 obtain⟨vs,h1,h⟩:=jR h;have oJ:=I.evs h1 (by simp);split at h
 ·rename_i d hd;obtain⟨hN,h⟩:=bC h;obtain⟨hfr,R,h2,h3⟩:=bC h;obtain⟨v,w',h4,h5⟩:=h2 a o rfl rfl oJ;obtain⟨bs',rs',M',h6⟩:=h3 v w' h5;exact nE hw h4 hd I.fr (by simpa using hN) fun a' p=>next a' _ _ _ _ (I.put (t:=true) (v:=v) ho hd hfr (by simp) (by simp) p) M' h6
 ·rename_i hd;obtain⟨R,h2,h3⟩:=h;obtain⟨w',h4,h5⟩:=h2 a o rfl rfl oJ;obtain⟨bs',rs',M',h6⟩:=h3 w' h5;exact VJ hw h4 hd (next a _ _ _ _ I.next M' h6)
theorem Tl{D:TD}{g off:Nat}{kk:Value→Prop}(M:aV B w0 w bs rs)(h:ldK π t bs w D g off kk){ty:TypeId}(hD:iV Tryz.prog ty D=true):∃ v,kk v∧(t=true→∀ w',aru w.heap.size w w'→∀ (a:Act) (o:Oper) (x:Operand),o.op=.load ty x→a.eval x=.pointer (some ⟨g,off,none⟩)→(execOp a.eval o).run Tryz.prog w'=.ok (.value v) w'):=by
 unfold ldK at h
 cases h1:D.one' with
 | true=>
  rw[h1] at h;obtain⟨dd,hu,hd⟩:=R9 hD h1;rcases h with⟨i,h⟩|⟨v,h⟩
  ·obtain⟨⟨b,T,cs⟩,hb,h⟩:=fV h;obtain⟨hT,h⟩:=bC h;obtain⟨h2,h3⟩:=gD h;obtain⟨v,h4,h5⟩:=fV h3;refine⟨v,h5,fun bp w' hb' a o x ho hx=>?_⟩;obtain rfl:=h2 bp;exact cM ho hx hu (by cases dd<;>first|rfl|cases hd) (((M.keep hb').b i hb hT).cell off▸by simpa using h4)
  ·obtain⟨h2,h3⟩:=gD h;exact⟨v,h3,fun bp w' hb' a o x ho hx=>cM ho hx hu (by cases dd<;>first|rfl|cases hd) (cell_later hb' (h2 bp))⟩
 | false=>
  rw[h1] at h;obtain⟨dd,hu,hd,hs⟩:=yS hD h1;rcases h with⟨i,h⟩|⟨cs,h⟩
  ·obtain⟨⟨b,T,cs⟩,hb,h⟩:=fV h;obtain⟨hT,h⟩:=bC h;obtain⟨h2,h3⟩:=gD h;obtain⟨h4,h5⟩:=II h3;obtain⟨h6,h7⟩:=GL h5;refine⟨_,h7,fun bp w' hb' a o x ho hx=>?_⟩;obtain rfl:=h2 bp;refine gu _ ho hx hu (by cases dd<;>first|rfl|cases hd) (hs.trans ?_) (zO ((M.keep hb').b i hb hT) ?_)
   ·rw[arE,Nat.min_eq_left h6]
   ·rw[arE,Nat.min_eq_left h6]
  ·obtain⟨h2,h3⟩:=gD h;obtain⟨h4,h5⟩:=gV h3;exact⟨_,h5,fun bp w' hb' a o x ho hx=>gu cs ho hx hu (by cases dd<;>first|rfl|cases hd) (hs.trans (by rw[h4])) fun j u hu=>cell_later hb' (h2 bp j u hu)⟩
theorem Wm{w':World}{B e n cap kk off j g:Nat}{xs l:List Value}{cur:Array Value}(hg:B≤g)(hnc:n≤cap)(hcm:cap≤maxLen)(hcs:cur.size=cap*kk)(ht:cur.toList.take (n*kk)=xs)(hoff:off=j*kk)(hj:j<n)(hl:l.length=kk)
 (h':Whole w' g e (splice cur off l)):w'.ownsRow B e kk (.slice (some ⟨g,0,none⟩) n cap) n (xs.take off++l++xs.drop (off+kk)):=by
 have h1:off+kk≤n*kk:=by rw[hoff,← Nat.succ_mul];exact arF _ hj
 have h2:n*kk≤cap*kk:=arF _ hnc;have hx:xs.length=n*kk:=by rw[← ht,arE,Array.length_toList,hcs];omega
 refine⟨by simp[hx,hl];omega,.inr ⟨g,cap,_,rfl,hg,h',hnc,hcm,by rw[wZ,hcs],?_⟩⟩;rw[mw _ _ _ (by rw[hcs,hl];omega),hl,← ht];have hlen:(cur.toList.take off++l).length=off+kk:=by rw[List.length_append,arE,Array.length_toList,hl,hcs];omega
 rw[List.take_append,List.take_of_length_le (by rw[hlen];omega),hlen,List.take_take,Nat.min_eq_left (by omega),List.drop_take]
theorem Zj{D:TD}{g off:Nat}{kk:List Rw→Prop}(M:aV B w0 w bs rs)(h:stR B w0 rs D g off v kk){ty:TypeId}(hD:iV Tryz.prog ty D=true)(hw:Region.wanted o (yielded ops a.tmps)=true){x y:Operand}(ho:o.op=.store ty x y)(hx:a.eval x=.pointer (some ⟨g,off,none⟩))(hy:a.eval y=v)(hd:o.dst=none)
 (next:∀ rs' w',aV B w0 w' bs rs'→kk rs'→wpList Tryz.prog ops Q rest a w'):wpList Tryz.prog ops Q (o::rest) a w:=by
 obtain⟨i,j,e,n,cap,xs,⟨hi,hoff,hj⟩,h1,hW,h⟩:=h;obtain⟨h2,h3⟩:=gV h;have h4:=yV h3;obtain⟨g',cap',cur,hv,hg,hH,hn,hm,hs,ht⟩:=tS (M.r i hi) (Nat.zero_lt_of_lt hj);injection hv with e1 e2 e3;injection e1 with e1;injection e1 with e1;subst e1 e3
 have hfit:off+(aW v).length≤cur.size:=by
  have h5:off+iC D≤n*iC D:=by rw[hoff,← Nat.succ_mul];exact arF _ hj
  rw[h2,hs];exact arv h5 (arF _ hn)
 exact oQ hw ho hx hy hH (kM v) hfit ((yR hD).trans (by rw[h2])) h1 rfl hd fun w' s h'=>next _ w' (M.grow i hi (Wm hg hn hm hs ht hoff hj h2 h') s.grown (.inl rfl) hW) h4
theorem Zk{D:TD}{g off:Nat}{kk:List Bx→Prop}(M:aV B w0 w bs rs)(h:stK B w0 bs D g off v kk){ty:TypeId}(hD:iV Tryz.prog ty D=true)(hw:Region.wanted o (yielded ops a.tmps)=true){x y:Operand}(ho:o.op=.store ty x y)(hx:a.eval x=.pointer (some ⟨g,off,none⟩))(hy:a.eval y=v)(hd:o.dst=none)
 (next:∀ bs' w',aV B w0 w' bs' rs→kk bs'→wpList Tryz.prog ops Q rest a w'):wpList Tryz.prog ops Q (o::rest) a w:=by
 obtain⟨i,h⟩:=h;obtain⟨⟨b,T,cs⟩,hb,h⟩:=fV h;obtain⟨hT,h⟩:=bC h
 have key:(b=g∧(aW v).all (·.oneCell')=true)→(Nat.beq T 52=false∨w0.heap.size≤B)→pW (aW v) (iC D) (GW cs.toList off (aW v) fun cs'=>Ae bs i (b,T,cs'.toArray) kk)→wpList Tryz.prog ops Q (o::rest) a w:=by
  rintro⟨rfl,h1⟩ hW h;obtain⟨h2,h3⟩:=gV h;obtain⟨h4,h5⟩:=V2 h3;have h6:=yV h5;rw[Array.length_toList] at h4
  have hsp:splice cs off (aW v)=(cs.toList.take off++aW v++cs.toList.drop (off+(aW v).length)).toArray:=by
   apply Array.toList_inj.1;rw[mw _ _ _ h4]
  refine oQ hw ho hx hy (M.b i hb hT) (kM v) h4 ((yR hD).trans (by rw[h2])) h1 hsp hd fun w' s h'=>next _ w' (M.sto i hb s h' hT hW) h6
 cases hq:Nat.beq T 52 with
 | true=>
  rw[hq] at h;obtain⟨⟨h1,h2⟩,h3⟩:=h;exact key h1 (.inr h2) h3
 | false=>
  rw[hq] at h;exact key h.1 (.inl hq) h.2
end
theorem zJ(off:Nat):∀ (l:List Value) (j:Nat) (cs:Array Value),(l.zipIdx j).foldl (fun cs (c,j)=>cs.setIfInBounds (off+j) c) cs=splice cs (off+j) l
 | [],_,_=>rfl
 | v::r,j,cs=>by
  rw[List.zipIdx_cons,List.foldl_cons,zJ off r (j+1)];rfl
def Bs:Nat→List Value→List (Nat×Value)
 | _,[]=>[]
 | i,v::r=>(i,v)::Bs (i+1) r
theorem Aa(cs:Array Value):∀ (o:Nat) (l r:List Value),splice (splice cs o l) (o+l.length) r=splice cs o (l++r)
 | _,[],_=>rfl
 | o,v::l,r=>by
  show splice (splice (cs.setIfInBounds o v) (o+1) l) (o+(l.length+1)) r=splice (cs.setIfInBounds o v) (o+1) (l++r);rw[← Aa _ (o+1) l r];congr 1;omega
theorem Ix(k:Nat):∀ (vs:List Value) (i:Nat) (cells:Array Value),(∀ v∈vs,v.cells.size=k)→(i+vs.length)*k≤cells.size →
 Instr.fill (fun i=>some (i*k,k)) cells (Bs i vs)=some (splice cells (i*k) (vs.flatMap fun v=>v.cells.toList))
 | [],_,_,_,_=>rfl
 | v::r,i,cells,h,hs=>by
  have hv:=h v (arq ..)
  have hk:i*k+k≤cells.size:=by
   refine arv ?_ hs;rw[← Nat.succ_mul];exact arF _ (by simp)
  have hst:v.cells.zipIdx.foldl (fun cs (c,j)=>cs.setIfInBounds (i*k+j) c) cells=splice cells (i*k) v.cells.toList:=by
   rw[← Array.foldl_toList,Array.toList_zipIdx];exact zJ (i*k) v.cells.toList 0 cells
  show(if v.cells.size≠k||i*k+v.cells.size>cells.size then none else Instr.fill (fun i=>some (i*k,k)) (v.cells.zipIdx.foldl (fun cs (c,j)=>cs.setIfInBounds (i*k+j) c) cells) (Bs (i+1) r))=_
  rw[hst,if_neg (by rw[hv];simp;omega),Ix k r (i+1) _ (fun u hu=>h u (arn _ hu)) (by
   rw[wZ];refine arv (Nat.le_of_eq ?_) hs;congr 1;simp only[List.length_cons];omega)]
  rw[List.flatMap_cons,← Aa];have:(i+1)*k=i*k+v.cells.toList.length:=by rw[Nat.succ_mul,Array.length_toList,hv]
  rw[this]
theorem FR{kk:Nat}:∀ {vs:List Value} {f:List Value→Prop},Xr kk vs f→f (vs.flatMap fun v=>v.cells.toList)∧∀ v∈vs,v.cells.size=kk
 | [],_,h=>⟨h,by simp⟩
 | v::r,f,h=>by
  have h1:=uI h;obtain⟨h2,h3⟩:=gV h1;obtain⟨h4,h5⟩:=FR h3;refine⟨by rw[List.flatMap_cons];exact gX h4,fun u hu=>?_⟩;rcases arl.1 hu with rfl|hu
  ·simpa using h2
  ·exact h5 u hu
theorem C6{a:Act}:∀ {i:Nat} {ps:List (Nat×Operand)} {vs:List Value},rZ i ps=true→wQ a (ps.map (·.2)) vs→ps.map (fun(i,x)=>(i,a.eval x))=Bs i vs
 | _,[],_,_,h=>by cases h;rfl
 | i,(j,x)::r,vs,hp,h=>by
  cases h with
  | cons h1 h2=>
   unfold rZ at hp
   cases hb:Nat.beq i j with
   | false=>rw[hb] at hp;cases hp
   | true=>
    rw[hb] at hp;rw[List.map_cons,C6 hp h2,← arG hb];simp only[Bs,h1]
theorem Xh{a:Act}{xs:List Operand}{vs:List Value}(h:wQ a xs vs):vs.length=xs.length:=by
 rw[← ur h,arH]
section
variable {ops:Array Oper} {a:Act} {N:Nat} {l:Slots} {m:List fG} {n:Nat} {o:Oper} {B:Nat} {w0 w:World} {bs:List Bx} {rs:List Rw} {k:List fG→List Bx→List Rw→World→Prop} {rest:List Oper} {Q:Exit→Act→World→Prop}
theorem qK{ty len e kk Oy:Nat}{parts:Array (Nat×Operand)}(ho:o.op=.buildSlice ty len parts)(hD:iV Tryz.prog ty (.sl e kk Oy)=true)(hp:rZ 0 parts.toList=true)(hl:parts.toList.length=len)(h0:0<len*kk)(h1:len*kk≤2^24)
 {vs:List Value} (oJ:wQ a (parts.toList.map (·.2)) vs) (hc:∀ v∈vs,v.cells.size=kk) :
 (execOp a.eval o).run Tryz.prog w=.ok (.value (.slice (some ⟨w.heap.size,0,none⟩) len len)) (w.alloc (.cells (vs.flatMap fun v=>v.cells.toList).toArray e)):=by
 obtain⟨hu,hi⟩:=CV hD;obtain⟨ti,z,i1,i2,i3,i4,i5⟩:=nX hi;have hvl:vs.length=len:=by rw[Xh oJ,arH,hl]
 have hcl:(vs.flatMap fun v=>v.cells.toList).length=len*kk:=by
  rw[← hvl];clear oJ hvl
  induction vs with
  | nil=>simp
  | cons v r ih=>
   rw[List.flatMap_cons,List.length_append,ih (fun u hu=>hc u (arn _ hu)),Array.length_toList,hc v (arq ..),List.length_cons,Nat.succ_mul,Nat.add_comm]
 refine oq (z:=z) (pv:=(Bs 0 vs).toArray) ho hu (AX hi) (by rw[i1];exact i2) h1 h0 ?_ ?_
 ·apply Array.toList_inj.1;rw[Array.toList_map];exact C6 hp oJ
 ·have hsz:((Array.range (len*kk)).map (z.cells[·%z.cells.size]!)).size=len*kk:=by simp
  show Instr.fill _ _ (Bs 0 vs)=_;rw[Ix kk vs 0 _ hc (by rw[hsz,Nat.zero_add,hvl];exact Nat.le_refl _),Nat.zero_mul,kI _ _ (by rw[hsz,hcl])]
theorem Ku{ty e kk Oy:Nat}(ho:o.op=.buildSlice ty 0 #[])(hD:iV Tryz.prog ty (.sl e kk Oy)=true):
 (execOp a.eval o).run Tryz.prog w=.ok (.value (.slice (some ⟨w.heap.size,0,none⟩) 0 0)) (w.alloc (.cells #[] e)):=by
 obtain⟨hu,hi⟩:=CV hD;obtain⟨ti,z,i1,-⟩:=nX hi
 have h:(Instr.buildSlice ty 0 #[]).run Tryz.prog w=.ok (.slice (some ⟨w.heap.size,0,none⟩) 0 0) (w.alloc (.cells #[] e)):=by
  simp[Instr.buildSlice,run_underlying hu,sizeOf,typeInfo,i1,newRow,Instr.fill];exact congrArg (fun x=>w.alloc (Obj.cells x e)) (Array.eq_empty_of_size_eq_zero (by simp))
 unfold execOp;simp only[ho,arA,Array.map_empty,h,Result.andThen_ok,Sem.run_pure]
theorem yU(I:Inv ops a N l m n)(M:aV B w0 w bs rs)(ho:ops[n]?=some o)(h:Nh B w0 N l o n m bs rs w k)
 (next:∀ a' m' bs' rs' w',Inv ops a' N l m' (n+1)→aV B w0 w' bs' rs'→k m' bs' rs' w'→wpList Tryz.prog ops Q rest a' w'):wpList Tryz.prog ops Q (o::rest) a w:=by
 obtain⟨π,t,h,hp,ht,hw,h0⟩:=adM I h
 have hval:∀ {d:Nat} {v:Value},o.dst=some d→Nat.blt d N=true→jg d m=true→(t=true→(execOp a.eval o).run Tryz.prog w=.ok (.value v) w)→k (⟨d,n,π,t,v⟩::m) bs rs w→wpList Tryz.prog ops Q (o::rest) a w:=
  fun hd hN hfr hr hk=>afc hw hr hd I.fr hN fun a' p=>next a' _ _ _ _ (I.put ho hd hfr hp ht p) M hk
 have TV:∀ {op:Op} {d:Nat},o.op=op→o.dst=some d→Nat.blt d N=true→jg d m=true→pop l m π t (fun v=>k (⟨d,n,π,t,v⟩::m) bs rs w) op→wpList Tryz.prog ops Q (o::rest) a w:=fun hop hd hN hfr h=>by
  obtain⟨v,h1,h2⟩:=KI I.L ht h;exact hval hd hN hfr (fun bp=>h2 a w o hop (fun x _ π' v h hc=>I.E h hc) bp) h1
 have hnew:∀ {d:Nat} {f:Nat→Value} {ty:TypeId} {cs:Array Value},π=[]→Nat.blt ty 9000=true→(execOp a.eval o).run Tryz.prog w=.ok (.value (f w.heap.size)) (w.alloc (.cells cs ty))→o.dst=some d→Nat.blt d N=true→jg d m=true →
  (∀ g w',aV B w0 w' ((g,ty,cs)::bs) rs→k (⟨d,n,[],true,f g⟩::m) ((g,ty,cs)::bs) rs w')→wpList Tryz.prog ops Q (o::rest) a w:=fun hπ hty hr hd hN hfr hk=>
  zM (hw.trans (h0 hπ)) hr hd I.fr (by simpa using hN) fun g a' w' nn p=>next a' _ _ _ _ (I.put (t:=true) ho hd hfr (by simp) (by simp) p) (M.new nn hty) (hk g w' (M.new nn hty))
 split at h
 ·rename_i ty x hop;obtain⟨d,hd,hN,hfr,h⟩:=gM h;obtain⟨u,h1,h⟩:=bQ h;rcases nL h with⟨g,off,rfl,hq⟩|h
  case inr=>
   obtain⟨h2,h3⟩:=Ux h;exact hval hd hN hfr (fun bp=>(h2 bp).elim) h3
  obtain⟨D,hD,h⟩:=jB hq;obtain⟨v,h2,h3⟩:=Tl M h hD;exact hval hd hN hfr (fun bp=>h3 bp w (Below.refl _ _) a o x hop (I.E h1 (ht.1 bp))) h2
 ·rename_i ty x y hop;obtain⟨rfl,h⟩:=mE h;obtain rfl:=h0 rfl;split at h
  ·rename_i hd;rcases h with h|h|h
   ·obtain⟨u,h1,h⟩:=bQ h;obtain⟨v,h2,h⟩:=bQ h;rcases nL h with⟨g,off,rfl,hq⟩|h
    case inr=>exact h.elim
    obtain⟨D,hD,h⟩:=jB hq;exact Zk M h hD hw hop (I.E h1 (by simp)) (I.E h2 (by simp)) hd fun bs' w' M' h=>next a _ _ _ _ I.next M' (h w' M')
   ·obtain⟨u,h1,h⟩:=bQ h;obtain⟨v,h2,h⟩:=bQ h;rcases nL h with⟨g,off,rfl,hq⟩|h
    case inr=>exact h.elim
    obtain⟨D,hD,h⟩:=jB hq;exact Zj M h hD hw hop (I.E h1 (by simp)) (I.E h2 (by simp)) hd fun rs' w' M' h=>next a _ _ _ _ I.next M' (h w' M')
   ·exact Vq I ho hw h next
  ·exact h.elim
 ·rename_i ty hop;obtain⟨hπ,h⟩:=mE h;obtain⟨d,hd,hN,hfr,z,hz,h⟩:=gM h;obtain⟨hty,h⟩:=bC h;exact hnew (f:=fun n=>.pointer (some ⟨n,0,none⟩)) hπ hty (uy hop hz) hd hN hfr (uI h)
 ·rename_i ty x hop;obtain⟨hπ,h⟩:=mE h;subst hπ;obtain⟨d,hd,hN,hfr,h⟩:=gM h;obtain⟨u,h1,h⟩:=bQ h;obtain⟨hty,h⟩:=bC h;exact hnew (f:=fun n=>.pointer (some ⟨n,0,none⟩)) rfl hty (Oq hop (I.E h1 (by simp))) hd hN hfr (uI h)
 ·rename_i ty len parts hop;obtain⟨hπ,h⟩:=mE h;subst hπ;obtain⟨d,hd,hN,hfr,h⟩:=gM h;obtain⟨D,hD,h⟩:=jB h;split at h
  ·obtain⟨hps,h⟩:=bC h;obtain⟨hl,hz⟩:=gV h
   cases b0:Nat.blt 0 (len*_) with
   | false=>
    rw[b0,cond_false] at hz;obtain⟨e0,hz⟩:=bC hz;obtain⟨b2,hy⟩:=bC hz;obtain rfl:len=0:=arG e0;obtain rfl:parts=#[]:=by apply Array.toList_inj.1;exact List.eq_nil_of_length_eq_zero hl
    exact hnew (f:=fun n=>.slice (some ⟨n,0,none⟩) 0 0) rfl b2 (Ku hop hD) hd hN hfr hy
   | true=>
    rw[b0] at hz;obtain⟨b1,hz⟩:=bC hz;obtain⟨b2,hz⟩:=bC hz;obtain⟨vs,h1,hz⟩:=jR hz;obtain⟨h2,h3⟩:=FR hz;exact hnew (f:=fun n=>.slice (some ⟨n,0,none⟩) len len) rfl b2 (qK hop hD hps hl (by simpa using b0) (by simpa using b1) (I.evs h1 (by simp)) h3) hd hN hfr h2
  ·exact h.elim
 ·rename_i c hop;split at h
  ·rename_i f pY;obtain⟨vs,h1,h⟩:=jR h;refine YO I M ho hp ht hw h0 h (fun bp hok=>?_) next
   have e3:c={ callee:=.value (.func f),args:=c.args,argTypes:=c.argTypes }:=by cases c;simp only at pY;rw[pY]
   exact qP hok (hop.trans (congrArg Op.call e3)) (jh (I.evs h1 (ht.1 bp)))
  ·rename_i y hy pY;obtain⟨u,h1,h⟩:=bQ h;split at h
   ·rename_i f first cap
    obtain⟨vs,h2,h⟩:=jR h;have h:=gX (gX h);refine YO I M ho hp ht hw h0 h (fun bp hok=>?_) next
    have e3:c={ callee:=.value y,args:=c.args,argTypes:=c.argTypes }:=by cases c;simp only at pY;rw[pY]
    refine He hok (hop.trans (congrArg Op.call e3)) (I.E h1 (ht.1 bp)) ?_;rw[jh (I.evs h2 (ht.1 bp))];apply Array.toList_inj.1;simp
   ·exact h.elim
  ·rename_i pY;obtain⟨rfl,h⟩:=mE h;obtain rfl:=h0 rfl;split at h
   ·rename_i s x hargs;split at h
    ·rename_i ty ty' af6;obtain⟨hty,hq⟩:=bC h;obtain rfl:=arG hty;obtain⟨d,hd,hN,hfr,h⟩:=gM hq;obtain⟨v,h1,h⟩:=bQ h;obtain⟨u,h2,h⟩:=bQ h;obtain⟨D,hD,h⟩:=jB h;split at h
     ·rename_i e kk Oy;obtain⟨hkk,QL,Pt,i,nn,xs,mm,news,hM,ZW,hsl,h63,hW,h⟩:=bC h;have e1:c.args=#[s,x]:=Array.toList_inj.1 hargs;have e2:c.argTypes=#[ty,ty]:=Array.toList_inj.1 af6;have e3:c={ callee:=.builtin .append,args:=#[s,x],argTypes:=#[ty,ty] }:=by cases c;simp only at pY e1 e2;rw[pY,e1,e2]
      obtain⟨hu,hi⟩:=CV hD;exact kpP hw (hop.trans (congrArg Op.call e3)) hu hi hkk (hM M) i ZW (I.E h1 (by simp)) (I.E h2 (by simp)) hsl h63 hd I.fr hN (fun v' a' w' p M'=>next a' _ _ _ _ (I.put (t:=true) (v:=v') ho hd hfr (by simp) (by simp) p) M' (yV (h v' w') M')) hW
     ·exact h.elim
    ·exact h.elim
   ·exact h.elim
  ·obtain⟨d,hd,hN,hfr,h⟩:=gM h;exact TV hop hd hN hfr h
  ·obtain⟨rfl,h⟩:=mE h;obtain rfl:=h0 rfl;exact Vq I ho hw h next
 all_goals first
  | (obtain⟨rfl,h⟩:=mE h
     obtain rfl:=h0 rfl;exact Vq I ho hw h next)
  | (obtain⟨d,hd,hN,hfr,h⟩:=gM h
     exact TV rfl hd hN hfr h)
theorem XT{K:Slots→List Bx→List Rw→World→Prop}:∀ {L:List Oper} {n:Nat} {a:Act} {m:List fG} {bs:List Bx} {rs:List Rw} {w:World},(∀ i o,L[i]?=some o→ops[n+i]?=some o)→Inv ops a N l m n→aV B w0 w bs rs→vc B w0 N l L n m bs rs w K →
 (∀ a l' bs' rs' w',Fs a N l'→aV B w0 w' bs' rs'→K l' bs' rs' w'→Q .normal a w')→wpList Tryz.prog ops Q L a w
 | [],_,_,_,_,_,_,_,I,M,h,next=>by
  obtain⟨l',h1,F⟩:=I.fsK h;exact arB (next _ _ _ _ _ F M h1)
 | o::r,n,_,_,_,_,_,q_,I,M,h,next=>by
  refine yU I M (by simpa using q_ 0 o rfl) h fun a' m' bs' rs' w' I' M' h'=>?_
  exact XT (fun i o hi=>by have:=q_ (i+1) o (by simpa using hi);rwa [show n+1+i=n+(i+1) by omega]) I' M' h' next
theorem DX{K:Slots→List Bx→List Rw→World→Prop}{C:Act→World→Prop}:∀ {L:List Oper} {n:Nat} {a:Act} {m:List fG} {bs:List Bx} {rs:List Rw} {w:World},(∀ i o,L[i]?=some o→ops[n+i]?=some o)→Inv ops a N l m n→aV B w0 w bs rs→vc B w0 N l L n m bs rs w K →
 (∀ a l' bs' rs' w',Fs a N l'→aV B w0 w' bs' rs'→K l' bs' rs' w'→C a w')→cF Tryz.prog ops C L a w
 | [],_,_,_,_,_,_,_,I,M,h,next=>by
  obtain⟨l',h1,F⟩:=I.fsK h;exact next _ _ _ _ _ F M h1
 | o::r,n,_,_,_,_,_,q_,I,M,h,next=>by
  intro Q' hQ;refine yU I M (by simpa using q_ 0 o rfl) h fun a' m' bs' rs' w' I' M' h'=>?_
  exact arB (hQ _ _ (DX (fun i o hi=>by have:=q_ (i+1) o (by simpa using hi);rwa [show n+1+i=n+(i+1) by omega]) I' M' h' next))
end
def blk:Value→Option Nat
 | .pointer (some p)=>some p.block
 | .slice (some p) _ _=>some p.block
 | _=>none
def aeh(w:World)(v:Value):Prop:=∀ b,blk v=some b→w.heap.size≤b
def Far(v u:Value):Prop:=∀ b,blk v=some b→blk u≠some b
theorem Far.symm{v u:Value}(h:Far v u):Far u v:=fun b hb hv=>h b hv hb
section
variable {Q':Exit→Act→World→Prop} {a:Act} {w:World} {g:Good} {s:Nat} {p:Prop}
theorem pa(hP:∀ v a' w',aru w.heap.size w w'→g v w'→(p→aeh w v)→Put a s v a'→Q' .normal a' w'):∀ v a' w',aru w.heap.size w w'→(fun v u=>g v u∧aeh w v:Good) v w'→Put a s v a'→Q' .normal a' w':=fun v a' w' h1 h2 h3=>hP v a' w' h1 h2.1 (fun _=>h2.2) h3
end
def acQ(o:Oper):Nat:=match o.op with
 | .assign _=>3
 | .move _|.pick _ _ _|.nilCheck _|.load _ _|.binOp _ _ _ _ _|.unOp _ _ _|.fieldAddr _ _ _|.indexAddr _ _ _|.index _ _ _|.extract _ _|.convert _ _ _|.makeFunc _ _ _|.build _ _|.field _ _ _|.buildSlice _ _ _|.slice _ _ _ _ _=>0
 | .alloc _|.box _ _=>1
 | .call c=>(match c.callee with|.value _=>0|.builtin .len=>0|.builtin .min=>0|.builtin .max=>0|_=>2)
 | _=>2
def lS(d:Nat):List Operand→Bool
 | []=>false
 | .tmp q::r=>bif Nat.beq d q then true else lS d r
 | _::r=>lS d r
def X0(o:Oper):List (List Operand)→Bool
 | []=>false
 | x::r=>(match o.dst with|some d=>bif lS d x then true else X0 o r|none=>false)
def dkN:Bool→List (List Operand)→List Oper→Nat
 | _,_,[]=>0
 | u,seen,o::r=>match acQ o with
  | 0=>dkN u (gT o.op::seen) r+1
  | 1=>(match u with|true=>0|false=>dkN true (gT o.op::seen) r+1)
  | 3=>bif X0 o seen then 0 else dkN u (gT o.op::seen) r+1
  | _=>0
def gE(k:Nat)(L:List Oper):List Nat:=(L.take k).filterMap (·.dst)
def aaZ(slots:List Nat)(o:Oper):Operand→Bool
 | .tmp q=>!slots.contains q||o.after.toList.any fun e=>Region.binds .any e&&(slots[e.on]? == some q)
 | _=>true
def EZ(slots:List Nat)(o:Oper):Bool:=(gT o.op).all (aaZ slots o)&&(match o.guard with
 | none=>true
 | some (j,_)=>o.after.toList.any fun e=>Region.binds .any e&&(e.on == j))
def ad3(N:Nat)(L:List Oper)(k:Nat):Bool:=
 ordered 0 L&&(vu k L&&((L.take k).all (fun o=>o.dst.isSome)&&((L.take k).all (EZ (gE k L))&&((gE k L).all (fun s=>decide (s<N))&&decide (gE k L).Nodup))))
def Uy(ds:List Nat):Slots→(Slots→Prop)→Prop
 | [],f=>f []
 | (s,v)::r,f=>bif iO s ds then Uy ds r f else Uy ds r fun l=>f ((s,v)::l)
theorem mY{x:Nat}{l:List Nat}:iO x l=true↔x∈l:=by
 induction l with
 | nil=>simp[iO]
 | cons y r ih=>
  unfold iO
  cases h:Nat.beq x y with
  | true=>simp[arG h]
  | false=>
   have hne:x≠y:=fun e=>by rw[e,Nat.beq_refl] at h;cases h
   simp[ih,hne]
theorem Bg{ds:List Nat}:∀ {l:Slots} {f:Slots→Prop},Uy ds l f→∃ l',f l'∧∀ q,look q l'=bif iO q ds then none else look q l
 | [],f,h=>⟨[],h,fun q=>by cases iO q ds<;>rfl⟩
 | (s,v)::r,f,h=>by
  unfold Uy at h
  cases hm:iO s ds with
  | true=>
   rw[hm] at h;obtain⟨l',h1,h2⟩:=Bg h;refine⟨l',h1,fun q=>?_⟩;rw[h2,bB]
   cases hq:iO q ds with
   | true=>rfl
   | false=>
    have:(q == s)=false:=by
     cases e:q == s with
     | false=>rfl
     | true=>have e':q=s:=by simpa using e
             rw[e',hm] at hq;cases hq
    rw[this];rfl
  | false=>
   rw[hm] at h;obtain⟨l',h1,h2⟩:=Bg h;refine⟨_,h1,fun q=>?_⟩;rw[bB,bB,h2]
   cases e:q == s with
   | false=>rfl
   | true=>
    have e':q=s:=by simpa using e
    rw[e',hm];rfl
structure AlD where
 d:Nat
 j:Nat
 ty:TypeId
 cs:Array Value
 sl:Option Nat
structure kB where
 d:Nat
 j:Nat
 R:Value→World→Prop
def alV(s:Option Nat)(g:Nat):Value:=match s with
 | none=>.pointer (some ⟨g,0,none⟩)
 | some len=>.slice (some ⟨g,0,none⟩) len len
section
variable (B:Nat) (w0:World) (N:Nat) (l:Slots) (bs:List Bx) (rs:List Rw) (w:World) (K:Slots→List Bx→List Rw→World→Prop)
def cD(o:Oper)(n:Nat)(m:List fG)(π:Pa)(t:Bool)(f:FuncId)(vs:List Value)(k:fG→Prop):Prop:=bif iO f Rv then False else bif Nat.blt f NF then dK N m o.dst fun d=>∃ v,ob π t (∀ w',aru w.heap.size w w'→aV B w0 w' bs rs→Calls Tryz.prog f vs.toArray w' fun e w''=>e=.returned v∧aru w'.heap.size w' w'') (k ⟨d,n,π,t,v⟩)
 else False
def gR(π:Pa)(t:Bool)(R:Value→World→Prop):Value→World→Prop:=match π with
 | []=>R
 | _::_=>fun v w=>t=true→R v w
def cRl(o:Oper)(n:Nat)(m:List fG)(π:Pa)(t:Bool)(f:FuncId)(vs:List Value)(k:kB→Prop):Prop:=bif iO f Rv then False else bif Nat.blt f NF then dK N m o.dst fun d=>∃ R:Value→World→Prop,gN R∧ob π t (∀ w',aru w.heap.size w w'→aV B w0 w' bs rs→Calls Tryz.prog f vs.toArray w' fun e w''=>∃ v,e=.returned v∧(R v w''∧aru w'.heap.size w' w'')) (k ⟨d,n,gR π t R⟩)
 else False
def aa7(R:World→Prop)(P:Option (World→Prop)):Option (World→Prop):=match P with
 | none=>some R
 | some P=>some fun w=>R w∧P w
def Qb(P:Option (World→Prop))(w:World)(q:Prop):Prop:=match P with
 | none=>q
 | some P=>P w→q
def KD(xs:List Operand):List kB→List fG→Option (World→Prop)→(List fG→Option (World→Prop)→Prop)→Prop
 | [],m,P,f=>f m P
 | ⟨d,j,R⟩::r,m,P,f=>bif lS d xs then ∀ u,KD xs r (⟨d,j,[],true,u⟩::m) (aa7 (R u) P) f else KD xs r m P f
def KE(xs:List Operand):List kB→(List kB→Prop)→Prop
 | [],f=>f []
 | ⟨d,j,R⟩::r,f=>bif lS d xs then KE xs r f else KE xs r fun r'=>f (⟨d,j,R⟩::r')
def Sq(xs:List Operand):List kB→Bool
 | []=>false
 | A::r=>bif lS A.d xs then true else Sq xs r
def cU(o:Oper)(n:Nat)(m:List fG)(π:Pa)(t:Bool)(f:FuncId)(xs:List Operand)(rel:List kB)(k:fG→List kB→Prop):Prop:=bif iO f Rv then False else bif Nat.blt f NF then bif Sq xs rel then dK N m o.dst fun d=>∃ v,KD xs rel m none (fun m' P=>Nw l m' π xs fun vs=>(t=true→∀ w',aru w.heap.size w w'→aV B w0 w' bs rs→Qb P w' (Calls Tryz.prog f vs.toArray w' fun e w''=>e=.returned v∧aru w'.heap.size w' w'')))∧KE xs rel fun r=>k ⟨d,n,π,t,v⟩ r
 else False else False
def cV(o:Oper)(n:Nat)(m:List fG)(π:Pa)(t:Bool)(f:FuncId)(xs:List Operand)(rel:List kB)(k:List kB→Prop):Prop:=bif iO f Rv then False else bif Nat.blt f NF then bif Sq xs rel then dK N m o.dst fun d=>∃ R':Value→World→Prop,gN R'∧KD xs rel m none (fun m' P=>Nw l m' π xs fun vs=>(t=true→∀ w',aru w.heap.size w w'→aV B w0 w' bs rs→Qb P w' (Calls Tryz.prog f vs.toArray w' fun e w''=>∃ v,e=.returned v∧(R' v w''∧aru w'.heap.size w' w''))))∧KE xs rel fun r=>k (⟨d,n,gR π t R'⟩::r)
 else False else False
def obI(π:Pa)(t:Bool)(p:Prop):Prop:=match π with
 | []=>p
 | _::_=>t=true→p
theorem ZA{π:Pa}{t:Bool}{p:Prop}(h:obI π t p)(ht:t=true):p:=by
 cases π with
 | nil=>exact h
 | cons=>exact h ht
def fD(o:Oper)(n:Nat)(m:List fG)(π:Pa)(t:Bool)(rel:List kB)(k:List kB→Prop):Prop:=dK N m o.dst fun d=>∃ R':Value→World→Prop,gN R'∧KD (gT o.op) rel m none (fun m' P=>Nw l m' π (gT o.op) fun vs=>obI π t (∀ (w1:World) (a:Act) (o':Oper),aru w.heap.size w w1→aV B w0 w1 bs rs→Qb P w1 (o'.op=o.op→wQ a (gT o.op) vs →
  ∃ v w2,(execOp a.eval o').run Tryz.prog w1=.ok (.value v) w2∧R' v w2∧aru w1.heap.size w1 w2)))∧KE (gT o.op) rel fun r=>k (⟨d,n,gR π t R'⟩::r)
def alN(a:Option AlD)(p:Prop):Prop:=match a with
 | none=>p
 | some _=>False
abbrev Vp:=List Oper→Nat→List fG→Option AlD→List kB→Bool→Prop
def Zv:List kB→List fG→Option (World→Prop)→(List fG→Option (World→Prop)→Prop)→Prop
 | [],m,P,f=>f m P
 | ⟨d,j,R⟩::r,m,P,f=>bif jg d m then ∀ u,Zv r (⟨d,j,[],true,u⟩::m) (aa7 (R u) P) f else False
def vF:Vp:=fun L n m al rel _=>Zv rel m none fun m' P=>match al with
 | none=>∀ w',Qb P w' (aru w.heap.size w w'→aV B w0 w' bs rs→vc B w0 N l L n m' bs rs w' K)
 | some ⟨d,j,ty,cs,s⟩=>bif jg d m' then ∀ g w',Qb P w' (aru w.heap.size w w'→aV B w0 w' ((g,ty,cs)::bs) rs→vc B w0 N l L n (⟨d,j,[],true,alV s g⟩::m') ((g,ty,cs)::bs) rs w' K) else False
section
variable (F:Vp)
def vd:Nat→List Oper→Nat→List fG→Option AlD→List kB→Bool→Prop
 | 0,L,n,m,al,rel,us=>F L n m al rel us
 | _+1,[],_,_,_,_,_=>False
 | k+1,o::r,n,m,al,rel,us=>gK m o.guard fun π t=>match o.op with
  | .load ty x=>dK N m o.dst fun d=>pP l m π x fun u=>Ef u (zy π t fun v=>vd k r (n+1) (⟨d,n,π,t,v⟩::m) al rel us) fun g off=>Cl ty (fun D=>ldK π t bs w D g off fun v=>vd k r (n+1) (⟨d,n,π,t,v⟩::m) al rel us) TT
  | .alloc ty=>Rm π (alN al (dK N m o.dst fun d=>∃ z,(Tryz.prog.info? ty).bind (·.zero)=some z∧bif Nat.blt ty 9000 then QI z fun cs=>vd k r (n+1) m (some ⟨d,n,ty,cs,none⟩) rel us else False))
  | .box ty x=>Rm π (alN al (dK N m o.dst fun d=>pP l m π x fun u=>bif Nat.blt ty 9000 then QI u fun cs=>vd k r (n+1) m (some ⟨d,n,ty,cs,none⟩) rel us else False))
  | .buildSlice ty len parts=>(Rm π (alN al (dK N m o.dst fun d=>Cl ty (fun D=>match D with
   | .sl e kk _=>bif rZ 0 parts.toList then pW parts.toList len (bif Nat.blt 0 (len*kk) then bif Nat.ble (len*kk) 16777216 then bif Nat.blt e 9000 then Nw l m π (parts.toList.map (·.2)) fun vs=>Xr kk vs fun cs=>vd k r (n+1) m (some ⟨d,n,e,cs.toArray,some len⟩) rel us
    else False else False else False) else False
   | _=>False) TT))∨fD B w0 N l bs rs w o n m π t rel (fun rel=>vd k r (n+1) m al rel true))
  | .call c=>(match c.callee with
   | .value (.func f)=>(Nw l m π c.args.toList fun vs=>cD B w0 N bs rs w o n m π t f vs fun e=>vd k r (n+1) (e::m) al rel us) ∨
    cU B w0 N l bs rs w o n m π t f c.args.toList rel (fun e rel=>vd k r (n+1) (e::m) al rel us) ∨
    (Nw l m π c.args.toList fun vs=>cRl B w0 N bs rs w o n m π t f vs fun A=>vd k r (n+1) m al (A::rel) true) ∨
    cV B w0 N l bs rs w o n m π t f c.args.toList rel (fun rel=>vd k r (n+1) m al rel true)
   | .value y=>pP l m π y fun u=>(match u with
    | .func (.func f) first cap=>Nw l m π c.args.toList fun vs=>rA first.toList vs fun xs=>rA xs cap.toList fun ys=>cD B w0 N bs rs w o n m π t f ys fun e=>vd k r (n+1) (e::m) al rel us
    | _=>False)
   | _=>dK N m o.dst fun d=>pop l m π t (fun v=>vd k r (n+1) (⟨d,n,π,t,v⟩::m) al rel us) (.call c))
  | op=>bif Sq (gT op) rel then fD B w0 N l bs rs w o n m π t rel (fun rel=>vd k r (n+1) m al rel true) else dK N m o.dst fun d=>pop l m π t (fun v=>vd k r (n+1) (⟨d,n,π,t,v⟩::m) al rel us) op
end
end
structure Ga (slots:List Nat) (gp:List Good) (m:List fG) (n:Nat):Prop where
 L:iL m n
 len:gp.length=n
 at_:∀ e∈m,slots[e.j]?=some e.s∧gp[e.j]?=some (kr (gd e.t e.v))
theorem Ga.put{slots:List Nat}{gp:List Good}{m:List fG}{n:Nat}(D:Ga slots gp m n){d:Nat}(hs:slots[n]?=some d){π:Pa}(hp:∀ x∈π,∃ e∈m,e.j=x.1){t:Bool}(ht:t=true↔∀ x∈π,Cond m x){v:Value}:Ga slots (gp++[kr (gd t v)]) (⟨d,n,π,t,v⟩::m) (n+1):=by
 refine⟨D.L.put hp ht,by simp[D.len],fun e he=>?_⟩;rcases arl.1 he with rfl|he
 ·exact⟨hs,by simp[← D.len]⟩
 ·obtain⟨h1,h2⟩:=D.at_ e he;exact⟨h1,by rw[arI (arw.1 h2).1];exact h2⟩
theorem Ga.skip{slots:List Nat}{gp:List Good}{m:List fG}{n:Nat}(D:Ga slots gp m n)(g:Good):Ga slots (gp++[g]) m (n+1):=
 ⟨D.L.mono (Nat.le_succ n),by simp[D.len],fun e he=>⟨(D.at_ e he).1,by rw[arI (arw.1 (D.at_ e he).2).1];exact(D.at_ e he).2⟩⟩
theorem pS{d:Nat}:∀ {xs:List Operand},lS d xs=true→Operand.tmp d∈xs
 | .tmp q::r,h=>by
  unfold lS at h
  cases hb:Nat.beq d q with
  | true=>rw[arG hb];exact arq ..
  | false=>rw[hb] at h;exact arn _ (pS h)
 | .const _::r,h=>arn _ (pS h)
 | .global _::r,h=>arn _ (pS h)
 | .func _::r,h=>arn _ (pS h)
theorem EY{slots:List Nat}{o:Oper}(jJ:EZ slots o=true)(hnd:slots.Nodup){j d:Nat}(hj:slots[j]?=some d)(hx:Operand.tmp d∈gT o.op):∃ gr,(⟨j,gr⟩:Edge)∈o.after.toList∧Region.binds .any ⟨j,gr⟩=true:=by
 unfold EZ at jJ;rw[arD,arC] at jJ;have h3:=jJ.1 _ hx;simp only[aaZ] at h3;have h5:slots.contains d=true:=by simpa using ars hj
 rw[h5,Bool.not_true,Bool.false_or,List.any_eq_true] at h3;obtain⟨ed,h6,h7⟩:=h3;rw[arD,beq_iff_eq] at h7;have h8:ed.on=j:=kT hnd h7.2 hj;obtain⟨on,gr⟩:=ed;simp only at h8;subst h8;exact⟨gr,h6,h7.1⟩
theorem Xg{l:Slots}{m:List fG}{π:Pa}{a:Act}{xs:List Operand}{vs:List Value}(h:Ca (DH l m π) xs vs)(E:∀ x∈xs,∀ v,DH l m π x v→a.eval x=v):wQ a xs vs:=by
 induction h with
 | nil=>exact .nil
 | cons h1 _ ih=>exact .cons (E _ (arq ..) _ h1) (ih fun x hx=>E x (arn _ hx))
theorem IK{slots:List Nat}{gp G':List Good}{m:List fG}{n:Nat}(D:Ga slots gp m n)(hnd:slots.Nodup){ops:Array Oper}(q_:∀ (i:Nat) (s:Nat),slots[i]?=some s→(ops[i]?).bind (fun o=>o.dst)=some s){o:Oper}(jJ:EZ slots o=true){l:Slots}(hl:∀ q v,look q l=some v→slots.contains q=false){a a0:Act}{N:Nat}(F0:Fs a0 N l){w:World}
 (Ds:∀ k,(∃ gr,(⟨k,gr⟩:Edge)∈o.after.toList∧Region.binds .any ⟨k,gr⟩=true)→∀ s g,slots[k]?=some s→(gp++G')[k]?=some g→∃ v,At a s v∧g v w)
 (hrest:∀ j u,slots.contains j=false→At a0 j u→At a j u) :
 (∀ x∈gT o.op,∀ π' v,DH l m π' x v→(∀ y∈π',Cond m y)→a.eval x=v) ∧
 ∀ e∈m,(∃ b,o.guard=some (e.j,b))→(ops[e.j]?).bind (·.dst)=some e.s∧At a e.s (gd e.t e.v):=by
 unfold EZ at jJ;rw[arD,arC] at jJ
 have hat:∀ e∈m,(∃ gr,(⟨e.j,gr⟩:Edge)∈o.after.toList∧Region.binds .any ⟨e.j,gr⟩=true)→At a e.s (gd e.t e.v):=fun e he hk=>by
  obtain⟨h1,h2⟩:=D.at_ e he;obtain⟨v,h3,rfl⟩:=Ds _ hk _ _ h1 (by rw[arI (arw.1 h2).1];exact h2);exact h3
 constructor
 ·intro x hx π' v H8 hc
  cases x with
  | tmp q=>
   rcases H8 with⟨e,he,rfl,rfl,hs⟩|⟨h1,h2⟩
   ·have ht:e.t=true:=(D.L.tv e he).2 fun y hy=>hc y (yT hs y hy)
    refine((hat e he ?_).on ht).ev;have h3:=jJ.1 _ hx;simp only[aaZ] at h3;obtain⟨h4,-⟩:=D.at_ e he;have h5:slots.contains e.s=true:=by simpa using ars h4
    rw[h5,Bool.not_true,Bool.false_or,List.any_eq_true] at h3;obtain⟨ed,h6,h7⟩:=h3;rw[arD,beq_iff_eq] at h7;have h8:ed.on=e.j:=kT hnd h7.2 h4;obtain⟨on,gr⟩:=ed;simp only at h8;subst h8;exact⟨gr,h6,h7.1⟩
   ·exact(hrest q v (hl q v h2) (F0.at_ q v h2)).ev
  | const u=>exact H8
  | global=>exact H8.elim
  | func f=>exact H8
 ·rintro e he ⟨b,hg⟩;refine⟨q_ _ _ (D.at_ e he).1,hat e he ?_⟩;have h3:=jJ.2;rw[hg] at h3;simp only[List.any_eq_true,arD,beq_iff_eq] at h3;obtain⟨⟨on,gr⟩,h6,h7,h8⟩:=h3;simp only at h8;subst h8;exact⟨gr,h6,h7⟩
structure Fin (slots:List Nat) (G:List Good) (m:List fG) (al:Option AlD) (rel:List kB) (us:Bool) (n:Nat) (w:World):Prop where
 D:Ga slots G m n
 al_:∀ A,al=some A→slots[A.j]?=some A.d∧G[A.j]?=some (Made w (alV A.sl) A.ty A.cs)∧Nat.blt A.ty 9000=true∧A.j<n∧∀ e∈m,e.j≠A.j
 cov:al=none→us=false→∀ i,i<n→∃ e∈m,e.j=i
 KC:∀ A∈rel,slots[A.j]?=some A.d∧G[A.j]?=some A.R∧A.j<n∧(∀ e∈m,e.j≠A.j)∧∀ C,al=some C→C.j≠A.j
 vH:(rel.map (·.j)).Nodup
section
variable {slots:List Nat} {gp:List Good} {m:List fG} {al:Option AlD} {rel rel':List kB} {us:Bool} {n:Nat} {w:World}
theorem Fin.sub(F:Fin slots gp m al rel us n w)(h:rel'.Sublist rel):Fin slots gp m al rel' us n w:=⟨F.D,F.al_,F.cov,fun A hA=>F.KC A (h.subset hA),(h.map _).nodup F.vH⟩
theorem BQ{g g':Good}{j:Nat}(h:gp[j]?=some g):(gp++[g'])[j]?=some g:=by rw[arI (arw.1 h).1];exact h
theorem Fin.put(F:Fin slots gp m al rel us n w){g:Good}{e0:fG}(h0:e0.j=n)(D:Ga slots (gp++[g]) (e0::m) (n+1)):Fin slots (gp++[g]) (e0::m) al rel us (n+1) w:=by
 refine⟨D,fun A hA=>?_,fun ha hr i hi=>?_,fun A hA=>?_,F.vH⟩
 ·obtain⟨c1,c2,c3,c4,c5⟩:=F.al_ A hA;refine⟨c1,BQ c2,c3,by omega,fun e he=>?_⟩;rcases arl.1 he with rfl|he
  ·omega
  ·exact c5 e he
 ·by_cases h:i=n
  ·exact⟨e0,arq ..,h0.trans h.symm⟩
  ·obtain⟨e,h1,h2⟩:=F.cov ha hr i (by omega);exact⟨e,arn _ h1,h2⟩
 ·obtain⟨c1,c2,c4,c5,c6⟩:=F.KC A hA;refine⟨c1,BQ c2,by omega,fun e he=>?_,c6⟩;rcases arl.1 he with rfl|he
  ·omega
  ·exact c5 e he
theorem Fin.ahE(F:Fin slots gp m al rel us n w){d:Nat}{R:Value→World→Prop}(hs:slots[n]?=some d):Fin slots (gp++[R]) m al (⟨d,n,R⟩::rel) true (n+1) w:=by
 refine⟨F.D.skip _,fun A hA=>?_,(fun _ h=>by cases h),fun A hA=>?_,?_⟩
 ·obtain⟨c1,c2,c3,c4,c5⟩:=F.al_ A hA;exact⟨c1,BQ c2,c3,by omega,c5⟩
 ·rcases arl.1 hA with rfl|hA
  ·refine⟨hs,by simp[← F.D.len],Nat.lt_succ_self n,fun e he=>?_,fun C hC=>?_⟩
   ·have:=F.D.L.lt e he;simp only;omega
   ·have:=(F.al_ C hC).2.2.2.1;simp only;omega
  ·obtain⟨c1,c2,c4,c5,c6⟩:=F.KC A hA;exact⟨c1,BQ c2,by omega,c5,c6⟩
 ·rw[List.map_cons,List.nodup_cons];refine⟨fun h=>?_,F.vH⟩;obtain⟨A,hA,e⟩:=aro.1 h;have:=(F.KC A hA).2.2.1;simp only at e;omega
theorem Fin.ahF(F:Fin slots gp m none rel us n w){d:Nat}{ty:TypeId}{cs:Array Value}{s:Option Nat}(hs:slots[n]?=some d)(hty:Nat.blt ty 9000=true):Fin slots (gp++[Made w (alV s) ty cs]) m (some ⟨d,n,ty,cs,s⟩) rel us (n+1) w:=by
 refine⟨F.D.skip _,fun A hA=>?_,(fun h=>by cases h),fun A hA=>?_,F.vH⟩
 ·obtain rfl:=arp hA;refine⟨hs,by simp[← F.D.len],hty,Nat.lt_succ_self n,fun e he=>?_⟩;have:=F.D.L.lt e he;simp only;omega
 ·obtain⟨c1,c2,c4,c5,c6⟩:=F.KC A hA;refine⟨c1,BQ c2,by omega,c5,fun C hC=>?_⟩;obtain rfl:=arp hC;simp only;omega
theorem tO{xs:List Operand}:∀ {rel:List kB} {f:List kB→Prop},KE xs rel f→∃ rel',f rel'∧rel'.Sublist rel
 | [],_,h=>⟨[],h,.slnil⟩
 | ⟨d,j,R⟩::r,f,h=>by
  unfold KE at h
  cases hb:lS d xs with
  | true=>
   rw[hb] at h;obtain⟨r',h1,h2⟩:=tO h;exact⟨r',h1,h2.cons _⟩
  | false=>
   rw[hb] at h;obtain⟨r',h1,h2⟩:=tO (f:=fun r'=>f (⟨d,j,R⟩::r')) h;exact⟨_,h1,h2.cons_cons _⟩
theorem tN{xs:List Operand}{a:Act}{w1:World}{f:List fG→Option (World→Prop)→Prop}:∀ {rel:List kB} {m:List fG} {P:Option (World→Prop)},(∀ p,P=some p→p w1)→(∀ A∈rel,lS A.d xs=true→∃ u,At a A.d u∧A.R u w1)→KD xs rel m P f →
 ∃ m' P',f m' P'∧(∀ p,P'=some p→p w1)∧(∀ e∈m',e∈m∨At a e.s e.v)∧∀ e∈m,e∈m'
 | [],m,P,hP,_,h=>⟨m,P,h,hP,fun e he=>.inl he,fun _ he=>he⟩
 | ⟨d,j,R⟩::r,m,P,hP,hr,h=>by
  unfold KD at h
  cases hb:lS d xs with
  | false=>
   rw[hb] at h;exact tN hP (fun A hA=>hr A (arn _ hA)) h
  | true=>
   rw[hb] at h;obtain⟨u,h1,h2⟩:=hr _ (arq ..) hb
   have hP':∀ p,aa7 (R u) P=some p→p w1:=fun p hp=>by
    cases P with
    | none=>obtain rfl:=arp hp;exact h2
    | some q=>obtain rfl:=arp hp;exact⟨h2,hP q rfl⟩
   obtain⟨m',P',k1,k2,k3,k4⟩:=tN hP' (fun A hA=>hr A (arn _ hA)) (h u);refine⟨m',P',k1,k2,fun e he=>?_,fun e he=>k4 e (arn _ he)⟩;rcases k3 e he with h|h
   ·rcases arl.1 h with rfl|h
    ·exact .inr h1
    ·exact .inl h
   ·exact .inr h
theorem uf{P:Option (World→Prop)}{w:World}{q:Prop}(h:Qb P w q)(hP:∀ p,P=some p→p w):q:=by
 cases P with
 | none=>exact h
 | some p=>exact h (hP p rfl)
theorem adL{π:Pa}{t:Bool}{R:Value→World→Prop}{v:Value}{w:World}(h:R v w):gR π t R v w:=by
 cases π with
 | nil=>exact h
 | cons=>exact fun _=>h
theorem aaB{π:Pa}{R:Value→World→Prop}{v:Value}{w:World}(h:π≠[]):gR π false R v w:=by
 cases π with
 | nil=>exact absurd rfl h
 | cons=>exact fun h=>by cases h
theorem Tp{π:Pa}{t:Bool}{R:Value→World→Prop}(h:gN R):gN (gR π t R):=by
 cases π with
 | nil=>exact h
 | cons=>exact fun v w w' h1 hb ht=>h v w w' (h1 ht) hb
end
section
variable {N:Nat} {l:Slots} {B:Nat} {w0 w:World} {bs:List Bx} {rs:List Rw} {F:Vp} {slots:List Nat} {ops:Array Oper} {a0:Act}
def YR(N:Nat)(l:Slots)(B:Nat)(w0 w:World)(bs:List Bx)(rs:List Rw)(F:Vp)(slots:List Nat)(ops:Array Oper)(a0:Act)(gp:List Good)(L:List Oper)(k n:Nat):Prop:=
 ∃ G' m' al' rel' us',lE (gp++G')∧G'.length=k∧kN Tryz.prog ops slots (gp++G') (aru w.heap.size w) a0 N (L.take k) G'∧Fin slots (gp++G') m' al' rel' us' (n+k) w∧vd B w0 N l bs rs w F 0 (L.drop k) (n+k) m' al' rel' us'
theorem XS(M:aV B w0 w bs rs)(hnd:slots.Nodup)(q_:∀ (i s:Nat),slots[i]?=some s→(ops[i]?).bind (fun o=>o.dst)=some s)(hl:∀ q v,look q l=some v→slots.contains q=false)(F0:Fs a0 N l):
 ∀ {k:Nat} {L:List Oper} {n:Nat} {m:List fG} {al:Option AlD} {rel:List kB} {us:Bool} {gp:List Good},vd B w0 N l bs rs w F k L n m al rel us→Fin slots gp m al rel us n w→(∀ i o,(L.take k)[i]?=some o→EZ slots o=true∧slots[n+i]?=o.dst)→k≤L.length→lE gp →
  YR N l B w0 w bs rs F slots ops a0 gp L k n:=by
 intro k
 induction k with
 | zero=>intro L n m al rel us gp h hF _ _ hla;exact⟨[],m,al,rel,us,by simpa using hla,rfl,trivial,by simpa using hF,h⟩
 | succ k ih=>
  intro L n m al rel us gp h hF jJ hkl hla
  cases L with
  | nil=>simp at hkl
  | cons o r=>
   have agz:k≤r.length:=by simpa using hkl
   have Yn:=jJ 0 o (by simp)
   have adp:∀ i o,(r.take k)[i]?=some o→EZ slots o=true∧slots[n+1+i]?=o.dst:=fun i o' hi=>by
    have:=jJ (i+1) o' (by simpa using hi)
    rwa [show n+1+i=n+(i+1) by omega]
   have one:∀ (g:Good) (m1:List fG) (al1:Option AlD) (tP:List kB) (us1:Bool),gN g→Fin slots (gp++[g]) m1 al1 tP us1 (n+1) w→vd B w0 N l bs rs w F k r (n+1) m1 al1 tP us1 →
    (∀ (a:Act) (w1:World) (Q':Exit→Act→World→Prop),Fr a N→aru w.heap.size w w1 →
     (∀ x∈gT o.op,∀ π' v,DH l m π' x v→(∀ y∈π',Cond m y)→a.eval x=v)→(∀ e∈m,(∃ b,o.guard=some (e.j,b))→(ops[e.j]?).bind (·.dst)=some e.s∧At a e.s (gd e.t e.v)) →
     (∀ A∈rel,lS A.d (gT o.op)=true→∃ u,At a A.d u∧A.R u w1) →
     (∀ v a' w',aru w1.heap.size w1 w'→g v w'→Put a (o.dst.getD 0) v a'→Q' .normal a' w')→wpList Tryz.prog ops Q' [o] a w1) →
    YR N l B w0 w bs rs F slots ops a0 gp (o::r) (k+1) n:=by
    intro g m1 al1 tP us1 hg hF1 h1 hst
    have agw:lE (gp++[g]):=by
     clear ih h hF hF1 h1 hst
     induction gp with
     | nil=>exact⟨hg,trivial⟩
     | cons x r ih=>exact⟨hla.1,ih hla.2⟩
    obtain⟨G',m',al',rel',us',k1,k2,k3,k4,k5⟩:=ih h1 hF1 adp agz agw;refine⟨g::G',m',al',rel',us',by simpa using k1,by simp[k2],⟨?_,by simpa using k3⟩,by simpa[show n+(k+1)=n+1+k by omega] using k4,by simpa[show n+(k+1)=n+1+k by omega] using k5⟩;intro a w1 Q' hf hb Ds hrest hK;obtain⟨E,hgu⟩:=IK hF.D hnd q_ Yn.1 hl F0 (G':=g::G') Ds hrest;refine hst a w1 Q' hf hb E hgu (fun A hA hop=>?_) hK;obtain⟨c1,c2,c4,c5,-⟩:=hF.KC A hA;refine Ds A.j ?_ _ _ c1 (by rw[arI (arw.1 c2).1];exact c2);exact EY Yn.1 hnd c1 (pS hop)
   obtain⟨π,t,h,hp,ht,h0,hgd⟩:=Ob hF.D.L h;have TS:∀ {d:Nat},o.dst=some d→slots[n]?=some d:=fun hd=>by have:=Yn.2;rw[hd] at this;simpa using this
   have off:∀ {d:Nat} {a:Act} {w1:World} {g:Good} {Q':Exit→Act→World→Prop},Region.wanted o (yielded ops a.tmps)=false→o.dst=some d→Nat.blt d N=true→Fr a N→g undef w1→(∀ v a' w',aru w1.heap.size w1 w'→g v w'→Put a (o.dst.getD 0) v a'→Q' .normal a' w')→wpList Tryz.prog ops Q' [o] a w1:=
    fun hw hd hN hf hg hK=>zL hw hd hf (by simpa using hN) fun a' p=>arB (hK undef a' _ (Below.refl _ _) hg (by rw[hd];exact p))
   have val:∀ {d:Nat} {v:Value} {tP:List kB},tP.Sublist rel→o.dst=some d→Nat.blt d N=true→vd B w0 N l bs rs w F k r (n+1) (⟨d,n,π,t,v⟩::m) al tP us →
    (t=true→∀ (a:Act) (w1:World) (Q':Exit→Act→World→Prop),Fr a N→aru w.heap.size w w1→Region.wanted o (yielded ops a.tmps)=true→(∀ x∈gT o.op,∀ π' v,DH l m π' x v→(∀ y∈π',Cond m y)→a.eval x=v) →
     (∀ A∈rel,lS A.d (gT o.op)=true→∃ u,At a A.d u∧A.R u w1)→(∀ v' a' w',aru w1.heap.size w1 w'→kr v v' w'→Put a (o.dst.getD 0) v' a'→Q' .normal a' w')→wpList Tryz.prog ops Q' [o] a w1) →
    YR N l B w0 w bs rs F slots ops a0 gp (o::r) (k+1) n:=by
    intro d v tP hsub hd hN h1 hr;refine one (kr (gd t v)) _ _ _ _ (aZ _) ((hF.sub hsub).put rfl (hF.D.put (TS hd) hp ht)) h1 fun a w1 Q' hf hb E hgu hrel hK=>?_
    have hw:=qH hgd hgu
    cases t with
    | true=>exact hr rfl a w1 Q' hf hb hw E hrel hK
    | false=>exact off hw hd hN hf rfl hK
   have TV:∀ {op:Op} {d:Nat},o.op=op→o.dst=some d→Nat.blt d N=true→pop l m π t (fun v=>vd B w0 N l bs rs w F k r (n+1) (⟨d,n,π,t,v⟩::m) al rel us) op→YR N l B w0 w bs rs F slots ops a0 gp (o::r) (k+1) n:=fun hop hd hN h=>by
    obtain⟨v,h1,h2⟩:=KI hF.D.L ht h;exact val (.refl _) hd hN h1 fun bp a w1 Q' hf hb hw E _ hK=>dv hw (h2 a w1 o hop (hop▸E) bp) hd hf hN hK rfl
   have new:∀ {d:Nat} {ty:TypeId} {cs:Array Value} {s:Option Nat},π=[]→al=none→o.dst=some d→Nat.blt d N=true→Nat.blt ty 9000=true→vd B w0 N l bs rs w F k r (n+1) m (some ⟨d,n,ty,cs,s⟩) rel us →
    (∀ (a:Act) (w1:World),(∀ x∈gT o.op,∀ π' v,DH l m π' x v→(∀ y∈π',Cond m y)→a.eval x=v)→(execOp a.eval o).run Tryz.prog w1=.ok (.value (alV s w1.heap.size)) (w1.alloc (.cells cs ty))) →
    YR N l B w0 w bs rs F slots ops a0 gp (o::r) (k+1) n:=by
    intro d ty cs s hπ hal hd hN hty h1 hr;subst hal;refine one (Made w (alV s) ty cs) _ _ _ _ (Lj _ _ _ _) (hF.ahF (TS hd) hty) h1 fun a w1 Q' hf hb E hgu _ hK=>?_
    have hw:=(qH hgd hgu).trans (h0 hπ);exact dn (f:=alV s) hw (hr a w1 E) hd hf hN hK fun b w' nn=>Te hb b w' nn
   have YN:∀ {f:FuncId} {vs:List Value},cD B w0 N bs rs w o n m π t f vs (fun e=>vd B w0 N l bs rs w F k r (n+1) (e::m) al rel us) →
    (t=true→za Tryz.prog f=true→∀ (a:Act) (w1:World),(∀ x∈gT o.op,∀ π' v,DH l m π' x v→(∀ y∈π',Cond m y)→a.eval x=v)→(execOp a.eval o).run Tryz.prog w1=.ok (.enter f vs.toArray) w1) →
    YR N l B w0 w bs rs F slots ops a0 gp (o::r) (k+1) n:=by
    intro f vs h hr;unfold cD at h
    cases hm:iO f Rv with
    | true=>rw[hm] at h;exact h.elim
    | false=>
     rw[hm] at h;obtain⟨hb,h⟩:=bC h;obtain⟨d,hd,hN,hfr,v,h⟩:=gM h;obtain⟨h1,h2⟩:=gD h;have hok:=Ar hb hm;exact val (.refl _) hd hN h2 fun bp a w1 Q' hf hb hw E _ hK=>dc hw (hr bp hok a w1 E) (h1 bp w1 hb (M.keep hb)) hd hf hN hK fun _=>rfl
   have newR:∀ {d:Nat} {R':Value→World→Prop} {tP:List kB},tP.Sublist rel→o.dst=some d→Nat.blt d N=true→gN R'→vd B w0 N l bs rs w F k r (n+1) m al (⟨d,n,gR π t R'⟩::tP) true →
    (t=true→∀ (a:Act) (w1:World) (Q':Exit→Act→World→Prop),Fr a N→aru w.heap.size w w1→Region.wanted o (yielded ops a.tmps)=true→(∀ x∈gT o.op,∀ π' v,DH l m π' x v→(∀ y∈π',Cond m y)→a.eval x=v) →
     (∀ A∈rel,lS A.d (gT o.op)=true→∃ u,At a A.d u∧A.R u w1)→(∀ v' a' w',aru w1.heap.size w1 w'→R' v' w'→Put a (o.dst.getD 0) v' a'→Q' .normal a' w')→wpList Tryz.prog ops Q' [o] a w1) →
    YR N l B w0 w bs rs F slots ops a0 gp (o::r) (k+1) n:=by
    intro d R' tP hsub hd hN hR' h2 hst;refine one (gR π t R') _ _ _ _ (Tp hR') ((hF.sub hsub).ahE (TS hd)) h2 fun a w1 Q' hf hb E hgu hrel hK=>?_
    have hw:=qH hgd hgu
    cases t with
    | true=>exact hst rfl a w1 Q' hf hb hw E hrel fun v a' w' hb' hv hp=>hK v a' w' hb' (adL hv) hp
    | false=>exact off hw hd hN hf (aaB fun h=>by cases h0 h) hK
   have evR:∀ {a:Act} {m':List fG} {xs:List Operand} {vs:List Value} {π':Pa},(∀ y∈π',Cond m y)→(∀ e∈m',e∈m∨At a e.s e.v)→(∀ e∈m,e∈m')→Ca (DH l m' π') xs vs→(∀ x∈xs,x∈gT o.op) →
    (∀ x∈gT o.op,∀ π' v,DH l m π' x v→(∀ y∈π',Cond m y)→a.eval x=v)→wQ a xs vs:=fun {a m' xs vs π'} hc h1 h2 h3 hx E=>Xg h3 fun x hxs v H8=>by
    cases x with
    | tmp q=>
     rcases H8 with⟨e,he,rfl,rfl,hsub⟩|⟨h5,h6⟩
     ·rcases h1 e he with he|he
      ·exact E _ (hx _ hxs) π' _ (.inl ⟨e,he,rfl,rfl,hsub⟩) hc
      ·exact he.ev
     ·exact E _ (hx _ hxs) π' _ (.inr ⟨fun e he=>h5 e (h2 e he),h6⟩) hc
    | const u=>exact H8
    | global=>exact H8.elim
    | func f=>exact H8
   have hfD:fD B w0 N l bs rs w o n m π t rel (fun rel=>vd B w0 N l bs rs w F k r (n+1) m al rel true)→YR N l B w0 w bs rs F slots ops a0 gp (o::r) (k+1) n:=fun hB=>by
    unfold fD at hB;obtain⟨d,hd,hN,hfr,R',hR',h1,h2⟩:=gM hB;obtain⟨tP,h2,hsub⟩:=tO h2;refine newR hsub hd hN hR' h2 fun bp a w1 Q' hf hb hw E hrel hK=>?_
    obtain⟨m',P',k1,k2,k3,k4⟩:=tN (fun _ h=>by cases h) hrel h1;obtain⟨vs,h3,h4⟩:=jR k1;obtain⟨v,w2,h5,h6,h7⟩:=uf (ZA h4 bp w1 a o hb (M.keep hb)) k2 rfl (evR (ht.1 bp) k3 k4 h3 (fun x hx=>hx) E);exact nE hw h5 hd hf (by simpa using hN) fun a' p=>arB (hK v a' w2 h7 h6 (by rw[hd];exact p))
   split at h
   ·rename_i ty x hop;obtain⟨d,hd,hN,hfr,h⟩:=gM h;obtain⟨u,h1,h⟩:=bQ h;rcases nL h with⟨g,off',rfl,hq⟩|h
    case inr=>
     obtain⟨h2,h3⟩:=Ux h;exact val (.refl _) hd hN h3 fun bp=>(h2 bp).elim
    obtain⟨D,hD,h⟩:=jB hq;obtain⟨v,h2,h3⟩:=Tl M h hD;exact val (.refl _) hd hN h2 fun bp a w1 Q' hf hb hw E _ hK=>dv hw (h3 bp w1 hb a o x hop (E x (by rw[hop];simp[gT]) _ _ h1 (ht.1 bp))) hd hf hN hK rfl
   ·rename_i ty hop;obtain⟨hπ,h⟩:=mE h
    cases al with
    | some A=>exact h.elim
    | none=>
     obtain⟨d,hd,hN,hfr,z,hz,h⟩:=gM h;obtain⟨hty,h⟩:=bC h;exact new hπ rfl hd hN hty (uI h) fun a w1 _=>uy hop hz
   ·rename_i ty x hop;obtain⟨hπ,h⟩:=mE h
    cases al with
    | some A=>exact h.elim
    | none=>
     obtain⟨d,hd,hN,hfr,h⟩:=gM h;obtain⟨u,h1,h⟩:=bQ h;obtain⟨hty,h⟩:=bC h;exact new hπ rfl hd hN hty (uI h) fun a w1 E=>Oq hop (E x (by rw[hop];simp[gT]) _ _ h1 (by rw[hπ];simp))
   ·rename_i ty len parts hop;rcases h with hA|hB
    case inr=>exact hfD hB
    obtain⟨hπ,hA⟩:=mE hA
    cases al with
    | some A=>exact hA.elim
    | none=>
     obtain⟨d,hd,hN,hfr,h⟩:=gM hA;obtain⟨D,hD,h⟩:=jB h;split at h
     ·obtain⟨hps,h⟩:=bC h;obtain⟨hlen,h⟩:=gV h;obtain⟨b0,h⟩:=bC h;obtain⟨b1,h⟩:=bC h;obtain⟨b2,h⟩:=bC h;obtain⟨vs,h1,h⟩:=jR h;obtain⟨h2,h3⟩:=FR h;exact new hπ rfl hd hN b2 h2 fun a w1 E=>qK hop hD hps hlen (by simpa using b0) (by simpa using b1) (wz h1 (by rw[hπ];simp) (by rw[hop] at E;exact E)) h3
     ·exact h.elim
   ·rename_i c hop;split at h
    ·rename_i f pY;have e3:c={ callee:=.value (.func f),args:=c.args,argTypes:=c.argTypes }:=by cases c;simp only at pY;rw[pY]
     have TW:gT o.op=c.args.toList:=by rw[hop];simp only[gT,pY];rfl
     rcases h with h|h|h|h
     case inr.inr.inr=>
      unfold cV at h
      cases hm:iO f Rv with
      | true=>rw[hm] at h;exact h.elim
      | false=>
       rw[hm] at h;obtain⟨hb,h⟩:=bC h;obtain⟨hu,h⟩:=bC h;have hok:=Ar hb hm;obtain⟨d,hd,hN,hfr,R',hR',h1,h2⟩:=gM h;obtain⟨tP,h2,hsub⟩:=tO h2;refine newR hsub hd hN hR' h2 fun bp a w1 Q' hf hb hw E hrel hK=>?_
       obtain⟨m',P',k1,k2,k3,k4⟩:=tN (fun _ h=>by cases h) (fun A hA hx=>hrel A hA (by rw[TW];exact hx)) h1;obtain⟨vs,h3,h4⟩:=jR k1;exact dx hw (qP hok (hop.trans (congrArg Op.call e3)) (jh (evR (ht.1 bp) k3 k4 h3 (by rw[TW];exact fun x hx=>hx) E))) (uf (h4 bp w1 hb (M.keep hb)) k2) hd hf hN hK
     case inr.inl=>
      unfold cU at h
      cases hm:iO f Rv with
      | true=>rw[hm] at h;exact h.elim
      | false=>
       rw[hm] at h;obtain⟨hb,h⟩:=bC h;obtain⟨hu,h⟩:=bC h;have hok:=Ar hb hm;obtain⟨d,hd,hN,hfr,v,h1,h2⟩:=gM h;obtain⟨tP,h2,hsub⟩:=tO h2;refine val hsub hd hN h2 fun bp a w1 Q' hf hb hw E hrel hK=>?_
       obtain⟨m',P',k1,k2,k3,k4⟩:=tN (fun _ h=>by cases h) (fun A hA hx=>hrel A hA (by rw[TW];exact hx)) h1;obtain⟨vs,h3,h4⟩:=jR k1;exact dc hw (qP hok (hop.trans (congrArg Op.call e3)) (jh (evR (ht.1 bp) k3 k4 h3 (by rw[TW];exact fun x hx=>hx) E))) (uf (h4 bp w1 hb (M.keep hb)) k2) hd hf hN hK fun _=>rfl
     case inr.inr.inl=>
      obtain⟨vs,h1,h⟩:=jR h;unfold cRl at h
      cases hm:iO f Rv with
      | true=>rw[hm] at h;exact h.elim
      | false=>
       rw[hm] at h;obtain⟨hb,h⟩:=bC h;have hok:=Ar hb hm;obtain⟨d,hd,hN,hfr,R,hR,h⟩:=gM h;obtain⟨hc,h2⟩:=gD h;exact newR (.refl _) hd hN hR h2 fun bp a w1 Q' hf hb hw E _ hK=>dx hw (qP hok (hop.trans (congrArg Op.call e3)) (jh (wz h1 (ht.1 bp) fun x hx=>E x (by rw[TW];exact hx)))) (hc bp w1 hb (M.keep hb)) hd hf hN hK
     obtain⟨vs,h1,h⟩:=jR h;refine YN h fun bp hok a w1 E=>?_
     exact qP hok (hop.trans (congrArg Op.call e3)) (jh (wz h1 (ht.1 bp) fun x hx=>E x (by rw[hop];simp only[gT,pY];exact hx)))
    ·rename_i y hy pY;obtain⟨u,h1,h⟩:=bQ h;split at h
     ·rename_i f first cap
      obtain⟨vs,h2,h⟩:=jR h;have h:=gX (gX h);refine YN h fun bp hok a w1 E=>?_
      have e3:c={ callee:=.value y,args:=c.args,argTypes:=c.argTypes }:=by cases c;simp only at pY;rw[pY]
      have ac9:gT o.op=y::c.args.toList:=by
       rw[hop];simp only[gT,pY];cases y<;>first|rfl|exact absurd rfl (hy _)
      refine He hok (hop.trans (congrArg Op.call e3)) (E y (by rw[ac9];exact arq ..) _ _ h1 (ht.1 bp)) ?_;rw[jh (wz h2 (ht.1 bp) fun x hx=>E x (by rw[ac9];exact arn _ hx))];apply Array.toList_inj.1;simp
     ·exact h.elim
    ·obtain⟨d,hd,hN,hfr,h⟩:=gM h;exact TV hop hd hN h
   all_goals
    cases hu:Sq (gT o.op) rel with
    | true=>rw[hu] at h;exact hfD h
    | false=>
     rw[hu] at h;obtain⟨d,hd,hN,hfr,h⟩:=gM h;exact TV rfl hd hN h
end
def sH(o:Oper)(j:Nat):Bool:=o.after.toList.any fun e=>Region.binds .any e&&(e.on == j)
def pOp(o:Oper):Bool:=o.guard.isNone
def aco(N:Nat)(L:List Oper)(k:Nat):Bool:=
 ordered 0 L&&((L.take (k+2)).all (fun o=>o.dst.isSome)&&((L.take k).all (EZ (gE (k+2) L))&&((gE (k+2) L).all (fun s=>decide (s<N))&&(decide (gE (k+2) L).Nodup&&(decide (L.length=k+4) &&
  ((L.drop k).all pOp&&((L.drop (k+2)).all (EZ (gE (k+2) L)))))))))
section
variable (B:Nat) (w0:World) (N:Nat) (l:Slots) (bs:List Bx) (rs:List Rw) (w:World) (K:Slots→List Bx→List Rw→World→Prop)
def vP:Vp:=fun L _ m al _ us=>match L,al,us with
 | [a1,a2,s1,s2],none,false=>(match a1.op,a2.op,s1.op,s2.op with
  | .alloc yQ,.alloc yP,.store t1 (.tmp x1) y1,.store t2 (.tmp x2) y2=>dK N m a1.dst fun d1=>dK N m a2.dst fun d2=>bif Nat.beq x1 d1 then bif Nat.beq x2 d2 then (match s1.dst,s2.dst with
   | none,none=>∃ z1 z2,((Tryz.prog.info? yQ).bind (·.zero)=some z1∧(Tryz.prog.info? yP).bind (·.zero)=some z2)∧pP l m [] y1 fun u1=>pP l m [] y2 fun u2=>Cl t1 (fun D1=>Cl t2 (fun D2=>bif Nat.blt yQ 9000 then bif Nat.blt yP 9000 then pW (aW u1) (iC D1) (pW (aW z1) (iC D1) (pW (aW u2) (iC D2) (pW (aW z2) (iC D2)
     (((aW u1).all (·.oneCell')=true∧(aW u2).all (·.oneCell')=true)∧∀ g1 g2 w',aru w.heap.size w w'→aV B w0 w' ((g1,yQ,(aW u1).toArray)::(g2,yP,(aW u2).toArray)::bs) rs →
       og m l fun l'=>K ((d1,.pointer (some ⟨g1,0,none⟩))::(d2,.pointer (some ⟨g2,0,none⟩))::l') ((g1,yQ,(aW u1).toArray)::(g2,yP,(aW u2).toArray)::bs) rs w')))) else False else False) TT) TT
   | _,_=>False) else False else False
  | _,_,_,_=>False)
 | _,_,_=>False
end
structure PI (L:List Oper) (k:Nat) (slots:List Nat) (G:List Good) (N:Nat) (a0:Act) (w:World) (d1 d2 yQ yP:Nat) (z1 z2 c1 c2:Array Value) (Lf:Nat→Bool) (b:Act) (u:World):Prop where
 fr:Fr b N
 inv:aru w.heap.size w u
 done:∀ i,i<k→Lf i=true→∀ s g,slots[i]?=some s→G[i]?=some g→∃ v,At b s v∧g v u
 rest:∀ j x,slots.contains j=false→At a0 j x→At b j x
 o1:Lf (k+2)=true→Lf k=true
 o2:Lf (k+3)=true→Lf (k+1)=true
 one:Lf k=true→∃ g,At b d1 (.pointer (some ⟨g,0,none⟩))∧w.heap.size≤g∧Whole u g yQ (if Lf (k+2)=true then c1 else z1)
 two:Lf (k+1)=true→∃ g,At b d2 (.pointer (some ⟨g,0,none⟩))∧w.heap.size≤g∧Whole u g yP (if Lf (k+3)=true then c2 else z2)
 ne:Lf k=true→Lf (k+1)=true→∀ g,At b d1 (.pointer (some ⟨g,0,none⟩))→At b d2 (.pointer (some ⟨g,0,none⟩))→False
theorem At.Qn{a:Act}{s:Nat}{v u:Value}(h:At a s v)(h':At a s u):v=u:=arp (h.symm.trans h')
theorem qM{g g':Nat}(h:Value.pointer (some ⟨g,0,none⟩)=.pointer (some ⟨g',0,none⟩)):g=g':=by
 injection h with h;injection h with h;injection h
section
variable {B:Nat} {w0 w:World} {N:Nat} {l:Slots} {bs:List Bx} {rs:List Rw} {K:Slots→List Bx→List Rw→World→Prop} {Q:Exit→Act→World→Prop} {a:Act} {id:Nat} {L:List Oper}
theorem fC{Lf:Nat→Bool}{i j:Nat}(h:j≠i):upd Lf i j=Lf j:=by
 have:(j == i)=false:=by simpa using h
 simp[upd,this]
theorem GA{Lf:Nat→Bool}{i:Nat}:upd Lf i i=true:=by simp[upd]
theorem KM{k:Nat}{slots:List Nat}{G:List Good}{d1 d2 yQ yP:Nat}{u1 u2 z1 z2:Value}{a1 a2 s1 s2:Oper}{t1 t2:TypeId}{y1 y2:Operand}{D1 D2:TD}
 (hL:L.length=k+4) (hnd:slots.Nodup) (hsl:slots.length=k+2) (hlt:∀ s∈slots,s<N)
 (hG:G.length=k) (WW:∀ g∈G,∃ v,g=kr v) (hst:kN Tryz.prog L.toArray slots G (aru w.heap.size w) a N (L.take k) G)
 (fP:ordered 0 L=true) (pX:∀ (i:Nat) (o:Oper),i<k+2→L[i]?=some o→slots[i]?=o.dst)
 (e1:L[k]?=some a1) (e2:L[k+1]?=some a2) (e3:L[k+2]?=some s1) (e4:L[k+3]?=some s2)
 (p1:a1.op=.alloc yQ) (p2:a2.op=.alloc yP) (p3:s1.op=.store t1 (.tmp d1) y1) (p4:s2.op=.store t2 (.tmp d2) y2)
 (g1:a1.guard=none) (g2:a2.guard=none) (g3:s1.guard=none) (g4:s2.guard=none) (q1:a1.dst=some d1) (q2:a2.dst=some d2) (q3:s1.dst=none) (q4:s2.dst=none)
 (hz1:(Tryz.prog.info? yQ).bind (·.zero)=some z1) (hz2:(Tryz.prog.info? yP).bind (·.zero)=some z2)
 (hD1:iV Tryz.prog t1 D1=true) (hD2:iV Tryz.prog t2 D2=true) (n1:(aW u1).length=iC D1) (n2:(aW z1).length=iC D1) (n3:(aW u2).length=iC D2) (n4:(aW z2).length=iC D2)
 (c1:(aW u1).all (·.oneCell')=true) (c2:(aW u2).all (·.oneCell')=true)
 (hy1:∀ (b:Act) (u:World) (Lf:Nat→Bool),PI L k slots G N a w d1 d2 yQ yP z1.cells z2.cells (aW u1).toArray (aW u2).toArray Lf b u→(∀ e∈s1.after.toList,Region.binds .any e=true→Lf e.on=true)→b.eval y1=u1∧Lf k=true)
 (hy2:∀ (b:Act) (u:World) (Lf:Nat→Bool),PI L k slots G N a w d1 d2 yQ yP z1.cells z2.cells (aW u1).toArray (aW u2).toArray Lf b u→(∀ e∈s2.after.toList,Region.binds .any e=true→Lf e.on=true)→b.eval y2=u2∧Lf (k+1)=true) :
 ∀ (i:Nat) (o:Oper),L[i]?=some o→∀ (Lf:Nat→Bool) (b:Act) (u:World) (Q':Exit→Act→World→Prop),PI L k slots G N a w d1 d2 yQ yP z1.cells z2.cells (aW u1).toArray (aW u2).toArray Lf b u→Lf i=false →
  (∀ e∈o.after.toList,Region.binds .any e=true→Lf e.on=true)→(∀ b u,PI L k slots G N a w d1 d2 yQ yP z1.cells z2.cells (aW u1).toArray (aW u2).toArray (upd Lf i) b u→Q' .normal b u)→wpList Tryz.prog L.toArray Q' [o] b u:=by
 have Wa:slots[k]?=some d1:=by rw[pX k a1 (by omega) e1,q1]
 have V_:slots[k+1]?=some d2:=by rw[pX (k+1) a2 (by omega) e2,q2]
 have ac2:∀ {i j s s':Nat},slots[i]?=some s→slots[j]?=some s'→i≠j→s≠s':=fun h1 h2 hne e=>hne (kT hnd (e▸h1) h2)
 have Yw:∀ (i:Nat) (g:Good),G[i]?=some g→i<k∧gN g:=fun i g hg=>⟨hG▸(arw.1 hg).1,by obtain⟨v,rfl⟩:=WW g (ars hg);exact aZ v⟩
 have hN:∀ {i s:Nat},slots[i]?=some s→s<N:=fun h=>hlt _ (ars h)
 have hin:∀ {i s:Nat},slots[i]?=some s→slots.contains s=true:=fun h=>by simpa using ars h
 have upT:∀ {Lf:Nat→Bool} {i j:Nat},Lf j=true→upd Lf i j=true:=fun h=>by simp[upd,h]
 have put:∀ {i s:Nat} {v:Value} {Lf:Nat→Bool} {b b':Act} {u u':World},PI L k slots G N a w d1 d2 yQ yP z1.cells z2.cells (aW u1).toArray (aW u2).toArray Lf b u→i<k+2→slots[i]?=some s→Lf i=false→Put b s v b'→aru u.heap.size u u' →
  (∀ g,G[i]?=some g→g v u')→(i=k→∃ g,v=.pointer (some ⟨g,0,none⟩)∧w.heap.size≤g∧Whole u' g yQ z1.cells∧u.heap.size≤g)→(i=k+1→∃ g,v=.pointer (some ⟨g,0,none⟩)∧w.heap.size≤g∧Whole u' g yP z2.cells∧u.heap.size≤g) →
  PI L k slots G N a w d1 d2 yQ yP z1.cells z2.cells (aW u1).toArray (aW u2).toArray (upd Lf i) b' u':=by
  intro i s v Lf b b' u u' I hi hs Vy hp hb hg hk1 hk2;have old:∀ {j s':Nat} {x:Value},slots[j]?=some s'→j≠i→At b s' x→At b' s' x:=fun h1 hne h2=>hp.old (by simpa using ac2 h1 hs hne) h2
  have hx2:upd Lf i (k+2)=Lf (k+2):=fC (by omega);have hx3:upd Lf i (k+3)=Lf (k+3):=fC (by omega);refine⟨hp.fr I.fr,I.inv.trans (hb.mono I.inv.size),?_,?_,?_,?_,?_,?_,?_⟩
  ·intro j hj Bb s' g hs' hg';by_cases hji:j=i
   ·subst hji;obtain rfl:s=s':=arp (hs.symm.trans hs');exact⟨v,hp.now,hg g hg'⟩
   ·rw[fC hji] at Bb;obtain⟨x,h1,h2⟩:=I.done j hj Bb s' g hs' hg';exact⟨x,old hs' hji h1,(Yw j g hg').2 _ _ _ h2 hb⟩
  ·intro j x hj hx;have:j≠s:=fun e=>by rw[e,hin hs] at hj;cases hj
   exact hp.old (by simpa using this) (I.rest j x hj hx)
  ·intro h;rw[hx2] at h;exact upT (I.o1 h)
  ·intro h;rw[hx3] at h;exact upT (I.o2 h)
  ·intro h;by_cases hik:i=k
   ·subst hik;obtain rfl:s=d1:=arp (hs.symm.trans Wa);obtain⟨g,rfl,h1,h2,-⟩:=hk1 rfl
    have h3:Lf (i+2)=false:=by
     cases h4:Lf (i+2) with
     | false=>rfl
     | true=>rw[I.o1 h4] at Vy;cases Vy
    exact⟨g,hp.now,h1,by rw[hx2,h3];exact h2⟩
   ·rw[fC (Ne.symm hik)] at h;obtain⟨g,h1,h2,h3⟩:=I.one h;exact⟨g,old Wa (Ne.symm hik) h1,h2,by rw[hx2];exact Whole.under hb h3 h3.lt⟩
  ·intro h;by_cases hik:i=k+1
   ·subst hik;obtain rfl:s=d2:=arp (hs.symm.trans V_);obtain⟨g,rfl,h1,h2,-⟩:=hk2 rfl
    have h3:Lf (k+3)=false:=by
     cases h4:Lf (k+3) with
     | false=>rfl
     | true=>rw[I.o2 h4] at Vy;cases Vy
    exact⟨g,hp.now,h1,by rw[hx3,h3];exact h2⟩
   ·rw[fC (Ne.symm hik)] at h;obtain⟨g,h1,h2,h3⟩:=I.two h;exact⟨g,old V_ (Ne.symm hik) h1,h2,by rw[hx3];exact Whole.under hb h3 h3.lt⟩
  ·intro ha hb' g h1 h2;by_cases hik:i=k
   ·subst hik;obtain rfl:s=d1:=arp (hs.symm.trans Wa);obtain⟨g',rfl,-,-,h5⟩:=hk1 rfl;rw[fC (by omega)] at hb';obtain⟨g2,h6,-,h7⟩:=I.two hb';obtain rfl:=qM (hp.now.Qn h1);obtain rfl:=qM ((old V_ (by omega) h6).Qn h2);have:=h7.lt;omega
   ·by_cases Z_:i=k+1
    ·subst Z_;obtain rfl:s=d2:=arp (hs.symm.trans V_);obtain⟨g',rfl,-,-,h5⟩:=hk2 rfl;rw[fC (by omega)] at ha;obtain⟨g2,h6,-,h7⟩:=I.one ha;obtain rfl:=qM (hp.now.Qn h2);obtain rfl:=qM ((old Wa (by omega) h6).Qn h1);have:=h7.lt;omega
    ·rw[fC (Ne.symm hik)] at ha;rw[fC (Ne.symm Z_)] at hb';obtain⟨x1,h3,-,-⟩:=I.one ha;obtain⟨x2,h4,-,-⟩:=I.two hb';obtain rfl:=qM ((old Wa (Ne.symm hik) h3).Qn h1);obtain rfl:=qM ((old V_ (Ne.symm Z_) h4).Qn h2);exact I.ne ha hb' _ h3 h4
 have sto:∀ {Lf:Nat→Bool} {b:Act} {u u':World} {i g:Nat},PI L k slots G N a w d1 d2 yQ yP z1.cells z2.cells (aW u1).toArray (aW u2).toArray Lf b u→w.heap.size≤g→wM u u' g→(i=k+2∧Lf k=true∧At b d1 (.pointer (some ⟨g,0,none⟩))∧Whole u' g yQ (aW u1).toArray)∨(i=k+3∧Lf (k+1)=true∧At b d2 (.pointer (some ⟨g,0,none⟩))∧Whole u' g yP (aW u2).toArray) →
  PI L k slots G N a w d1 d2 yQ yP z1.cells z2.cells (aW u1).toArray (aW u2).toArray (upd Lf i) b u':=by
  intro Lf b u u' i g I hg s hcase;refine⟨I.fr,I.inv.trans (s.below hg),?_,I.rest,?_,?_,?_,?_,?_⟩
  ·intro j hj Bb s' g' hs' hg';rw[fC (by rcases hcase with⟨rfl,-⟩|⟨rfl,-⟩<;>omega)] at Bb;obtain⟨x,h1,h2⟩:=I.done j hj Bb s' g' hs' hg';obtain⟨v,rfl⟩:=WW g' (ars hg');exact⟨x,h1,h2⟩
  ·intro h;rcases hcase with⟨rfl,hk,-⟩|⟨rfl,-⟩
   ·exact upT hk
   ·rw[fC (by omega)] at h;exact upT (I.o1 h)
  ·intro h;rcases hcase with⟨rfl,-⟩|⟨rfl,hk,-⟩
   ·rw[fC (by omega)] at h;exact upT (I.o2 h)
   ·exact upT hk
  ·intro h;rcases hcase with⟨rfl,hk,hat,hW⟩|⟨rfl,hk,hat,hW⟩
   ·exact⟨g,hat,hg,by rw[GA,if_pos rfl];exact hW⟩
   ·rw[fC (by omega)] at h;obtain⟨x,h1,h2,h3⟩:=I.one h;refine⟨x,h1,h2,?_⟩;rw[fC (by omega)];exact s.whole h3 fun e=>I.ne h hk x h1 (e▸hat)
  ·intro h;rcases hcase with⟨rfl,hk,hat,hW⟩|⟨rfl,hk,hat,hW⟩
   ·rw[fC (by omega)] at h;obtain⟨x,h1,h2,h3⟩:=I.two h;refine⟨x,h1,h2,?_⟩;rw[fC (by omega)];exact s.whole h3 fun e=>I.ne hk h x (e▸hat) h1
   ·exact⟨g,hat,hg,by rw[GA,if_pos rfl];exact hW⟩
  ·intro h1 h2;have hne:k≠i∧k+1≠i:=by rcases hcase with⟨rfl,-⟩|⟨rfl,-⟩<;>omega
   rw[fC hne.1] at h1;rw[fC hne.2] at h2;exact I.ne h1 h2
 intro i o ho Lf b u Q' I Vy jJ hK;have hil:=(arw.1 ho).1;rw[hL] at hil;by_cases hik:i<k
 ·obtain⟨s,hs⟩:∃ s,slots[i]?=some s:=⟨_,arJ (by omega)⟩;have hd:o.dst=some s:=by rw[← pX i o (by omega) ho,hs]
  refine EX (L.take k) G hst i o (by rw[List.getElem?_take,if_pos hik];exact ho) b u Q' I.fr I.inv (fun j ⟨gr,hj,hb⟩ s g hs hg=>?_) I.rest ?_
  ·have hji:j<i:=by have:=kS 0 L fP i o ho _ hj hb;simpa using this
   exact I.done j (by omega) (jJ _ hj hb) s g hs hg
  ·intro v b' u' hb hg hp;rw[hd] at hp;exact hK b' u' (put I (by omega) hs Vy hp hb (fun g h=>hg g h) (fun e=>by omega) (fun e=>by omega))
 ·by_cases h0:i=k
  ·subst h0;obtain rfl:a1=o:=arp (e1.symm.trans ho);exact zM (f:=fun n=>.pointer (some ⟨n,0,none⟩)) (jF g1) (uy p1 hz1) q1 I.fr (hN Wa) fun g b' u' n p=>arB (hK _ _ (put I (by omega) Wa Vy p n.below (fun g' hg'=>absurd (Yw _ _ hg').1 (by omega)) (fun _=>⟨g,rfl,n.at_▸I.inv.size,n.whole,n.at_▸Nat.le_refl _⟩) (fun e=>by omega)))
  ·by_cases h1:i=k+1
   ·subst h1;obtain rfl:a2=o:=arp (e2.symm.trans ho);exact zM (f:=fun n=>.pointer (some ⟨n,0,none⟩)) (jF g2) (uy p2 hz2) q2 I.fr (hN V_) fun g b' u' n p=>arB (hK _ _ (put I (by omega) V_ Vy p n.below (fun g' hg'=>absurd (Yw _ _ hg').1 (by omega)) (fun e=>by omega) (fun _=>⟨g,rfl,n.at_▸I.inv.size,n.whole,n.at_▸Nat.le_refl _⟩)))
   ·by_cases h2:i=k+2
    ·subst h2;obtain rfl:s1=o:=arp (e3.symm.trans ho);obtain⟨hv,hk⟩:=hy1 b u Lf I jJ;obtain⟨g,hat,hge,hW⟩:=I.one hk;rw[Vy] at hW;have hsz:z1.cells.size=(aW u1).length:=by rw[← Array.length_toList,kM,n2,n1]
     exact oQ (jF g3) p3 hat.ev hv hW (kM u1) (by rw[Nat.zero_add,if_neg (by decide),hsz];exact Nat.le_refl _) ((yR hD1).trans (by rw[n1])) c1 rfl q3 fun u' s hW'=>arB (hK _ _ (sto I hge s (.inl ⟨rfl,hk,hat,by rw[if_neg (by decide)] at hW';rw[kI _ _ hsz] at hW';exact hW'⟩)))
    ·obtain rfl:i=k+3:=by omega
     obtain rfl:s2=o:=arp (e4.symm.trans ho);obtain⟨hv,hk⟩:=hy2 b u Lf I jJ;obtain⟨g,hat,hge,hW⟩:=I.two hk;rw[Vy] at hW;have hsz:z2.cells.size=(aW u2).length:=by rw[← Array.length_toList,kM,n4,n3]
     exact oQ (jF g4) p4 hat.ev hv hW (kM u2) (by rw[Nat.zero_add,if_neg (by decide),hsz];exact Nat.le_refl _) ((yR hD2).trans (by rw[n3])) c2 rfl q4 fun u' s hW'=>arB (hK _ _ (sto I hge s (.inr ⟨rfl,hk,hat,by rw[if_neg (by decide)] at hW';rw[kI _ _ hsz] at hW';exact hW'⟩)))
end
def slK:Nat→List Oper→(List Nat→Prop)→Prop
 | 0,_,f=>f []
 | k+1,o::r,f=>(match o.dst with|some d=>slK k r fun s=>f (d::s)|none=>False)
 | _+1,[],_=>False
theorem Kp:∀ {k:Nat} {L:List Oper} {f:List Nat→Prop},slK k L f→k≤L.length∧(L.take k).map (fun o=>o.dst)=(gE k L).map some∧f (gE k L)
 | 0,_,_,h=>⟨Nat.zero_le _,by simp[gE],by simpa[gE,slK] using h⟩
 | k+1,o::r,f,h=>by
  unfold slK at h;split at h
  ·rename_i d hd;obtain⟨h1,h2,h3⟩:=Kp h;have e:gE (k+1) (o::r)=d::gE k r:=by simp[gE,hd]
   rw[e];exact⟨by simpa using h1,by simp[hd,h2],h3⟩
  ·exact h.elim
 | _+1,[],_,h=>h.elim
def vr(B:Nat)(w0:World)(N:Nat)(L:List Oper)(l:Slots)(bs:List Bx)(rs:List Rw)(w:World)(K:Slots→List Bx→List Rw→World→Prop):Prop:=
 ad3 N L (dkN false [] L)=true∧slK (dkN false [] L) L fun ds=>Uy ds l fun l'=>vd B w0 N l' bs rs w (vF B w0 N l' bs rs w K) (dkN false [] L) L 0 [] none [] false
section
variable {B:Nat} {w0 w:World} {N:Nat} {l:Slots} {bs:List Bx} {rs:List Rw} {K:Slots→List Bx→List Rw→World→Prop} {Q:Exit→Act→World→Prop} {a:Act} {id:Nat} {L:List Oper}
theorem Qz{m:List fG}{n:Nat}(h:iL m n){d j:Nat}(hj:j<n)(hu:∀ e∈m,e.j≠j){v:Value}:iL (⟨d,j,[],true,v⟩::m) n:=by
 have key:∀ x,(∃ e∈m,e.j=x.1)→(Cond (⟨d,j,[],true,v⟩::m) x↔Cond m x):=fun x ⟨e',h4,h5⟩=>by
  constructor
  ·rintro⟨e,he,h1,h2,h3⟩;rcases arl.1 he with rfl|he
   ·exact absurd (h5.trans h1.symm) (hu e' h4)
   ·exact⟨e,he,h1,h2,h3⟩
  ·rintro⟨e,he,h1⟩;exact⟨e,arn _ he,h1⟩
 refine⟨?_,?_,?_,?_⟩
 ·intro e he;rcases arl.1 he with rfl|he
  ·exact hj
  ·exact h.lt e he
 ·intro e he e' he' hjj;rcases arl.1 he with rfl|he<;>rcases arl.1 he' with rfl|he'
  ·rfl
  ·exact absurd hjj.symm (hu e' he')
  ·exact absurd hjj (hu e he)
  ·exact h.uniq e he e' he' hjj
 ·intro e he x hx;rcases arl.1 he with rfl|he
  ·cases hx
  ·obtain⟨e',h1,h2⟩:=h.pm e he x hx;exact⟨e',arn _ h1,h2⟩
 ·intro e he;rcases arl.1 he with rfl|he
  ·simp
  ·rw[h.tv e he];exact⟨fun h' x hx=>(key x (h.pm e he x hx)).2 (h' x hx),fun h' x hx=>(key x (h.pm e he x hx)).1 (h' x hx)⟩
theorem abZ(F:Fs a N l)(M:aV B w0 w bs rs)(h:vr B w0 N L l bs rs w K)(next:∀ a l' bs' rs' w',Fs a N l'→aV B w0 w' bs' rs'→K l' bs' rs' w'→Q .normal a w'):(Code.region id L.toArray true).wp Tryz.prog Q a w:=by
 obtain⟨hok,h⟩:=h;obtain⟨hkl,hsl,h⟩:=Kp h;obtain⟨l',h,hlk⟩:=Bg h;generalize dkN false [] L=k at hok hkl hsl h hlk;generalize jc:gE k L=slots at hsl h hlk;unfold ad3 at hok;simp only[arD,decide_eq_true_eq,arC,jc] at hok;obtain⟨fP,htail,pX,jJ,hbd,hnd⟩:=hok
 have hlen:slots.length=k:=by
  have:=congrArg List.length hsl;simp only[arH,arE] at this;omega
 have hat:∀ (i:Nat) (o:Oper),(L.take k)[i]?=some o→slots[i]?=o.dst:=fun i o hi=>by
  have h1:=congrArg (fun x=>x[i]?) hsl;simp only[arx,hi,Option.map_some] at h1
  cases hs:slots[i]? with
  | none=>rw[hs] at h1;cases h1
  | some s=>rw[hs] at h1;exact(arp h1).symm
 have q_:∀ (i s:Nat),slots[i]?=some s→(L.toArray[i]?).bind (fun o=>o.dst)=some s:=fun i s hs=>by
  have hi:i<k:=hlen▸(arw.1 hs).1;have hiL:i<L.length:=Nat.lt_of_lt_of_le hi hkl;have h1:(L.take k)[i]?=some L[i]:=by rw[List.getElem?_take,if_pos hi,arJ hiL]
  have h2:=hat i _ h1;rw[hs] at h2;simp[hiL,← h2]
 have hl':∀ q v,look q l'=some v→slots.contains q=false∧look q l=some v:=fun q v hq=>by
  rw[hlk] at hq
  cases hm:iO q slots with
  | true=>rw[hm] at hq;cases hq
  | false=>
   rw[hm] at hq;refine⟨?_,hq⟩
   cases hc:slots.contains q with
   | false=>rfl
   | true=>
    have:q∈slots:=by simpa using hc
    rw[mY.2 this] at hm;cases hm
 have F0:Fs a N l':=⟨F.fr,fun q v hq=>F.at_ q v (hl' q v hq).2⟩
 obtain⟨G,m,al,rel,us,hla,Yw,hst,hF,hv⟩:=XS (ops:=L.toArray) M hnd q_ (fun q v hq=>(hl' q v hq).1) F0 (gp:=[]) h ⟨⟨.nil 0,rfl,by simp⟩,(fun _ h=>by cases h),(fun _ _ i h=>absurd h (Nat.not_lt_zero i)),(fun _ h=>by cases h),.nil⟩
  (fun i o hi=>⟨jJ o (ars hi),by rw[Nat.zero_add];exact hat i o hi⟩) hkl trivial
 rw[List.nil_append] at hla hst hF;rw[Nat.zero_add] at hF hv;refine oP k slots G (aru w.heap.size w) (by kernel_rfl) fP htail hsl hnd (by simpa using hbd) (by rw[Yw,hlen]) F.fr (Below.refl _ _).drew (fun _ _ h hb=>h.trans (hb.mono h.size)) hla ?_ ?_
 ·exact hst
 ·intro a' w' D;have hgood:∀ (i s:Nat) (g:Good),slots[i]?=some s→G[i]?=some g→∃ v,At a' s v∧g v w':=fun i s g hs hg=>D.done i rfl s g hs hg
  have I0:Inv L.toArray a' N l' m k:=by
   refine⟨D.fr,hF.D.L,fun e he=>q_ _ _ (hF.D.at_ e he).1,fun e he=>?_,fun q v _ hq=>D.rest q v (hl' q v hq).1 (F0.at_ q v hq)⟩;obtain⟨v,h1,rfl⟩:=hgood _ _ _ (hF.D.at_ e he).1 (hF.D.at_ e he).2;exact h1
  have hrest:∀ i o,(L.drop k)[i]?=some o→L.toArray[k+i]?=some o:=fun i o hi=>by simpa using hi
  have hput:∀ {m':List fG} {d j:Nat} {v:Value},Inv L.toArray a' N l' m' k→j<k→(∀ e∈m',e.j≠j)→slots[j]?=some d→At a' d v→Inv L.toArray a' N l' (⟨d,j,[],true,v⟩::m') k:=by
   intro m' d j v I0 c4 c5 c1 h1;refine⟨I0.fr,Qz I0.L c4 c5,?_,?_,?_⟩
   ·intro e he;rcases arl.1 he with rfl|he
    ·exact q_ _ _ c1
    ·exact I0.dst e he
   ·intro e he;rcases arl.1 he with rfl|he
    ·exact h1
    ·exact I0.at_ e he
   ·intro q u hq hl;exact I0.base q u (fun e he=>hq e (arn _ he)) hl
  have hfin:∀ {rel':List kB} {m':List fG} {P:Option (World→Prop)} {f:List fG→Option (World→Prop)→Prop},Inv L.toArray a' N l' m' k→(∀ A∈rel',A.j<k∧slots[A.j]?=some A.d∧(∀ e∈m',e.j≠A.j)∧(∀ C,al=some C→C.j≠A.j)∧∃ u,At a' A.d u∧A.R u w')→(rel'.map (·.j)).Nodup→(∀ C,al=some C→∀ e∈m',e.j≠C.j)→(∀ p,P=some p→p w')→Zv rel' m' P f →
   ∃ m'' P',f m'' P'∧(∀ p,P'=some p→p w')∧Inv L.toArray a' N l' m'' k∧∀ C,al=some C→∀ e∈m'',e.j≠C.j:=by
   intro rel'
   induction rel' with
   | nil=>intro m' P f I _ _ hC hP h;exact⟨m',P,h,hP,I,hC⟩
   | cons A r ih=>
    intro m' P f I hA hn hC hP h;obtain⟨d,j,R⟩:=A;obtain⟨hfr,h⟩:=bC h;obtain⟨b4,b1,b5,b6,u,k1,k2⟩:=hA _ (arq ..);rw[List.map_cons,List.nodup_cons] at hn;refine ih (hput I b4 b5 b1 k1) (fun A' hA'=>?_) hn.2 (fun C hC' e he=>?_) (fun p hp=>?_) (h u)
    ·obtain⟨c4,c1,c5,c6,c7⟩:=hA A' (arn _ hA');refine⟨c4,c1,fun e he=>?_,c6,c7⟩;rcases arl.1 he with rfl|he
     ·exact fun e=>hn.1 (aro.2 ⟨A',hA',e.symm⟩)
     ·exact c5 e he
    ·rcases arl.1 he with rfl|he
     ·exact fun e=>b6 C hC' e.symm
     ·exact hC C hC' e he
    ·cases P with
     | none=>obtain rfl:=arp hp;exact k2
     | some q=>obtain rfl:=arp hp;exact⟨k2,hP q rfl⟩
  obtain⟨m',P',k1,k2,I1,hC⟩:=hfin I0 (fun A hA=>by
   obtain⟨b1,b2,b4,b5,b6⟩:=hF.KC A hA;exact⟨b4,b1,b5,b6,hgood _ _ _ b1 b2⟩) hF.vH (fun C hC e he=>(hF.al_ C hC).2.2.2.2 e he) (fun _ h=>by cases h) hv
  cases al with
  | none=>exact DX hrest I1 (M.keep D.inv) (uf (k1 w') k2 D.inv (M.keep D.inv)) next
  | some A=>
   obtain⟨d,j,ty,cs,s⟩:=A;obtain⟨c1,c2,c3,c4,c5⟩:=hF.al_ _ rfl;obtain⟨hfr,k1⟩:=bC k1;obtain⟨v,h1,g,rfl,h2,h3⟩:=hgood _ _ _ c1 c2;have M':=M.newAt D.inv h2 h3 c3;exact DX hrest (hput I1 c4 (hC _ rfl) c1 h1) M' (uf (k1 g w') k2 D.inv M') next
end
def kP:List Oper→Nat
 | _::y::z::u::v::r=>kP (y::z::u::v::r)+1
 | _=>0
def vp(B:Nat)(w0:World)(N:Nat)(L:List Oper)(l:Slots)(bs:List Bx)(rs:List Rw)(w:World)(K:Slots→List Bx→List Rw→World→Prop):Prop:=
 aco N L (kP L)=true∧slK (kP L+2) L fun ds=>Uy ds l fun l'=>vd B w0 N l' bs rs w (vP B w0 N l' bs rs w K) (kP L) L 0 [] none [] false
section
variable {B:Nat} {w0 w:World} {N:Nat} {l:Slots} {bs:List Bx} {rs:List Rw} {K:Slots→List Bx→List Rw→World→Prop} {Q:Exit→Act→World→Prop} {a:Act} {id:Nat} {L:List Oper}
theorem HY{P:Program}{ops:Array Oper}{I:(Nat→Bool)→Act→World→Prop}{l:List Oper}
 (h:∀ (i:Nat) (o:Oper),l[i]?=some o→∀ (Lf:Nat→Bool) (b:Act) (u:World) (Q':Exit→Act→World→Prop),I Lf b u→Lf i=false→(∀ e∈o.after.toList,Region.binds .any e=true→Lf e.on=true)→(∀ b u,I (upd Lf i) b u→Q' .normal b u)→wpList P ops Q' [o] b u) :
 ∀ (r:List Oper) (m:Nat),(∀ i o,r[i]?=some o→l[m+i]?=some o)→lF P ops I m r:=by
 intro r
 induction r with
 | nil=>intro m _;trivial
 | cons o r ih=>
  intro m hr;refine⟨h m o (hr 0 o rfl),ih (m+1) fun i o' ho'=>?_⟩;have:=hr (i+1) o' (by simpa using ho')
  rwa [show m+1+i=m+(i+1) by omega]
theorem ab0(F:Fs a N l)(M:aV B w0 w bs rs)(h:vp B w0 N L l bs rs w K)(next:∀ a l' bs' rs' w',Fs a N l'→aV B w0 w' bs' rs'→K l' bs' rs' w'→Q .normal a w'):(Code.region id L.toArray true).wp Tryz.prog Q a w:=by
 obtain⟨hok,h⟩:=h;obtain⟨hkl,hsl,h⟩:=Kp h;obtain⟨l',h,hlk⟩:=Bg h;generalize kP L=k at hok hkl hsl h hlk;generalize jc:gE (k+2) L=slots at hsl h hlk;unfold aco at hok;simp only[arD,decide_eq_true_eq,arC,jc] at hok;obtain⟨fP,pX,jJ,hbd,hnd,hlen,hgd,N9⟩:=hok
 have Yf:slots.length=k+2:=by
  have:=congrArg List.length hsl;simp only[arH,arE] at this;omega
 have Uc:∀ (i:Nat) (o:Oper),i<k+2→L[i]?=some o→slots[i]?=o.dst:=fun i o hi ho=>by
  have h1:=congrArg (fun x=>x[i]?) hsl;simp only[arx,List.getElem?_take,if_pos hi,ho,Option.map_some] at h1
  cases hs:slots[i]? with
  | none=>rw[hs] at h1;cases h1
  | some s=>rw[hs] at h1;exact(arp h1).symm
 have q_:∀ (i s:Nat),slots[i]?=some s→(L.toArray[i]?).bind (fun o=>o.dst)=some s:=fun i s hs=>by
  have hi:i<k+2:=Yf▸(arw.1 hs).1;have hiL:i<L.length:=by omega
  have h2:=Uc i _ hi (arJ hiL);rw[hs] at h2;simp[hiL,← h2]
 have hl':∀ q v,look q l'=some v→slots.contains q=false∧look q l=some v:=fun q v hq=>by
  rw[hlk] at hq
  cases hm:iO q slots with
  | true=>rw[hm] at hq;cases hq
  | false=>
   rw[hm] at hq;refine⟨?_,hq⟩
   cases hc:slots.contains q with
   | false=>rfl
   | true=>
    have:q∈slots:=by simpa using hc
    rw[mY.2 this] at hm;cases hm
 have F0:Fs a N l':=⟨F.fr,fun q v hq=>F.at_ q v (hl' q v hq).2⟩
 obtain⟨G,m,al,rel,us,hla,Yw,hst,hF,hv⟩:=XS (ops:=L.toArray) M hnd q_ (fun q v hq=>(hl' q v hq).1) F0 (gp:=[]) h ⟨⟨.nil 0,rfl,by simp⟩,(fun _ h=>by cases h),(fun _ _ i h=>absurd h (Nat.not_lt_zero i)),(fun _ h=>by cases h),.nil⟩
  (fun i o hi=>⟨jJ o (ars hi),by
   have hik:i<k:=by have:=(arw.1 hi).1;rw[arE] at this;omega
   rw[Nat.zero_add];exact Uc i o (by omega) (by rw[List.getElem?_take,if_pos hik] at hi;exact hi)⟩) (by omega) trivial
 rw[List.nil_append] at hla hst hF;rw[Nat.zero_add] at hF hv;replace hv:vP B w0 N l' bs rs w K (L.drop k) k m al rel us:=hv;unfold vP at hv;split at hv
 case h_2=>exact hv.elim
 rename_i a1 a2 s1 s2 Ym;split at hv
 case h_2=>exact hv.elim
 rename_i yQ yP t1 x1 y1 t2 x2 y2 p1 p2 p3 p4;obtain⟨d1,q1,b1,b1',hv⟩:=gM hv;obtain⟨d2,q2,b2,b2',hv⟩:=gM hv;obtain⟨hx1,hv⟩:=bC hv;obtain⟨hx2,hv⟩:=bC hv;obtain rfl:=arG hx1;obtain rfl:=arG hx2;split at hv
 case h_2=>exact hv.elim
 rename_i q3 q4;obtain⟨z1,z2,⟨hz1,hz2⟩,hv⟩:=hv;obtain⟨u1,r1,hv⟩:=bQ hv;obtain⟨u2,r2,hv⟩:=bQ hv;obtain⟨D1,hD1,hv⟩:=jB hv;obtain⟨D2,hD2,hv⟩:=jB hv;obtain⟨t9,hv⟩:=bC hv;obtain⟨t9',hv⟩:=bC hv;obtain⟨n1,hv⟩:=gV hv;obtain⟨n2,hv⟩:=gV hv;obtain⟨n3,hv⟩:=gV hv;obtain⟨n4,⟨c1,c2⟩,hv⟩:=gV hv;have at_:∀ i o,(L.drop k)[i]?=some o→L[k+i]?=some o:=fun i o hi=>by simpa using hi
 rw[Ym] at at_ hgd;have e1:=at_ 0 a1 rfl;have e2:=at_ 1 a2 rfl;have e3:=at_ 2 s1 rfl;have e4:=at_ 3 s2 rfl;have g1:a1.guard=none:=by have:=hgd a1 (by simp);simpa[pOp] using this
 have g2:a2.guard=none:=by have:=hgd a2 (by simp);simpa[pOp] using this
 have g3:s1.guard=none:=by have:=hgd s1 (by simp);simpa[pOp] using this
 have g4:s2.guard=none:=by have:=hgd s2 (by simp);simpa[pOp] using this
 have hd2:L.drop (k+2)=[s1,s2]:=by rw[← List.drop_drop,Ym];rfl
 rw[hd2] at N9
 have WW:∀ g∈G,∃ v,g=kr v:=fun g hg=>by
  obtain⟨i,hi⟩:=List.getElem?_of_mem hg;obtain⟨e,he,rfl⟩:=hF.cov rfl rfl i (Yw▸(arw.1 hi).1);have:=(hF.D.at_ e he).2;rw[hi] at this;exact⟨_,arp this⟩
 have Wa:slots[k]?=some x1:=by rw[Uc k a1 (by omega) e1,q1]
 have V_:slots[k+1]?=some x2:=by rw[Uc (k+1) a2 (by omega) e2,q2]
 have ev:∀ {y:Operand} {u:Value} {s:Oper},DH l' m [] y u→s∈[s1,s2]→y∈gT s.op→∀ (b:Act) (u':World) (Lf:Nat→Bool),PI L k slots G N a w x1 x2 yQ yP z1.cells z2.cells (aW u1).toArray (aW u2).toArray Lf b u'→(∀ e∈s.after.toList,Region.binds .any e=true→Lf e.on=true)→b.eval y=u:=by
  intro y u s H8 hs hy b u' Lf I hdp
  cases y with
  | tmp q=>
   rcases H8 with⟨e,he,rfl,rfl,hsub⟩|⟨h1,h2⟩
   ·have ht:e.t=true:=(hF.D.L.tv e he).2 fun y hy=>absurd (yT hsub y hy) (by simp)
    obtain⟨f1,f2⟩:=hF.D.at_ e he;obtain⟨gr,f3,f4⟩:=EY (N9 s hs) hnd f1 hy;obtain⟨v,f5,rfl⟩:=I.done e.j (hF.D.L.lt e he) (hdp _ f3 f4) _ _ f1 f2;exact(f5.on ht).ev
   ·exact(I.rest q u (hl' q u h2).1 (F0.at_ q u h2)).ev
  | const c=>exact H8
  | global=>exact H8.elim
  | func f=>exact H8
 refine jl (by kernel_rfl) fP (PI L k slots G N a w x1 x2 yQ yP z1.cells z2.cells (aW u1).toArray (aW u2).toArray) ?_ (HY (KM hlen hnd Yf (fun s hs=>by simpa using hbd s hs) Yw WW hst fP Uc e1 e2 e3 e4 p1 p2 p3 p4 g1 g2 g3 g4 q1 q2 q3 q4 hz1 hz2 hD1 hD2 n1 n2 n3 n4 c1 c2
  (fun b u Lf I hdp=>⟨ev r1 (by simp) (by rw[p3];simp[gT]) b u Lf I hdp,by obtain⟨gr,f3,f4⟩:=EY (N9 s1 (by simp)) hnd Wa (by rw[p3];simp[gT]);exact hdp _ f3 f4⟩)
  (fun b u Lf I hdp=>⟨ev r2 (by simp) (by rw[p4];simp[gT]) b u Lf I hdp,by obtain⟨gr,f3,f4⟩:=EY (N9 s2 (by simp)) hnd V_ (by rw[p4];simp[gT]);exact hdp _ f3 f4⟩)) L 0 (fun i o ho=>by simpa using ho)) ?_
 ·exact⟨F.fr,(Below.refl _ _).drew,(fun _ _ h=>by cases h),fun _ _ _ h=>h,(fun h=>by cases h),(fun h=>by cases h),(fun h=>by cases h),(fun h=>by cases h),fun h=>by cases h⟩
 ·intro Lf a' w' I hall;obtain⟨v1,f1,f2,f3⟩:=I.one (hall _ (by omega));obtain⟨v2,f4,f5,f6⟩:=I.two (hall _ (by omega));rw[if_pos (hall _ (by omega))] at f3 f6;have hne:v1≠v2:=fun e=>I.ne (hall _ (by omega)) (hall _ (by omega)) v1 f1 (e▸f4)
  have M':aV B w0 w' ((v1,yQ,(aW u1).toArray)::(v2,yP,(aW u2).toArray)::bs) rs:=M.En I.inv (b1:=(v1,yQ,(aW u1).toArray)) (b2:=(v2,yP,(aW u2).toArray)) (.inl ⟨t9,f3⟩) f2 (.inl ⟨t9',f6⟩) f5 hne
  have I0:Inv L.toArray a' N l' m k:=by
   refine⟨I.fr,hF.D.L,fun e he=>q_ _ _ (hF.D.at_ e he).1,fun e he=>?_,fun q v _ hq=>I.rest q v (hl' q v hq).1 (F0.at_ q v hq)⟩;obtain⟨v,h1,rfl⟩:=I.done e.j (hF.D.L.lt e he) (hall _ (by have:=hF.D.L.lt e he;omega)) _ _ (hF.D.at_ e he).1 (hF.D.at_ e he).2;exact h1
  obtain⟨l'',k1,F'⟩:=I0.fsK (hv v1 v2 w' I.inv M');exact next _ _ _ _ _ ((F'.add f4).add f1) M' k1
end
abbrev KK:=Exit→Slots→List Bx→List Rw→World→Prop
def doK:List Oper→List Nat→(List Nat→Prop)→Prop
 | [],acc,f=>f acc
 | o::r,acc,f=>(match o.dst with|some d=>doK r (d::acc) f|none=>doK r acc f)
theorem U4{f:List Nat→Prop}:∀ {L:List Oper} {acc:List Nat},doK L acc f→∃ ds,f ds
 | [],acc,h=>⟨acc,h⟩
 | o::r,acc,h=>by
  unfold doK at h;split at h<;>exact U4 h
def Xk:Code→List Nat→(List Nat→Prop)→Prop
 | .region _ ops _,acc,f=>doK ops.toList acc f
 | .seq a b,acc,f=>Xk a acc fun acc=>Xk b acc f
 | .cond _ a b,acc,f=>Xk a acc fun acc=>Xk b acc f
 | .block _ c,acc,f=>Xk c acc f
 | .loop c,acc,f=>Xk c acc f
 | _,acc,f=>f acc
theorem qq:∀ {c:Code} {acc:List Nat} {f:List Nat→Prop},Xk c acc f→∃ ds,f ds
 | .region _ _ _,_,_,h=>U4 h
 | .seq a b,_,_,h=>by obtain⟨_,h⟩:=qq (c:=a) h;exact qq (c:=b) h
 | .cond _ a b,_,_,h=>by obtain⟨_,h⟩:=qq (c:=a) h;exact qq (c:=b) h
 | .block _ c,_,_,h=>qq (c:=c) h
 | .loop c,_,_,h=>qq (c:=c) h
 | .skip,_,_,h=>⟨_,h⟩
 | .rangeFunc _ _ _ _,_,_,h=>⟨_,h⟩
 | .exit _,_,_,h=>⟨_,h⟩
 | .scope _,_,_,h=>⟨_,h⟩
 | .label _,_,_,h=>⟨_,h⟩
 | .goto _,_,_,h=>⟨_,h⟩
 | .ret,_,_,h=>⟨_,h⟩
 | .refuse _,_,_,h=>⟨_,h⟩
def Yb:List Nat→Slots→(Slots→Prop)→Prop
 | _,[],f=>f []
 | ds,(s,v)::r,f=>bif iO s ds then Yb ds r f else Yb (s::ds) r fun l=>f ((s,v)::l)
theorem vW:∀ {l:Slots} {ds:List Nat} {f:Slots→Prop},Yb ds l f→∃ l',f l'∧(∀ q v,look q l'=some v→look q l=some v)∧∀ q∈ds,look q l'=none
 | [],ds,f,h=>⟨[],h,fun _ _ h=>h,fun _ _=>rfl⟩
 | (s,v)::r,ds,f,h=>by
  unfold Yb at h
  cases hm:iO s ds with
  | true=>
   rw[hm] at h;obtain⟨l',h1,h2,h3⟩:=vW h;refine⟨l',h1,fun q u hq=>?_,h3⟩;rw[bB]
   cases e:q == s with
   | true=>
    have e':q=s:=by simpa using e
    rw[h3 q (e'▸mY.1 hm)] at hq;cases hq
   | false=>exact h2 q u hq
  | false=>
   rw[hm] at h;obtain⟨l',h1,h2,h3⟩:=vW h;refine⟨_,h1,fun q u hq=>?_,fun q hq=>?_⟩
   ·rw[bB] at hq ⊢
    cases e:q == s with
    | true=>rw[e] at hq;exact hq
    | false=>rw[e] at hq;exact h2 q u hq
   ·rw[bB]
    cases e:q == s with
    | true=>
     have e':q=s:=by simpa using e
     rw[mY.2 (e'▸hq)] at hm;cases hm
    | false=>exact h3 q (arn _ hq)
def apS:Slots→Slots→Slots
 | [],r=>r
 | x::l,r=>x::apS l r
theorem Hr{q:Nat}{r:Slots}:∀ {l:Slots} {v:Value},look q (apS l r)=some v→look q l=some v∨look q r=some v
 | [],_,h=>.inr h
 | (s,u)::l,v,h=>by
  rw[apS,bB] at h;rw[bB]
  cases e:q == s with
  | true=>rw[e] at h;exact .inl h
  | false=>rw[e] at h;exact Hr h
theorem Fs.kept{a:Act}{N:Nat}{l C kl:Slots}(F:Fs a N l)(hs:Sub l C)(hk:∀ q v,look q kl=some v→look q l=some v):Fs a N (apS C kl):=by
 refine⟨F.fr,fun q v h=>?_⟩;rcases Hr h with h|h
 ·exact(F.sub hs).at_ q v h
 ·exact F.at_ q v (hk q v h)
def fid:Code→Option Nat
 | .region id _ _=>some id
 | .seq a b=>(match fid a with|some i=>some i|none=>fid b)
 | .block _ c=>fid c
 | .loop c=>fid c
 | .cond _ a _=>fid a
 | _=>none
def jn(i:Option Nat)(J:List Nat):Bool:=match i with
 | some i=>iO i J
 | none=>false
def inS(B:Nat)(w0:World){ι:Type}(C:ι→Slots)(yI:ι→List Bx)(uU:ι→List Rw)(R:ι→World→Prop)(l:Slots)(bs:List Bx)(rs:List Rw)(w:World)(x:ι):Prop:=
 Sub l (C x)∧(aV B w0 w bs rs→aV B w0 w (yI x) (uU x)∧R x w)
section
variable (B:Nat) (w0:World) (N:Nat) (J:List Nat)
def RY:Code→Slots→List Bx→List Rw→World→KK→Prop
 | .skip,l,bs,rs,w,K=>K .normal l bs rs w
 | .label _,l,bs,rs,w,K=>K .normal l bs rs w
 | .exit id,l,bs,rs,w,K=>K (.exit id) l bs rs w
 | .ret,l,bs,rs,w,K=>K .ret l bs rs w
 | .region id ops dr,l,bs,rs,w,K=>(match dr with
  | false=>vc B w0 N l ops.toList 0 [] bs rs w (K .normal)
  | true=>vr B w0 N ops.toList l bs rs w (K .normal)∨vp B w0 N ops.toList l bs rs w (K .normal) ∨
   (∀ (a:Act) (Q:Exit→Act→World→Prop),Fs a N l→aV B w0 w bs rs→(∀ a' l' bs' rs' w',Fs a' N l'→aV B w0 w' bs' rs'→K .normal l' bs' rs' w'→Q .normal a' w')→(Code.region id ops true).wp Tryz.prog Q a w))
 | .seq x y,l,bs,rs,w,K=>bif jn (fid y) J then
  Xk x [] fun ds=>Yb ds l fun kl=>∃ (ι:Type) (C:ι→Slots) (yI:ι→List Bx) (uU:ι→List Rw) (R:ι→World→Prop),
   RY x l bs rs w (fun e l' bs' rs' w'=>match e with
    | .normal=>Yb ds l' fun kl'=>kl'=kl∧∃ x,inS B w0 C yI uU R l' bs' rs' w' x
    | e=>K e l' bs' rs' w') ∧
   ∀ x w',aV B w0 w' (yI x) (uU x)→R x w'→RY y (apS (C x) kl) (yI x) (uU x) w' K
  else RY x l bs rs w fun e l' bs' rs' w'=>match e with
   | .normal=>RY y l' bs' rs' w' K
   | e=>K e l' bs' rs' w'
 | .cond c x y,l,bs,rs,w,K=>pP l [] [] c fun v=>match v with
  | .bool b=>(b=true→RY x l bs rs w K)∧(b=false→RY y l bs rs w K)
  | _=>False
 | .block id c,l,bs,rs,w,K=>RY c l bs rs w fun e l' bs' rs' w'=>match e with
  | .exit i=>bif Nat.beq i id then K .normal l' bs' rs' w' else K (.exit i) l' bs' rs' w'
  | e=>K e l' bs' rs' w'
 | .loop c,l,bs,rs,w,K=>Xk c [] fun ds=>Yb ds l fun kl=>∃ (ι:Type) (C:ι→Slots) (yI:ι→List Bx) (uU:ι→List Rw) (R:ι→World→Prop) (μ:ι→Nat) (x:ι),
  inS B w0 C yI uU R l bs rs w x ∧
  ∀ x w',aV B w0 w' (yI x) (uU x)→R x w'→RY c (apS (C x) kl) (yI x) (uU x) w' fun e l' bs' rs' w''=>match e with
   | .normal=>Yb ds l' fun kl'=>kl'=kl∧∃ x',inS B w0 C yI uU R l' bs' rs' w'' x'∧μ x'<μ x
   | e=>K e l' bs' rs' w''
 | _,_,_,_,_,_=>False
end
theorem Y_{B:Nat}{w0:World}{N:Nat}{J:List Nat}:∀ {c:Code} {l:Slots} {bs:List Bx} {rs:List Rw} {w:World} {K:KK} {Q:Exit→Act→World→Prop} {a:Act},RY B w0 N J c l bs rs w K→Fs a N l→aV B w0 w bs rs →
 (∀ e a l bs rs w,Fs a N l→aV B w0 w bs rs→K e l bs rs w→Q e a w)→c.wp Tryz.prog Q a w:=by
 intro c
 induction c with
 | skip=>intro l bs rs w K Q a h F M hQ;exact wp_skip (hQ _ _ _ _ _ _ F M h)
 | label=>intro l bs rs w K Q a h F M hQ;exact wp_label (hQ _ _ _ _ _ _ F M h)
 | exit=>intro l bs rs w K Q a h F M hQ;exact wp_exit (hQ _ _ _ _ _ _ F M h)
 | ret=>intro l bs rs w K Q a h F M hQ;exact wp_ret (hQ _ _ _ _ _ _ F M h)
 | region id ops dr=>
  intro l bs rs w K Q a h F M hQ
  cases dr with
  | false=>exact wp_region_list (XT (ops:=ops) (fun i o hi=>by simpa using hi) (Inv.start F) M h fun a l' bs' rs' w' F' M' hk=>hQ _ _ _ _ _ _ F' M' hk)
  | true=>
   rcases h with h|h|h
   ·have:=abZ (id:=id) F M h (Q:=Q) fun a l' bs' rs' w' F' M' hk=>hQ _ _ _ _ _ _ F' M' hk
    rwa [Array.toArray_toList] at this
   ·have:=ab0 (id:=id) F M h (Q:=Q) fun a l' bs' rs' w' F' M' hk=>hQ _ _ _ _ _ _ F' M' hk
    rwa [Array.toArray_toList] at this
   ·exact h a Q F M fun a l' bs' rs' w' F' M' hk=>hQ _ _ _ _ _ _ F' M' hk
 | seq x y ihx ihy=>
  intro l bs rs w K Q a h F M hQ;unfold RY at h
  cases hj:jn (fid y) J with
  | false=>
   rw[hj] at h;refine wp_seq (ihx h F M fun e a l' bs' rs' w' F' M' hk=>?_)
   cases e with
   | normal=>exact ihy hk F' M' hQ
   | _=>exact hQ _ _ _ _ _ _ F' M' hk
  | true=>
   rw[hj] at h;obtain⟨ds,h⟩:=qq h;obtain⟨kl,⟨ι,C,yI,uU,R,h1,h2⟩,-,-⟩:=vW h;refine wp_seq (ihx h1 F M fun e a l' bs' rs' w' F' M' hk=>?_)
   cases e with
   | normal=>
    obtain⟨kl',⟨rfl,x,hs,hR⟩,hkl,-⟩:=vW hk;obtain⟨M',hR⟩:=hR M';exact ihy (h2 x w' M' hR) (F'.kept hs hkl) M' hQ
   | _=>exact hQ _ _ _ _ _ _ F' M' hk
 | cond c x y ihx ihy=>
  intro l bs rs w K Q a h F M hQ;obtain⟨v,h1,h⟩:=bQ h;have hv:a.eval c=v:=(Inv.start (ops:=#[]) F).E h1 (by simp)
  cases v with
  | bool b=>exact wp_cond_split hv (fun hb=>ihx (h.1 hb) F M hQ) (fun hb=>ihy (h.2 hb) F M hQ)
  | _=>exact h.elim
 | block id c ih=>
  intro l bs rs w K Q a h F M hQ;refine wp_block (ih h F M fun e a l' bs' rs' w' F' M' hk=>?_)
  cases e with
  | exit i=>
   show if i=id then Q .normal a w' else Q (.exit i) a w'
   have hk:bif Nat.beq i id then K .normal l' bs' rs' w' else K (.exit i) l' bs' rs' w':=hk
   cases hb:Nat.beq i id with
   | true=>
    rw[hb] at hk;rw[if_pos (arG hb)];exact hQ _ _ _ _ _ _ F' M' hk
   | false=>
    rw[hb] at hk;rw[if_neg fun e=>by rw[e,Nat.beq_refl] at hb;cases hb];exact hQ _ _ _ _ _ _ F' M' hk
  | _=>exact hQ _ _ _ _ _ _ F' M' hk
 | loop c ih=>
  intro l bs rs w K Q a h F M hQ;obtain⟨ds,h⟩:=qq h;obtain⟨kl,⟨ι,C,yI,uU,R,μ,x,⟨hs,hR⟩,h2⟩,hkl,-⟩:=vW h;obtain⟨M,hR⟩:=hR M;refine fH (fun x a w=>Fs a N (apS (C x) kl)∧aV B w0 w (yI x) (uU x)∧R x w) μ x ⟨F.kept hs hkl,M,hR⟩ ?_;rintro x a w ⟨F,M,hR⟩;refine ih (h2 x w M hR) F M fun e a l' bs' rs' w' F' M' hk=>?_
  cases e with
  | normal=>
   obtain⟨kl',⟨rfl,x',⟨hs,hR⟩,hμ⟩,hkl,-⟩:=vW hk;obtain⟨M',hR⟩:=hR M';exact⟨x',⟨F'.kept hs hkl,M',hR⟩,hμ⟩
  | _=>exact hQ _ _ _ _ _ _ F' M' hk
 | rangeFunc=>intro l bs rs w K Q a h;exact h.elim
 | scope=>intro l bs rs w K Q a h;exact h.elim
 | goto=>intro l bs rs w K Q a h;exact h.elim
 | refuse=>intro l bs rs w K Q a h;exact h.elim
def rsK(l:Slots):List ResultVar→(List Value→Prop)→Prop
 | [],f=>f []
 | .tmp s::r,f=>(match look s l with|some v=>rsK l r fun vs=>f (v::vs)|none=>False)
 | _::_,_=>False
theorem Sm{a:Act}{N:Nat}{l:Slots}(F:Fs a N l):∀ {rv:List ResultVar} {f:List Value→Prop},rsK l rv f→∃ vs,f vs∧Ca (fun r v=>∃ s,r=.tmp s∧At a s v) rv vs
 | [],_,h=>⟨[],h,.nil⟩
 | .tmp s::r,f,h=>by
  unfold rsK at h;split at h
  ·rename_i v hv;obtain⟨vs,h1,h2⟩:=Sm F h;exact⟨_,h1,.cons ⟨s,rfl,F.at_ s v hv⟩ h2⟩
  ·exact h.elim
 | .cell _ _::_,_,h=>h.elim
def nF:List Value→Value
 | [v]=>v
 | vs=>.tuple vs.toArray
def U8(bs:List Bx)(g n:Nat)(k:List Value→Prop):Prop:=∃ i,sq bs i fun b=>bif Nat.blt b.2.1 9000 then b.1=g∧pW b.2.2.toList n (k b.2.2.toList) else False
def Ov(l:Slots)(bs:List Bx)(s:Nat)(ty:TypeId)(k:List Value→Prop):Prop:=match look s l with
 | some v=>Ef v False fun g off=>bif Nat.beq off 0 then Cl ty (fun D=>match D with|.st n _=>U8 bs g n k|.arr n _ m=>U8 bs g (n*m) k|_=>False) TT else False
 | none=>False
theorem Jd{bs:List Bx}{rs:List Rw}{g n:Nat}{k:List Value→Prop}{B:Nat}{w0 w:World}(M:aV B w0 w bs rs)(h:U8 bs g n k):∃ t cs,Whole w g t cs∧n=cs.size∧k cs.toList:=by
 obtain⟨i,hq⟩:=h;obtain⟨⟨b,T,cs⟩,hb,hq1⟩:=fV hq;obtain⟨hT,h2,hq2⟩:=bC hq1;obtain⟨hl,hq3⟩:=gV hq2;obtain rfl:b=g:=h2;exact⟨T,cs,M.b i hb hT,by rw[← hl,Array.length_toList],hq3⟩
theorem Je{l:Slots}{bs:List Bx}{rs:List Rw}{s:Nat}{ty:TypeId}{k:List Value→Prop}{B:Nat}{w0 w:World}(M:aV B w0 w bs rs)(h:Ov l bs s ty k):
 ∃ (g:Nat) (cs:Array Value),look s l=some (.pointer (some ⟨g,0,none⟩))∧(loadVar ty ⟨g,0,none⟩).run Tryz.prog w=.ok (.agg cs) w∧k cs.toList:=by
 unfold Ov at h;split at h
 ·rename_i v hv;rcases nL h with⟨g,off,rfl,hq⟩|h
  case inr=>exact h.elim
  obtain⟨h0,hq'⟩:=bC hq;obtain rfl:off=0:=arG h0;obtain⟨D,hD,hq⟩:=jB hq';split at hq
  ·obtain⟨t,cs,hW,hn,hk⟩:=Jd M hq;obtain⟨fs,hu,hs,-⟩:=R8 hD;exact⟨_,_,hv,run_loadVar_row w g t ty cs (0,0) (.struct fs) hW hu rfl (by rw[hs,hn]),hk⟩
  ·obtain⟨t,cs,hW,hn,hk⟩:=Jd M hq;obtain⟨hu,-,hs⟩:=Ki hD;exact⟨_,_,hv,run_loadVar_row w g t ty cs (0,0) _ hW hu rfl (by rw[hs,hn]),hk⟩
  ·exact hq.elim
 ·exact h.elim
def Wg(B:Nat)(w0:World)(R:Ending→World→Prop)(l:Slots)(bs:List Bx)(rs:List Rw)(w:World):List ResultVar→Prop
 | [.cell s ty]=>Ov l bs s ty fun cs=>aV B w0 w bs rs→R (.returned (.agg cs.toArray)) w
 | [.cell s ty,.tmp u]=>(match look u l with|some v=>Ov l bs s ty fun cs=>aV B w0 w bs rs→R (.returned (.tuple #[.agg cs.toArray,v])) w|none=>False)
 | L=>bif Nat.ble L.length 3 then rsK l L fun vs=>aV B w0 w bs rs→R (.returned (nF vs)) w else False
def afq(fn:Func)(B:Nat)(w0:World)(R:Ending→World→Prop):KK:=fun e l bs rs w=>match e with
 | .normal=>Wg B w0 R l bs rs w fn.results.toList
 | .ret=>Wg B w0 R l bs rs w fn.results.toList
 | _=>False
theorem Wd{fn:Func}{R:Ending→World→Prop}{a:Act}{w:World}{N:Nat}(h3:Nat.ble fn.results.toList.length 3=true)(hf:Fr a N){vs:List Value}(h:Ca (fun r v=>∃ s,r=.tmp s∧At a s v) fn.results.toList vs)(hR:R (.returned (nF vs)) w):bodyPost Tryz.prog fn R .ret a w:=by
 generalize hl:fn.results.toList=L at h h3;have hres:fn.results=L.toArray:=by rw[← hl]
 clear hl
 match h with
 | .nil=>exact MQ hres hf hR
 | .cons ⟨s,e,h1⟩ .nil=>subst e;exact RT hres hf h1 hR
 | .cons ⟨s,e,h1⟩ (.cons ⟨s',e',h2⟩ .nil)=>subst e e';exact MP hres hf h1 h2 hR
 | .cons ⟨s,e,h1⟩ (.cons ⟨s',e',h2⟩ (.cons ⟨s'',e'',h4⟩ .nil))=>subst e e' e'';exact VK hres hf h1 h2 h4 hR
 | .cons _ (.cons _ (.cons _ (.cons _ _)))=>simp at h3
theorem Nt{fn:Func}{R:Ending→World→Prop}{a:Act}{N:Nat}{l:Slots}{bs:List Bx}{rs:List Rw}{B:Nat}{w0 w:World}(F:Fs a N l)(M:aV B w0 w bs rs)(h:Wg B w0 R l bs rs w fn.results.toList):bodyPost Tryz.prog fn R .ret a w:=by
 generalize hL:fn.results.toList=L at h;unfold Wg at h;split at h
 ·rename_i s ty;have hr:fn.results=#[.cell s ty]:=by rw[← Array.toList_inj,hL]
  obtain⟨g,cs,hv,hl,h⟩:=Je M h;refine⟨F.fr.defers,_,?_,h M⟩;have h2:a.tmps.getD s undef=.pointer (some ⟨g,0,none⟩):=F.e s hv;rw[arK] at h2;simp[results,hr,h2,asAddr,hl]
 ·rename_i s ty u;have hr:fn.results=#[.cell s ty,.tmp u]:=by rw[← Array.toList_inj,hL]
  split at h
  ·rename_i v hv2;obtain⟨g,cs,hv,hl,h⟩:=Je M h;refine⟨F.fr.defers,_,?_,h M⟩;have h2:a.tmps.getD s undef=.pointer (some ⟨g,0,none⟩):=F.e s hv;have k2:a.tmps.getD u undef=v:=F.e u hv2;rw[arK] at h2 k2;simp[results,hr,h2,k2,asAddr,hl]
  ·exact h.elim
 ·subst hL;obtain⟨h3,hk⟩:=bC h;obtain⟨vs,h1,h2⟩:=Sm F hk;exact Wd h3 F.fr h2 (h1 M)
theorem bX{f:FuncId}{fn:Func}{c:Code}{N:Nat}(J:List Nat){vs:List Value}{R:Ending→World→Prop}{w0:World}(hf:Tryz.prog.funcs[f]?=some fn)(hb:fn.body=some c)(hn:fn.ntmps=N)(hN:Nat.ble vs.length N=true)
 (h:RY w0.heap.size w0 N J c (ens 0 vs) [] [] w0 (afq fn w0.heap.size w0 R)):Calls Tryz.prog f vs.toArray w0 R:=by
 refine en hf hb hn (by simpa using hN) rfl fun a F=>Y_ h F (Mm.start w0) fun e a l bs rs w F M hk=>?_
 cases e with
 | normal=>exact Y7 (Nt F M hk)
 | ret=>exact Nt F M hk
 | _=>exact hk.elim
theorem an{p q:Prop}(h:p)(k:q):p∧q:=⟨h,k⟩
theorem ei{α:Sort _}{p:α→Prop}{x:α}(h:p x):∃ x,p x:=⟨x,h⟩
theorem ia{p:Nat→Nat→Nat→Prop}{b off i:Nat}(h:p b off i):∃ b off i,p b off i:=⟨b,off,i,h⟩
theorem lb{p:Nat→Prop}{X:Prop}(i:Nat)(h:p i):(∃ i,p i)∨X:=.inl ⟨i,h⟩
theorem lc{α:Type}{p:α→Prop}{X:Prop}{x:α}(h:p x):X∨∃ x,p x:=.inr ⟨x,h⟩
theorem cl{p:Value→Prop}{X:Prop}{v:Value}(h:p v):(∃ v,p v)∨X:=.inl ⟨v,h⟩
theorem cg{p:(Value→World→Prop)→Prop}{X:Prop}{R:Value→World→Prop}(h:p R):X∨∃ R,p R:=.inr ⟨R,h⟩
theorem cw{B:Nat}{w0 w:World}{bs:List Bx}{rs:List Rw}{X:Prop}{f:FuncId}{args:Array Value}{e kk n:Nat}{xs:List Value}{K:Value→List Bx→List Rw→World→Prop}(M:aV B w0 w bs rs)
 (hc:Calls Tryz.prog f args w fun r w'=>∃ u,r=.returned u∧(w'.ownsRow w.heap.size e kk u n xs∧aru w.heap.size w w')) (h:∀ u w',aV B w0 w' bs (⟨u,e,kk,n,xs⟩::rs)→K u bs (⟨u,e,kk,n,xs⟩::rs) w') :
 X∨∃ R:Value→World→Prop,(Calls Tryz.prog f args w fun e w'=>∃ v,e=.returned v∧R v w')∧∀ v w',R v w'→∃ bs' rs',aV B w0 w' bs' rs'∧K v bs' rs' w':=
 .inr ⟨_,hc,fun u w' hR=>⟨_,_,M.ED (r:=⟨u,e,kk,n,xs⟩) hR.2 hR.1,h u w' (M.ED (r:=⟨u,e,kk,n,xs⟩) hR.2 hR.1)⟩⟩
theorem dr{p q X:Prop}(h:p)(k:q):(p∧q)∨X:=.inl ⟨h,k⟩
theorem dp{p q X Y:Prop}(h:p)(k:q):X∨(p∧q)∨Y:=.inr (.inl ⟨h,k⟩)
theorem cr{X Y Z:Prop}{p:(Value→World→Prop)→Prop}(R:Value→World→Prop)(h:p R):X∨Y∨(∃ R,p R)∨Z:=.inr (.inr (.inl ⟨R,h⟩))
theorem cv{X Y Z:Prop}{p:(Value→World→Prop)→Prop}(R:Value→World→Prop)(h:p R):X∨Y∨Z∨∃ R,p R:=.inr (.inr (.inr ⟨R,h⟩))
theorem cu{X Y:Prop}{p:Value→Prop}{v:Value}(h:p v):X∨(∃ v,p v)∨Y:=.inr (.inl ⟨v,h⟩)
theorem dJ{a:Act}{x:Operand}{xs:List Operand}{v:Value}{vs:List Value}:wQ a (x::xs) (v::vs)→a.eval x=v
 | .cons h _=>h
theorem dX{a:Act}{x y:Operand}{xs:List Operand}{u v:Value}{vs:List Value}:wQ a (x::y::xs) (u::v::vs)→a.eval y=v
 | .cons _ (.cons h _)=>h
theorem ahP{a:Act}{x y z:Operand}{xs:List Operand}{u v s:Value}{vs:List Value}:wQ a (x::y::z::xs) (u::v::s::vs)→a.eval z=s
 | .cons _ (.cons _ (.cons h _))=>h
theorem bl{p q:Prop}(h:p):p∨q:=.inl h
theorem br{X:Prop}{p:(Value→World→Prop)→Prop}(R:Value→World→Prop)(h:p R):X∨∃ R,p R:=.inr ⟨R,h⟩
def ahQ(w:World)(e:TypeId)(R:Value→World→Prop):Value→World→Prop:=fun v w2=>∃ u g,v=.slice (some ⟨g,0,none⟩) 1 1∧Whole w2 g e #[u]∧w.heap.size≤g∧u.ownBlock≠some g∧R u w2
theorem b1{B:Nat}{w0 w:World}{bs:List Bx}{rs:List Rw}{t e b:Nat}{x:Operand}{R:Value→World→Prop}{u:Value}(hR:gN R)(h1:∀ u w,R u w→u.cells=#[u])(h2:∀ u w q,R u w→u.ownBlock=some q→q<w.heap.size)(hD:iV Tryz.prog t (.sl e 1 b)=true):
 ∀ (w1:World) (a:Act) (o':Oper),aru w.heap.size w w1→aV B w0 w1 bs rs→R u w1→o'.op=.buildSlice t 1 #[(0,x)]→wQ a (gT (.buildSlice t 1 #[(0,x)])) [u] →
  ∃ v w2,(execOp a.eval o').run Tryz.prog w1=.ok (.value v) w2∧ahQ w e R v w2∧aru w1.heap.size w1 w2:=fun w1 a o' hb _ hu hop oJ=>by
 have hc:=h1 u w1 hu;have hr:=qK (w:=w1) hop hD rfl rfl (by decide) (by decide) oJ (by simp[hc]);have hbl:aru w1.heap.size w1 (w1.alloc (.cells ([u].flatMap fun v=>v.cells.toList).toArray e)):=(Below.refl _ w1).alloc (Nat.le_refl _) _;have hl:([u].flatMap fun v=>v.cells.toList).toArray=#[u]:=by simp[hc]
 refine⟨_,_,hr,⟨u,w1.heap.size,rfl,hl▸Whole.new w1 e _,hb.size,fun hq=>Nat.lt_irrefl _ (h2 u w1 _ hu hq),hR _ _ _ hu hbl⟩,hbl⟩
def CK(w:World)(e n:Nat)(cs:List Value):Value→World→Prop:=fun v w2=>∃ g,v=.slice (some ⟨g,0,none⟩) n n∧Whole w2 g e cs.toArray∧w.heap.size≤g
theorem kX{w:World}{e n:Nat}{cs:List Value}:gN (CK w e n cs):=fun _ _ _ ⟨g,h1,h2,h3⟩ hb=>⟨g,h1,Whole.under hb h2 h2.lt,h3⟩
theorem bK{w:World}{t e kk b len:Nat}{parts:Array (Nat×Operand)}{vs:List Value}{p:World→Prop}(hD:iV Tryz.prog t (.sl e kk b)=true)(hp:rZ 0 parts.toList=true)(hl:parts.toList.length=len)(h0:0<len*kk)(h1:len*kk≤2^24)(hc:∀ v∈vs,v.cells.size=kk){cs:List Value}(hcs:(vs.flatMap fun v=>v.cells.toList)=cs)
 (w1:World) (a:Act) (o':Oper) (hb:aru w.heap.size w w1) (_:p w1) (hop:o'.op=.buildSlice t len parts) (oJ:wQ a (gT (.buildSlice t len parts)) vs) :
  ∃ v w2,(execOp a.eval o').run Tryz.prog w1=.ok (.value v) w2∧CK w e len cs v w2∧aru w1.heap.size w1 w2:=by
 subst hcs;exact⟨_,_,qK (w:=w1) hop hD hp hl h0 h1 oJ hc,⟨w1.heap.size,rfl,Whole.new w1 e _,hb.size⟩,(Below.refl _ w1).alloc (Nat.le_refl _) _⟩
theorem aV.perm{B:Nat}{w0 w:World}{bs:List Bx}{rs rs':List Rw}(M:aV B w0 w bs rs)(hp:rs.Perm rs'):aV B w0 w bs rs':=by
 refine⟨M.below,M.le,M.old,M.box,M.lo,M.nd,fun r h=>M.row r (hp.mem_iff.2 h),fun r h=>M.far r (hp.mem_iff.2 h),(hp.pairwise_iff fun {r s} h=>?_).1 M.vH⟩;rcases h with h|h
 ·cases hs:s.v.ownBlock with
  | none=>exact .inl rfl
  | some q=>exact .inr (by rw[h];simp)
 ·exact .inr fun e=>h e.symm
theorem sr{X Y:Prop}{B:Nat}{w0:World}{rs:List Rw}{D:TD}{g off e n cap:Nat}{xs:List Value}{v:Value}{k:List Rw→Prop}(i j:Nat)(h:rs[i]?=some ⟨.slice (some ⟨g,0,none⟩) n cap,e,iC D,n,xs⟩∧off=j*iC D∧j<n)(h1:(aW v).all (·.oneCell')=true)
 (h2:pW (aW v) (iC D) (Ae rs i ⟨.slice (some ⟨g,0,none⟩) n cap,e,iC D,n,xs.take off++aW v++xs.drop (off+iC D)⟩ k)) (hW:Nat.beq e 52=false∨w0.heap.size≤B:=by first|exact .inl rfl|exact .inr (Nat.le_refl _)):X∨stR B w0 rs D g off v k∨Y:=
 .inr (.inl ⟨i,j,e,n,cap,xs,h,h1,hW,h2⟩)
theorem ap{B:Nat}{w0 w:World}{bs QL:List Bx}{rs Pt:List Rw}{u v:Value}{e kk Oy nn mm:Nat}{xs news:List Value}{k:Value→List Bx→List Rw→World→Prop}(i:Nat)(hM:aV B w0 w bs rs→aV B w0 w QL Pt)(hr:Pt[i]?=some ⟨v,e,kk,nn,xs⟩)(hs:SliceAt w u kk mm news)
 (hb:nn+mm≤maxLen∧(nn+mm)*Oy≤140737488355328) (h:∀ v' w',Ae Pt i ⟨v',e,kk,nn+mm,xs++news⟩ fun rs'=>aV B w0 w' QL rs'→k v' QL rs' w') (hW:Nat.beq e 52=false∨w0.heap.size≤B:=by first|exact .inl rfl|exact .inr (Nat.le_refl _)):apO B w0 bs rs w u v e kk Oy k:=
 ⟨QL,Pt,i,nn,xs,mm,news,hM,hr,hs,hb,hW,h⟩
theorem lp{p:(ι:Type)→(ι→Slots)→(ι→List Bx)→(ι→List Rw)→(ι→World→Prop)→(ι→Nat)→ι→Prop}{ι:Type}(C:ι→Slots)(yI:ι→List Bx)(uU:ι→List Rw)(R:ι→World→Prop)(μ:ι→Nat)(x:ι)(h:p ι C yI uU R μ x):
 ∃ (ι:Type) (C:ι→Slots) (yI:ι→List Bx) (uU:ι→List Rw) (R:ι→World→Prop) (μ:ι→Nat) (x:ι),p ι C yI uU R μ x:=⟨ι,C,yI,uU,R,μ,x,h⟩
theorem lq{p:(ι:Type)→(ι→Slots)→(ι→List Bx)→(ι→List Rw)→(ι→World→Prop)→(ι→Nat)→ι→Prop}{ι:Type}(C:ι→Slots){bs:List Bx}(uU:ι→List Rw)(R:ι→World→Prop)(μ:ι→Nat)(x:ι)(h:p ι C (fun _=>bs) uU R μ x):
 ∃ (ι:Type) (C:ι→Slots) (yI:ι→List Bx) (uU:ι→List Rw) (R:ι→World→Prop) (μ:ι→Nat) (x:ι),p ι C yI uU R μ x:=⟨ι,C,_,uU,R,μ,x,h⟩
theorem lr{p:(ι:Type)→(ι→Slots)→(ι→List Bx)→(ι→List Rw)→(ι→World→Prop)→(ι→Nat)→ι→Prop}{ι:Type}(C:ι→Slots){bs:List Bx}{rs:List Rw}(R:ι→World→Prop)(μ:ι→Nat)(x:ι)(h:p ι C (fun _=>bs) (fun _=>rs) R μ x):
 ∃ (ι:Type) (C:ι→Slots) (yI:ι→List Bx) (uU:ι→List Rw) (R:ι→World→Prop) (μ:ι→Nat) (x:ι),p ι C yI uU R μ x:=⟨ι,C,_,_,R,μ,x,h⟩
theorem bk{B:Nat}{w0 w:World}{ι:Type}{C:ι→Slots}{yI:ι→List Bx}{uU:ι→List Rw}{R:ι→World→Prop}{l kl:Slots}{bs:List Bx}{rs:List Rw}{μ:ι→Nat}{m:Nat}(x:ι)(hs:Sub l (C x))(hM:aV B w0 w bs rs→aV B w0 w (yI x) (uU x)∧R x w)(hm:μ x<m):
 kl=kl∧∃ x,inS B w0 C yI uU R l bs rs w x∧μ x<m:=⟨rfl,x,⟨hs,hM⟩,hm⟩
structure Jy (X:List Nat) (a a':Act):Prop where
 fr:∀ {N:Nat},Fr a N→Fr a' N
 old:∀ {j:Nat} {u:Value},X.contains j=false→At a j u→At a' j u
theorem Jy.refl(X:List Nat)(a:Act):Jy X a a:=⟨fun h=>h,fun _ h=>h⟩
theorem Jy.put{X:List Nat}{a a' a2:Act}{s:Nat}{v:Value}(h:Jy X a a')(p:Put a' s v a2)(hs:X.contains s=true):Jy X a a2:=
 ⟨fun hf=>p.fr (h.fr hf),fun {j u} hj hu=>p.old (by
  cases e:j == s with
  | false=>rfl
  | true=>
   have e':j=s:=by simpa using e
   rw[e',hs] at hj;cases hj) (h.old hj hu)⟩
theorem Fs.agr{X:List Nat}{a a':Act}{N:Nat}{l:Slots}(F:Fs a N l)(h:Jy X a a'){l':Slots}(hl:l'.all (fun p=>!X.contains p.1)=true)(hs:Sub l l'):Fs a' N l':=by
 have F':=F.sub hs;refine⟨h.fr F'.fr,fun q v hq=>?_⟩;refine h.old ?_ (F'.at_ q v hq);clear F F' hs
 induction l' with
 | nil=>cases hq
 | cons p r ih=>
  obtain⟨s,u⟩:=p;simp only[List.all_cons,arD] at hl;rw[bB] at hq
  cases e:q == s with
  | true=>
   have e':q=s:=by simpa using e
   rw[e'];simpa using hl.1
  | false=>
   rw[e] at hq;exact ih hl.2 hq
abbrev Kn:=Nat×Nat×Value
def Bd(o:Oper)(k:Nat):Prop:=∃ gr,(⟨k,gr⟩:Edge)∈o.after.toList∧Region.binds .any ⟨k,gr⟩=true
inductive Tr where
 | done
 | step (j:Nat) (t:Tr)
 | last (j:Nat)
 | alt (x y:Tr)
def heads:Tr→List Nat
 | .done=>[]
 | .step j _=>[j]
 | .last j=>[j]
 | .alt x y=>heads x++heads y
inductive Moved (K:List Kn) (j:Nat) (o:Oper) (a a':Act):Prop
 | none:o.dst=none→a'=a→Moved K j o a a'
 | some (d:Nat) (v:Value):o.dst=some d→Put a d v a'→(∀ (n:Nat) (k:Kn),K[n]?=some k→k.1=j→k.2.2=v)→Moved K j o a a'
section
variable (P:Program) (ops:Array Oper) (l:List Oper) (K:List Kn) (X:List Nat) (J:World→Prop) (Q:Act→World→Prop)
def OM:Tr→Act→World→Prop
 | .done,a,w=>∀ a',Jy X a a'→(∀ (n:Nat) (k:Kn),K[n]?=some k→At a' k.2.1 k.2.2)→Q a' w
 | .step j t,a,w=>∀ o,l[j]?=some o→∀ a',Jy X a a'→(∀ (n:Nat) (k:Kn),K[n]?=some k→Bd o k.1→At a' k.2.1 k.2.2)→∀ Q':Exit→Act→World→Prop,(∀ a1 w1,J w1→Moved K j o a' a1→OM t a1 w1→Q' .normal a1 w1)→wpList P ops Q' [o] a' w
 | .last j,a,w=>∀ o,l[j]?=some o→∀ a',Jy X a a'→(∀ (n:Nat) (k:Kn),K[n]?=some k→Bd o k.1→At a' k.2.1 k.2.2)→∀ Q':Exit→Act→World→Prop,(∀ a1 w1,Moved K j o a' a1→(∀ a2,Jy X a1 a2→(∀ (n:Nat) (k:Kn),K[n]?=some k→At a2 k.2.1 k.2.2)→Q a2 w1)→Q' .normal a1 w1)→wpList P ops Q' [o] a' w
 | .alt x y,a,w=>OM x a w∧OM y a w
end
def cand(l:List Oper)(F E:List Nat):List Nat:=(List.range l.length).filter fun j=>!F.contains j&&!E.contains j&&(match l[j]? with|some o=>o.after.toList.all fun e=>!Region.binds .any e||F.contains e.on||E.contains e.on|none=>false)
def nG(l:List Oper)(F:List Nat):Tr→List Nat→Bool
 | .done,E=>(List.range l.length).all fun j=>F.contains j||E.contains j
 | .step j t,E=>!E.contains j&&!F.contains j&&decide (j<l.length)&&((cand l F (j::E)).all fun i=>(heads t).contains i)&&nG l F t (j::E)
 | .last j,E=>!E.contains j&&!F.contains j&&decide (j<l.length)&&((cand l F (j::E)).all fun i=>(heads .done).contains i)&&((List.range l.length).all fun i=>F.contains i||(j::E).contains i)&&(match l[j]? with|some o=>F.all fun f=>o.after.toList.any fun e=>Region.binds .any e&&e.on == f|none=>false)
 | .alt x y,E=>nG l F x E&&nG l F y E
theorem S8{l:List Oper}{F E:List Nat}{j:Nat}{o:Oper}(hj:l[j]?=some o)(h1:F.contains j=false)(h2:E.contains j=false)(h3:∀ e∈o.after.toList,Region.binds .any e=true→F.contains e.on=true∨E.contains e.on=true):j∈cand l F E:=by
 unfold cand;refine List.mem_filter.2 ⟨List.mem_range.2 (arw.1 hj).1,?_⟩;rw[h1,h2,hj];simp only[Bool.not_false,Bool.true_and,arC];intro e he
 cases hb:Region.binds .any e with
 | false=>rfl
 | true=>
  rcases h3 e he hb with h|h
  ·rw[h];rfl
  ·rw[h];simp
section
variable {P:Program} {ops:Array Oper} {l:List Oper} {K:List Kn} {X F:List Nat} {J:World→Prop} {Q:Act→World→Prop}
theorem Ab:∀ {t:Tr} {E:List Nat} {a:Act} {w:World} {j:Nat},OM P ops l K X J Q t a w→nG l F t E=true→j∈heads t→(∃ t',OM P ops l K X J Q (.step j t') a w∧nG l F (.step j t') E=true)∨(OM P ops l K X J Q (.last j) a w∧nG l F (.last j) E=true)
 | .done,_,_,_,_,_,_,h=>by cases h
 | .step j t,E,a,w,i,h,hs,hi=>by
  obtain rfl:i=j:=by simpa[heads] using hi
  exact .inl ⟨t,h,hs⟩
 | .last j,E,a,w,i,h,hs,hi=>by
  obtain rfl:i=j:=by simpa[heads] using hi
  exact .inr ⟨h,hs⟩
 | .alt x y,E,a,w,i,h,hs,hi=>by
  simp only[nG,arD] at hs;rcases arL.1 hi with hi|hi
  ·exact Ab h.1 hs.1 hi
  ·exact Ab h.2 hs.2 hi
theorem Ni:∀ {t:Tr} {E:List Nat} {a:Act} {w:World},OM P ops l K X J Q t a w→nG l F t E=true→(∀ j,j<l.length→F.contains j=true∨E.contains j=true)→OM P ops l K X J Q .done a w
 | .done,_,_,_,h,_,_=>h
 | .step j t,E,a,w,h,hs,hE=>by
  simp only[nG,arD,decide_eq_true_iff] at hs;obtain⟨⟨⟨⟨h1,h2⟩,h3⟩,_⟩,_⟩:=hs;rcases hE j h3 with h|h
  ·rw[h] at h2;cases h2
  ·rw[h] at h1;cases h1
 | .last j,E,a,w,h,hs,hE=>by
  simp only[nG,arD,decide_eq_true_iff] at hs;obtain⟨⟨⟨⟨⟨h1,h2⟩,h3⟩,_⟩,_⟩,_⟩:=hs;rcases hE j h3 with h|h
  ·rw[h] at h2;cases h2
  ·rw[h] at h1;cases h1
 | .alt x y,E,a,w,h,hs,hE=>by
  simp only[nG,arD] at hs;exact Ni h.1 hs.1 hE
end
def zH(P:Program)(l:List Oper)(F:List Nat)(K:List Kn)(J:World→Prop)(a:Act)(N:Nat):List Kn→Prop
 | []=>True
 | k::r=>(F.contains k.1=true→∀ o,l[k.1]?=some o→∀ b u,Fr b N→J u→(∀ j v,(l.filterMap (·.dst)).contains j=false→At a j v→At b j v)→(∀ (n:Nat) (k':Kn),K[n]?=some k'→Bd o k'.1→At b k'.2.1 k'.2.2) →
  Region.wanted o (yielded l.toArray b.tmps)=true∧(execOp b.eval o).run P u=.ok (.value k.2.2) u)∧zH P l F K J a N r
theorem fl{P:Program}{l:List Oper}{K:List Kn}{J:World→Prop}{a:Act}{N:Nat}{k:Kn}{o:Oper}(ho:l[k.1]?=some o) (h:∀ b u,Fr b N→J u→(∀ j v,(l.filterMap (·.dst)).contains j=false→At a j v→At b j v)→(∀ (n:Nat) (k':Kn),K[n]?=some k'→Bd o k'.1→At b k'.2.1 k'.2.2) →
 Region.wanted o (yielded l.toArray b.tmps)=true∧(execOp b.eval o).run P u=.ok (.value k.2.2) u) (F:List Nat):F.contains k.1=true→∀ o,l[k.1]?=some o→∀ b u,Fr b N→J u→(∀ j v,(l.filterMap (·.dst)).contains j=false→At a j v→At b j v)→(∀ (n:Nat) (k':Kn),K[n]?=some k'→Bd o k'.1→At b k'.2.1 k'.2.2) →
 Region.wanted o (yielded l.toArray b.tmps)=true∧(execOp b.eval o).run P u=.ok (.value k.2.2) u:=by
 intro _ o' ho';obtain rfl:o=o':=arp (ho.symm.trans ho');exact h
theorem sF{P:Program}{l:List Oper}{F:List Nat}{K:List Kn}{J:World→Prop}{a:Act}{N:Nat}:∀ {r:List Kn},zH P l F K J a N r→∀ k∈r,F.contains k.1=true→∀ o,l[k.1]?=some o→∀ b u,Fr b N→J u→(∀ j v,(l.filterMap (·.dst)).contains j=false→At a j v→At b j v)→(∀ (n:Nat) (k':Kn),K[n]?=some k'→Bd o k'.1→At b k'.2.1 k'.2.2) →
 Region.wanted o (yielded l.toArray b.tmps)=true∧(execOp b.eval o).run P u=.ok (.value k.2.2) u
 | [],_,_,h=>by cases h
 | x::r,h,k,hk=>by
  rcases arl.1 hk with rfl|hk
  ·exact h.1
  ·exact sF h.2 k hk
theorem SZ:∀ {l:List Oper},(l.filterMap (·.dst)).Nodup→∀ (i j:Nat) (o o':Oper) (s:Nat),l[i]?=some o→l[j]?=some o'→o.dst=some s→o'.dst=some s→i=j
 | [],_,i,_,_,_,_,h,_,_,_=>by simp at h
 | x::r,hn,i,j,o,o',s,hi,hj,ho,ho'=>by
  have hin:∀ (k:Nat) (o:Oper),r[k]?=some o→o.dst=some s→s∈r.filterMap (·.dst):=fun k o hk hs=>List.mem_filterMap.2 ⟨o,ars hk,hs⟩
  rw[List.filterMap_cons] at hn
  have hr:(r.filterMap (·.dst)).Nodup:=by
   split at hn
   ·exact hn
   ·exact(List.nodup_cons.1 hn).2
  have hx:x.dst=some s→s∉r.filterMap (·.dst):=fun e=>by
   rw[e] at hn;exact(List.nodup_cons.1 hn).1
  cases i with
  | zero=>
   cases j with
   | zero=>rfl
   | succ j=>
    obtain rfl:x=o:=by simpa using hi
    exact absurd (hin j o' (by simpa using hj) ho') (hx ho)
  | succ i=>
   cases j with
   | zero=>
    obtain rfl:x=o':=by simpa using hj
    exact absurd (hin i o (by simpa using hi) ho) (hx ho')
   | succ j=>rw[SZ hr i j o o' s (by simpa using hi) (by simpa using hj) ho ho']
def xs(F:List Nat)(K:List Kn):List Nat:=K.filterMap fun k=>if F.contains k.1 then some k.2.1 else none
theorem aV.swap{B:Nat}{w0 w:World}{b1 b2:Bx}{bs:List Bx}{rs:List Rw}(M:aV B w0 w (b1::b2::bs) rs):aV B w0 w (b2::b1::bs) rs:=by
 have hp:∀ b,b∈b2::b1::bs→b∈b1::b2::bs:=fun b hb=>by
  simp only[arl] at hb ⊢;rcases hb with h|h|h
  ·exact .inr (.inl h)
  ·exact .inl h
  ·exact .inr (.inr h)
 exact⟨M.below,M.le,M.old,fun b hb=>M.box b (hp b hb),fun b hb=>M.lo b (hp b hb),((List.Perm.swap b1 b2 bs).map Prod.fst).symm.nodup_iff.1 M.nd,M.row,fun r hr b hb=>M.far r hr b (hp b hb),M.vH⟩
structure Jm (B:Nat) (w0:World) (bs:List Bx) (u:World):Prop where
 below:aru B w0 u
 box:∀ b∈bs,uR u b
theorem Jm.b{B:Nat}{w0 u:World}{bs:List Bx}(h:Jm B w0 bs u)(i:Nat){g:Nat}{t:TypeId}{cs:Array Value}(e:bs[i]?=some (g,t,cs))(ht:Nat.blt t 9000=true:=by rfl):Whole u g t cs:=(h.box _ (ars e)).whole ht
section
variable {P:Program} {Q:Exit→Act→World→Prop}
theorem DQ{id:Nat}{l:List Oper}{a:Act}{w:World}{N:Nat}(K:List Kn)(F:List Nat)(t:Tr)(J:World→Prop)
 (hm:P.follows .mixedOrders=true) (fP:ordered 0 l=true) (hK:(K.all fun k=>((l[k.1]?).bind (·.dst)) == some k.2.1)=true) (hF:(F.all fun i=>K.any fun k=>k.1 == i)=true) (hnd:(l.filterMap (·.dst)).Nodup) (hbd:((l.filterMap (·.dst)).all fun s=>Nat.blt s N)=true)
 (agK:((cand l F []).all fun i=>(heads t).contains i)=true) (hsub:nG l F t []=true)
 (hf:Fr a N) (hfl:zH P l F K J a N K) (hJ:J w.drew) (hsp:OM P l.toArray l K (xs F K) J (Q .normal) t a w.drew):(Code.region id l.toArray true).wp P Q a w:=by
 have hidx:=SZ hnd
 have hKd:∀ k∈K,∃ o:Oper,l[k.1]?=some o∧o.dst=some k.2.1:=fun k hk=>by
  have h:=arC.1 hK k hk;have h:(l[k.1]?).bind (·.dst)=some k.2.1:=by simpa using h
  cases e:l[k.1]? with
  | none=>rw[e] at h;cases h
  | some o=>rw[e] at h;exact⟨o,rfl,h⟩
 have hin:∀ (i:Nat) (o:Oper) (s:Nat),l[i]?=some o→o.dst=some s→(l.filterMap (·.dst)).contains s=true:=fun i o s ho hs=>by
  have:s∈l.filterMap (·.dst):=List.mem_filterMap.2 ⟨o,ars ho,hs⟩;simpa using this
 refine jl hm fP (fun L b u=>(∀ j o,l[j]?=some o→L j=true→∀ e∈o.after.toList,Region.binds .any e=true→L e.on=true)∧Fr b N∧(J u∨∀ f,F.contains f=true→L f=true)∧(∀ j v,(l.filterMap (·.dst)).contains j=false→At a j v→At b j v) ∧
  (∀ k∈K,L k.1=true→At b k.2.1 k.2.2)∧∃ t E a0,(∀ j,j<l.length→F.contains j=false→L j=E.contains j)∧((cand l F E).all fun i=>(heads t).contains i)=true∧nG l F t E=true∧Jy (xs F K) a0 b∧OM P l.toArray l K (xs F K) J (Q .normal) t a0 u) ?_ ?_ ?_
 ·exact⟨fun _ _ _ h=>(by cases h),hf,.inl hJ,fun _ _ _ h=>h,fun _ _ h=>(by cases h),t,[],a,fun _ _ _=>rfl,agK,hsub,.refl _ _,hsp⟩
 ·have key:∀ (i:Nat) (o:Oper),l[i]?=some o→∀ (L:Nat→Bool) (b:Act) (u:World) (Q':Exit→Act→World→Prop),((∀ j o,l[j]?=some o→L j=true→∀ e∈o.after.toList,Region.binds .any e=true→L e.on=true)∧Fr b N∧(J u∨∀ f,F.contains f=true→L f=true)∧(∀ j v,(l.filterMap (·.dst)).contains j=false→At a j v→At b j v) ∧
   (∀ k∈K,L k.1=true→At b k.2.1 k.2.2)∧∃ t E a0,(∀ j,j<l.length→F.contains j=false→L j=E.contains j)∧((cand l F E).all fun i=>(heads t).contains i)=true∧nG l F t E=true∧Jy (xs F K) a0 b∧OM P l.toArray l K (xs F K) J (Q .normal) t a0 u)→L i=false →
   (∀ e∈o.after.toList,Region.binds .any e=true→L e.on=true) →
   (∀ b u,((∀ j o,l[j]?=some o→upd L i j=true→∀ e∈o.after.toList,Region.binds .any e=true→upd L i e.on=true)∧Fr b N∧(J u∨∀ f,F.contains f=true→upd L i f=true)∧(∀ j v,(l.filterMap (·.dst)).contains j=false→At a j v→At b j v) ∧
   (∀ k∈K,upd L i k.1=true→At b k.2.1 k.2.2)∧∃ t E a0,(∀ j,j<l.length→F.contains j=false→upd L i j=E.contains j)∧((cand l F E).all fun i=>(heads t).contains i)=true∧nG l F t E=true∧Jy (xs F K) a0 b∧OM P l.toArray l K (xs F K) J (Q .normal) t a0 u)→Q' .normal b u)→wpList P l.toArray Q' [o] b u:=by
   intro i o ho L b u Q' ⟨hcl,hfr,hj,hout,hkn,t,E,a0,hLE,hc,hs,hag,hsp⟩ hL hA hNext;have hil:=(arw.1 ho).1;have up:∀ j,L j=true→upd L i j=true:=fun j hj=>by simp[upd,hj]
   have hcl':∀ j o,l[j]?=some o→upd L i j=true→∀ e∈o.after.toList,Region.binds .any e=true→upd L i e.on=true:=by
    intro j o' hj Bb e he hb;by_cases hji:j=i
    ·subst hji;obtain rfl:o=o':=arp (ho.symm.trans hj);exact up _ (hA e he hb)
    ·have hne:(j == i)=false:=by simpa using hji
     exact up _ (hcl j o' hj (by simpa[upd,hne] using Bb) e he hb)
   have jJ:∀ (n:Nat) (k:Kn),K[n]?=some k→Bd o k.1→At b k.2.1 k.2.2:=fun n k hk ⟨gr,he,hb⟩=>hkn k (ars hk) (hA _ he hb)
   have keep:∀ {b':Act} {d:Nat} {v:Value},o.dst=some d→Put b d v b'→(∀ k∈K,k.1=i→k.2.2=v)→(∀ j v,(l.filterMap (·.dst)).contains j=false→At a j v→At b' j v)∧∀ k∈K,upd L i k.1=true→At b' k.2.1 k.2.2:=by
    intro b' d v hd hp hv;constructor
    ·intro j x T3 hx;refine hp.old ?_ (hout j x T3 hx)
     cases e:j == d with
     | false=>rfl
     | true=>
      have e':j=d:=by simpa using e
      rw[e',hin i o d ho hd] at T3;cases T3
    ·intro k hk hLk;obtain⟨o',ho',hd'⟩:=hKd k hk;by_cases hki:k.1=i
     ·rw[hki] at ho';obtain rfl:o=o':=arp (ho.symm.trans ho');obtain rfl:d=k.2.1:=arp (hd.symm.trans hd');rw[hv k hk hki];exact hp.now
     ·have hne:(k.1 == i)=false:=by simpa using hki
      refine hp.old ?_ (hkn k hk (by simpa[upd,hne] using hLk))
      cases e:k.2.1 == d with
      | false=>rfl
      | true=>
       have e':k.2.1=d:=by simpa using e
       exact absurd (hidx k.1 i o' o d ho' ho (by rw[hd',e']) hd) hki
   cases Yx:F.contains i with
   | true=>
    have hj:J u:=by
     rcases hj with hj|hj
     ·exact hj
     ·rw[hj i Yx] at hL;cases hL
    obtain⟨k,hk,hki⟩:=List.any_eq_true.1 (arC.1 hF i (by simpa using Yx));have hki:k.1=i:=by simpa using hki
    obtain⟨o',ho',hd'⟩:=hKd k hk;rw[hki] at ho';obtain rfl:o=o':=arp (ho.symm.trans ho');obtain⟨hw,hr⟩:=sF hfl k hk (by rw[hki];exact Yx) o (by rw[hki];exact ho) b u hfr hj hout jJ
    have hsN:k.2.1<N:=by
     have:=arC.1 hbd k.2.1 (List.mem_filterMap.2 ⟨o,ars ho,hd'⟩);simpa using this
    refine nE hw hr hd' hfr hsN fun b' hp=>arB (hNext b' u ?_)
    have hkv:∀ k'∈K,k'.1=i→k'.2.2=k.2.2:=fun k' hk' e=>by
     obtain⟨_,_,_⟩:=hKd k' hk';obtain⟨w2,h2⟩:=sF hfl k' hk' (by rw[e];exact Yx) o (by rw[e];exact ho) b u hfr hj hout jJ;rw[hr] at h2;injection h2 with h2;injection h2 with h2;exact h2.symm
    obtain⟨g1,g2⟩:=keep hd' hp hkv;refine⟨hcl',hp.fr hfr,.inl hj,g1,g2,t,E,a0,fun j hjl Z9=>?_,hc,hs,hag.put hp ?_,hsp⟩
    ·have hne:(j == i)=false:=by
      cases e:j == i with
      | false=>rfl
      | true=>
       have e':j=i:=by simpa using e
       rw[e',Yx] at Z9;cases Z9
     rw[← hLE j hjl Z9];simp[upd,hne]
    ·have:k.2.1∈xs F K:=List.mem_filterMap.2 ⟨k,hk,by rw[hki,Yx];rfl⟩;simpa using this
   | false=>
    have hEi:E.contains i=false:=by rw[← hLE i hil Yx];exact hL
    have hmem:=S8 (F:=F) (E:=E) ho Yx hEi fun e he hb=>by
     have hLe:=hA e he hb;have hlt:=kS 0 l fP i o ho e he hb
     cases hFe:F.contains e.on with
     | true=>exact .inl rfl
     | false=>exact .inr (by rw[← hLE e.on (by omega) hFe];exact hLe)
    have hh:=arC.1 hc i hmem
    have fin:∀ a1,Moved K i o b a1→Fr a1 N∧(∀ j v,(l.filterMap (·.dst)).contains j=false→At a j v→At a1 j v)∧∀ k∈K,upd L i k.1=true→At a1 k.2.1 k.2.2:=by
     intro a1 hmv;rcases hmv with⟨hd,rfl⟩|⟨d,v,hd,hp,hv⟩
     ·refine⟨hfr,hout,fun k hk hLk=>?_⟩;obtain⟨o',ho',hd'⟩:=hKd k hk;by_cases hki:k.1=i
      ·rw[hki] at ho';obtain rfl:o=o':=arp (ho.symm.trans ho');rw[hd] at hd';cases hd'
      ·have hne:(k.1 == i)=false:=by simpa using hki
       exact hkn k hk (by simpa[upd,hne] using hLk)
     ·obtain⟨g1,g2⟩:=keep hd hp fun k hk e=>by
       obtain⟨n,hn⟩:=List.getElem?_of_mem hk;exact hv n k hn e
      exact⟨hp.fr hfr,g1,g2⟩
    rcases Ab hsp hs (j:=i) (by simpa using hh) with⟨t',h1,h2⟩|⟨h1,h2⟩
    ·simp only[nG,arD] at h2;refine h1 o ho b hag jJ Q' fun a1 w1 hJ1 hmv hS=>hNext a1 w1 ?_
     have fin:=fin a1 hmv;refine⟨hcl',fin.1,.inl hJ1,fin.2.1,fin.2.2,t',i::E,a1,fun j hjl Z9=>?_,h2.1.2,h2.2,.refl _ _,hS⟩;simp only[upd,List.contains_cons,hLE j hjl Z9]
    ·simp only[nG,arD] at h2;refine h1 o ho b hag jJ Q' fun a1 w1 hmv hS=>hNext a1 w1 ?_
     have fin:=fin a1 hmv;refine⟨hcl',fin.1,.inr fun f hfF=>?_,fin.2.1,fin.2.2,.done,i::E,a1,fun j hjl Z9=>?_,h2.1.1.2,h2.1.2,.refl _ _,hS⟩
     ·have h3:=h2.2;rw[ho] at h3;obtain⟨e,he,hb⟩:=List.any_eq_true.1 (arC.1 h3 f (by simpa using hfF));simp only[arD,beq_iff_eq] at hb;exact up f (by rw[← hb.2];exact hA e he hb.1)
     ·simp only[upd,List.contains_cons,hLE j hjl Z9]
  have all:∀ (r:List Oper) (m:Nat),(∀ i o,r[i]?=some o→l[m+i]?=some o)→lF P l.toArray (fun L b u=>(∀ j o,l[j]?=some o→L j=true→∀ e∈o.after.toList,Region.binds .any e=true→L e.on=true)∧Fr b N∧(J u∨∀ f,F.contains f=true→L f=true)∧(∀ j v,(l.filterMap (·.dst)).contains j=false→At a j v→At b j v) ∧
   (∀ k∈K,L k.1=true→At b k.2.1 k.2.2)∧∃ t E a0,(∀ j,j<l.length→F.contains j=false→L j=E.contains j)∧((cand l F E).all fun i=>(heads t).contains i)=true∧nG l F t E=true∧Jy (xs F K) a0 b∧OM P l.toArray l K (xs F K) J (Q .normal) t a0 u) m r:=by
   intro r
   induction r with
   | nil=>intro m _;trivial
   | cons o r ih=>
    intro m h;refine⟨fun L b u Q' hI hL hA hK=>key m o (h 0 o rfl) L b u Q' hI hL hA hK,ih (m+1) fun i o' ho'=>?_⟩;have:=h (i+1) o' (by simpa using ho')
    rwa [show m+1+i=m+(i+1) by omega]
  exact all l 0 fun i o ho=>by simpa using ho
 ·intro L b u ⟨hcl,hfr,hj,hout,hkn,t,E,a0,hLE,hc,hs,hag,hsp⟩ hall
  have h:=Ni hsp hs fun j hjl=>by
   cases hF:F.contains j with
   | true=>exact .inl rfl
   | false=>exact .inr (by rw[← hLE j hjl hF];exact hall j hjl)
  exact h b hag fun n k hk=>hkn k (ars hk) (hall k.1 (by
   obtain⟨o,ho,_⟩:=hKd k (ars hk);exact(arw.1 ho).1))
end
section
variable (P:Program) (fn:Func) (R:Ending→World→Prop) (N:Nat)
theorem hrC(s:Nat)(ty:TypeId)(hr:fn.results=#[.cell s ty]){d:TypeDesc}(hu:P.underlying ty=some d)(hd:(match d with|.struct _|.array _ _=>true|_=>false)=true){n:Nat}(hi:(P.info? ty).map (·.size)=some n)
 (a:Act) (w:World) (l:Slots) (g:Nat) (t:TypeId) (cs:Array Value) (F:Fs a N l) (hv:look s l=some (.pointer (some ⟨g,0,none⟩))) (hW:Whole w g t cs) (hn:Nat.beq n cs.size=true) (hR:R (.returned (.agg cs)) w):bodyPost P fn R .ret a w:=by
 refine⟨F.fr.defers,_,?_,hR⟩;have h:=F.e s hv;have hs:(P.info? ty).map (·.size)=some cs.size:=by rw[hi,arG hn]
 have h2:a.tmps.getD s undef=.pointer (some ⟨g,0,none⟩):=h;rw[arK] at h2;simp[results,hr,h2,asAddr,run_loadVar_row w g t ty cs (0,0) d hW hu hd hs]
end
theorem Gr{P:Program}{ops ops':Array Oper}{Q:Exit→Act→World→Prop}{S:Act→World→Prop}{o:Oper}{a:Act}{w:World}(hg:o.guard=none)(hS:∀ a w,S a w→a.defers=[])
 (h:wpList P ops' (fun e a w=>e=.normal∧S a w) [o] a w) (next:∀ a1 w1,S a1 w1→(∃ v,a1=a.put o.dst v)→Q .normal a1 w1):wpList P ops Q [o] a w:=by
 have hw:∀ ops,Region.wanted o (yielded ops a.tmps)=true:=fun ops=>jF hg
 have hno:¬ LetsOut (fun e a w=>e=Exit.normal∧S a w):=fun⟨_,_,h,_⟩=>by cases h
 unfold wpList at h ⊢;rw[if_pos (hw _)] at h ⊢;rcases h with h|⟨_,h⟩
 case inr=>exact absurd h hno
 refine .inl ?_;unfold Oper.wp at h ⊢;generalize (execOp a.eval o).run P w=r at h ⊢
 match r,h with
 | .ok (.value v) w',h=>exact next _ _ h.2 ⟨_,rfl⟩
 | .ok .skip w',h=>exact next _ _ h.2 ⟨_,rfl⟩
 | .ok (.defer d) w',h=>exact absurd (hS _ _ h.2) (by cases o.dst<;>simp[Act.put])
 | .ok (.enter f args) w',h=>
  refine Calls.mono h fun e w'' h=>?_
  match e,h with
  | .returned v,h=>exact next _ _ h.2 ⟨_,rfl⟩
  | .panicked c,h=>cases h.1
  | .outgrown,h=>exact absurd h hno
 | .ok (.row row args) w',h=>exact Rows.mono h fun v w'' h=>next _ _ h.2 ⟨_,rfl⟩
 | .halt (.panic v) w',h=>cases h.1
def Bt:Nat→Slots→List fG
 | _,[]=>[]
 | n,(s,v)::r=>⟨s,n,[],true,v⟩::Bt (n+1) r
theorem jG:∀ {S:Slots} {n:Nat} {e:fG},e∈Bt n S→∃ i s v,S[i]?=some (s,v)∧e=⟨s,n+i,[],true,v⟩
 | [],_,_,h=>by cases h
 | (s,v)::r,n,e,h=>by
  rcases arl.1 h with rfl|h
  ·exact⟨0,s,v,rfl,rfl⟩
  ·obtain⟨i,s',v',h1,h2⟩:=jG h;exact⟨i+1,s',v',by simpa using h1,by rw[h2,show n+1+i=n+(i+1) by omega]⟩
def aht(s:Nat)(o:Oper):Oper:={ o with dst:=some s }
def Ap(o:Oper)(S:Slots):Array Oper:=(S.map (fun x=>aht x.1 o)++[o]).toArray
section
variable {a:Act} {N:Nat} {l S:Slots} {o:Oper}
theorem NI:(Ap o S)[S.length]?=some o:=by
 unfold Ap;simp
theorem UW:iL (Bt 0 S) S.length:=by
 refine⟨?_,?_,?_,?_⟩
 ·intro e he;obtain⟨i,s,v,h1,rfl⟩:=jG he;have:=(arw.1 h1).1;simpa using this
 ·intro e he e' he' hj;obtain⟨i,s,v,h1,rfl⟩:=jG he;obtain⟨i',s',v',h1',rfl⟩:=jG he';obtain rfl:i=i':=by simpa using hj
  rw[h1] at h1';obtain⟨rfl,rfl⟩:=Prod.mk.inj (arp h1');rfl
 ·intro e he x hx;obtain⟨i,s,v,h1,rfl⟩:=jG he;cases hx
 ·intro e he;obtain⟨i,s,v,h1,rfl⟩:=jG he;simp
theorem acW(hf:Fr a N)(hS:∀ x∈S,At a x.1 x.2)(hl:∀ q v,look q l=some v→At a q v):Inv (Ap o S) a N l (Bt 0 S) S.length:=by
 refine⟨hf,UW,?_,?_,fun q v _ h=>hl q v h⟩
 ·intro e he;obtain⟨i,s,v,h1,rfl⟩:=jG he;have hi:=(arw.1 h1).1;simp only[Ap,Nat.zero_add,List.getElem?_toArray];rw[arI (by simpa using hi),arx,h1];rfl
 ·intro e he;obtain⟨i,s,v,h1,rfl⟩:=jG he;exact hS (s,v) (ars h1)
end
def xY:List Kn→Oper→Slots
 | [],_=>[]
 | (j,d,v)::r,o=>bif sH o j then (d,v)::xY r o else xY r o
theorem zi{o:Oper}{x:Nat×Value}:∀ {K:List Kn},x∈xY K o→∃ k∈K,sH o k.1=true∧k.2=x
 | [],h=>by cases h
 | (j,d,v)::r,h=>by
  unfold xY at h
  cases e:sH o j with
  | false=>
   rw[e] at h;obtain⟨k,h1,h2⟩:=zi h;exact⟨k,arn _ h1,h2⟩
  | true=>
   rw[e] at h;rcases arl.1 h with rfl|h
   ·exact⟨_,arq ..,e,rfl⟩
   ·obtain⟨k,h1,h2⟩:=zi h;exact⟨k,arn _ h1,h2⟩
theorem Oi{o:Oper}{j:Nat}(h:sH o j=true):Bd o j:=by
 unfold sH at h;obtain⟨⟨on,gr⟩,h1,h2⟩:=List.any_eq_true.1 h;simp only[arD,beq_iff_eq] at h2;obtain⟨h2,rfl⟩:=h2;exact⟨gr,h1,h2⟩
def Vi:List Kn→Slots
 | []=>[]
 | (_,d,v)::r=>(d,v)::Vi r
theorem Hl{x:Nat×Value}:∀ {K:List Kn},x∈Vi K→∃ k∈K,k.2=x
 | [],h=>by cases h
 | (j,d,v)::r,h=>by
  rcases arl.1 h with rfl|h
  ·exact⟨_,arq ..,rfl⟩
  ·obtain⟨k,h1,h2⟩:=Hl h;exact⟨k,arn _ h1,h2⟩
theorem AJ{q:Nat}{v:Value}:∀ {l:Slots},look q l=some v→(q,v)∈l
 | [],h=>by cases h
 | (s,u)::r,h=>by
  rw[bB] at h
  cases e:q == s with
  | true=>
   rw[e] at h;obtain rfl:u=v:=arp h;obtain rfl:q=s:=by simpa using e
   exact arq ..
  | false=>
   rw[e] at h;exact arn _ (AJ h)
theorem mZ{q:Nat}:∀ {l:Slots},look q l=none→∀ x∈l,x.1≠q
 | [],_,x,hx=>by cases hx
 | (s,u)::r,h,x,hx=>by
  rw[bB] at h
  cases e:q == s with
  | true=>rw[e] at h;cases h
  | false=>
   rw[e] at h;rcases arl.1 hx with rfl|hx
   ·exact fun h'=>(by simpa using e:q≠s) h'.symm
   ·exact mZ h x hx
theorem ZP{o:Option Value}(h:isN o=true):o=none:=by cases o with|none=>rfl|some v=>cases h
theorem AL{q:Nat}{v:Value}:∀ {l r:Slots},look q (l++r)=some v→look q l=some v∨look q r=some v
 | [],_,h=>.inr h
 | (s,u)::t,r,h=>by
  rw[List.cons_append,bB] at h;rw[bB]
  cases e:q == s with
  | true=>rw[e] at h;exact .inl h
  | false=>
   rw[e] at h;exact AL h
def ldJ(B:Nat)(w0:World)(bs:List Bx)(D:TD)(g off:Nat)(k:Value→Prop):Prop:=
 bif D.one' then
  (∃ i,sq bs i fun b=>match b with|(b,T,cs)=>bif Nat.blt T 9000 then b=g∧sq cs.toList off k else False)∨(∃ v,(∀ u,aru B w0 u→u.cell? ⟨g,off,none⟩=some v)∧k v)
 else
  (∃ i,sq bs i fun b=>match b with|(b,T,cs)=>bif Nat.blt T 9000 then b=g∧(IJ off cs.toList fun r=>GP (iC D) r fun l=>k (.agg l.toArray)) else False) ∨
   (∃ cs:List Value,(∀ u,aru B w0 u→∀ j v,cs[j]?=some v→u.cell? ⟨g,off+j,none⟩=some v)∧pW cs (iC D) (k (.agg cs.toArray)))
theorem ZN{B:Nat}{w0:World}{bs:List Bx}{D:TD}{g off:Nat}{kk:Value→Prop}(h:ldJ B w0 bs D g off kk){ty:TypeId}(hD:iV Tryz.prog ty D=true):∃ v,kk v∧∀ u,Jm B w0 bs u→∀ (a:Act) (o:Oper) (x:Operand),o.op=.load ty x→a.eval x=.pointer (some ⟨g,off,none⟩)→(execOp a.eval o).run Tryz.prog u=.ok (.value v) u:=by
 unfold ldJ at h
 cases h1:D.one' with
 | true=>
  rw[h1] at h;obtain⟨dd,hu,hd⟩:=R9 hD h1;rcases h with⟨i,h⟩|⟨v,h2,h3⟩
  ·obtain⟨⟨b,T,cs⟩,hb,h⟩:=fV h;obtain⟨hT,rfl,h3⟩:=bC h;obtain⟨v,h4,h5⟩:=fV h3;exact⟨v,h5,fun u J a o x ho hx=>cM ho hx hu (by cases dd<;>first|rfl|cases hd) ((J.b i hb hT).cell off▸by simpa using h4)⟩
  ·exact⟨v,h3,fun u J a o x ho hx=>cM ho hx hu (by cases dd<;>first|rfl|cases hd) (h2 u J.below)⟩
 | false=>
  rw[h1] at h;obtain⟨dd,hu,hd,hs⟩:=yS hD h1;rcases h with⟨i,h⟩|⟨cs,h2,h3⟩
  ·obtain⟨⟨b,T,cs⟩,hb,h⟩:=fV h;obtain⟨hT,rfl,h3⟩:=bC h;obtain⟨h4,h5⟩:=II h3;obtain⟨h6,h7⟩:=GL h5;refine⟨_,h7,fun u J a o x ho hx=>?_⟩;refine gu _ ho hx hu (by cases dd<;>first|rfl|cases hd) (hs.trans ?_) (zO (J.b i hb hT) ?_)
   ·rw[arE,Nat.min_eq_left h6]
   ·rw[arE,Nat.min_eq_left h6]
  ·obtain⟨h4,h5⟩:=gV h3;exact⟨_,h5,fun u J a o x ho hx=>gu cs ho hx hu (by cases dd<;>first|rfl|cases hd) (hs.trans (by rw[h4])) (h2 u J.below)⟩
def XR(B:Nat)(w0:World)(l:Slots)(uJ:List Bx)(L:List Oper):List Nat→List Kn→(List Kn→Prop)→Prop
 | [],K,f=>f K
 | j::r,K,f=>sq L j fun o=>match o.guard with
  | some _=>False
  | none=>match o.dst with
   | none=>False
   | some d=>match o.op with
    | .load ty x=>pP l (Bt 0 (xY K o)) [] x fun u=>Ef u False fun g off=>Cl ty (fun D=>ldJ B w0 uJ D g off fun v=>rA K [(j,d,v)] fun K'=>XR B w0 l uJ L r K' f) TT
    | op=>pop l (Bt 0 (xY K o)) [] true (fun v=>rA K [(j,d,v)] fun K'=>XR B w0 l uJ L r K' f) op
def FlP(B:Nat)(w0:World)(N:Nat)(l:Slots)(uJ:List Bx)(L:List Oper)(K:List Kn)(k:Kn):Prop:=
 ∃ o,L[k.1]?=some o∧o.dst=some k.2.1∧o.guard=none∧∀ (b:Act) (u:World),Fr b N→Jm B w0 uJ u→(∀ q v,look q l=some v→At b q v)→(∀ k'∈K,sH o k'.1=true→At b k'.2.1 k'.2.2)→(execOp b.eval o).run Tryz.prog u=.ok (.value k.2.2) u
section
variable {B:Nat} {w0:World} {N:Nat} {l:Slots} {uJ:List Bx} {L:List Oper}
theorem RX:∀ {F:List Nat} {K:List Kn} {f:List Kn→Prop},XR B w0 l uJ L F K f→∃ K1,f (K++K1)∧K1.map (·.1)=F∧∀ k∈K1,FlP B w0 N l uJ L (K++K1) k
 | [],K,f,h=>⟨[],by rw[List.append_nil];unfold XR at h;exact h,rfl,by simp⟩
 | j::r,K,f,h=>by
  unfold XR at h;obtain⟨o,ho,h⟩:=fV h;split at h
  ·exact h.elim
  rename_i hg;split at h
  ·exact h.elim
  rename_i d hd
  have hE:∀ (b:Act),Fr b N→(∀ q v,look q l=some v→At b q v)→(∀ k'∈K,sH o k'.1=true→At b k'.2.1 k'.2.2)→Inv (Ap o (xY K o)) b N l (Bt 0 (xY K o)) (xY K o).length:=fun b hf hl hk=>acW hf (fun x hx=>by
   obtain⟨k,h1,h2,rfl⟩:=zi hx;exact hk k h1 h2) hl
  have main:∀ v:Value,(∀ (b:Act) (u:World),Fr b N→Jm B w0 uJ u→Inv (Ap o (xY K o)) b N l (Bt 0 (xY K o)) (xY K o).length→(execOp b.eval o).run Tryz.prog u=.ok (.value v) u)→(rA K [(j,d,v)] fun K'=>XR B w0 l uJ L r K' f)→∃ K1,f (K++K1)∧K1.map (·.1)=j::r∧∀ k∈K1,FlP B w0 N l uJ L (K++K1) k:=by
   intro v hv h;obtain⟨K1,h1,h2,h3⟩:=RX (gX h);rw[List.append_assoc] at h1 h3;refine⟨(j,d,v)::K1,h1,by simp[h2],fun k hk=>?_⟩;rcases arl.1 hk with rfl|hk
   ·exact⟨o,ho,hd,hg,fun b u hf hJ hl hkn=>hv b u hf hJ (hE b hf hl fun k' hk'=>hkn k' (List.mem_append_left _ hk'))⟩
   ·exact h3 k hk
  split at h
  ·rename_i ty x hop;obtain⟨u,h1,h5⟩:=bQ h;rcases nL h5 with⟨g,off,rfl,h6⟩|h6
   case inr=>exact h6.elim
   obtain⟨D,hD,h7⟩:=jB h6;obtain⟨v,h2,h3⟩:=ZN h7 hD;exact main v (fun b u hf hJ I=>h3 u hJ b o x hop (I.E h1 (by simp))) h2
  ·obtain⟨v,h2,h3⟩:=KI UW (by simp) h;exact main v (fun b u hf hJ I=>h3 b u o rfl (fun x _ π' v hR hc=>I.E hR hc) rfl) h2
end
def newS:Nat→List fG→Slots→(Slots→Prop)→Prop
 | 0,_,T,f=>f T
 | n+1,⟨s,_,p,t,v⟩::r,T,f=>(match p with
  | []=>(match t with
   | true=>newS n r T fun T'=>f ((s,v)::T')
   | false=>False)
  | _::_=>False)
 | _+1,[],_,_=>False
theorem Eo:∀ {n:Nat} {m:List fG} {T:Slots} {f:Slots→Prop},newS n m T f→∃ T',f T'∧∀ x∈T',x∈T∨∃ e∈m,e.t=true∧(e.s,e.v)=x
 | 0,_,T,f,h=>⟨T,h,fun x hx=>.inl hx⟩
 | n+1,⟨s,j,p,t,v⟩::r,T,f,h=>by
  unfold newS at h;split at h
  ·split at h
   ·obtain⟨T',h1,h2⟩:=Eo h;refine⟨_,h1,fun x hx=>?_⟩;rcases arl.1 hx with rfl|hx
    ·exact .inr ⟨_,arq ..,rfl,rfl⟩
    ·rcases h2 x hx with h3|⟨e,h3,h4⟩
     ·exact .inl h3
     ·exact .inr ⟨e,arn _ h3,h4⟩
   ·exact h.elim
  ·exact h.elim
 | _+1,[],_,_,h=>h.elim
def Sd:List Nat→List Bx→(List Bx→Prop)→Prop
 | [],_,f=>f []
 | i::r,bs,f=>sq bs i fun b=>Sd r bs fun l=>f (b::l)
theorem D9:∀ {kb:List Nat} {bs:List Bx} {f:List Bx→Prop},Sd kb bs f→∃ l,f l∧∀ b∈l,b∈bs
 | [],_,_,h=>⟨[],h,by simp⟩
 | i::r,bs,f,h=>by
  obtain⟨b,h1,h2⟩:=fV h;obtain⟨l,h3,h4⟩:=D9 h2;refine⟨_,h3,fun x hx=>?_⟩;rcases arl.1 hx with rfl|hx
  ·exact ars h1
  ·exact h4 x hx
def rvK:List Bx→List Bx→(List Bx→Prop)→Prop
 | [],acc,f=>f acc
 | b::r,acc,f=>rvK r (b::acc) f
theorem Kt:∀ {bs acc:List Bx} {f:List Bx→Prop},rvK bs acc f→∃ l,f l∧∀ b∈l,b∈bs∨b∈acc
 | [],acc,_,h=>⟨acc,h,fun _ h=>.inr h⟩
 | b::r,acc,f,h=>by
  obtain⟨l,h1,h2⟩:=Kt (bs:=r) h;refine⟨l,h1,fun x hx=>?_⟩;rcases h2 x hx with h3|h3
  ·exact .inl (arn _ h3)
  ·rcases arl.1 h3 with rfl|h3
   ·exact .inl (arq ..)
   ·exact .inr h3
def oN(o:Oper)(T:Slots):Bool:=match o.dst with
 | none=>true
 | some d=>isN (look d T)
def Zn(q:Nat):List Kn→Bool
 | []=>true
 | (_,d,_)::r=>bif Nat.beq q d then false else Zn q r
theorem Ko{q:Nat}:∀ {K:List Kn},Zn q K=true→∀ k∈K,k.2.1≠q
 | [],_,_,h=>by cases h
 | (j,d,v)::r,h,k,hk=>by
  unfold Zn at h
  cases e:Nat.beq q d with
  | true=>rw[e] at h;cases h
  | false=>
   rw[e] at h;rcases arl.1 hk with rfl|hk
   ·intro e';have e':d=q:=e';rw[e',Nat.beq_refl] at e;cases e
   ·exact Ko h k hk
def frK(K:List Kn):Slots→Bool
 | []=>true
 | (q,_)::r=>bif Zn q K then frK K r else false
theorem Ut{K:List Kn}:∀ {T:Slots},frK K T=true→∀ x∈T,∀ k∈K,k.2.1≠x.1
 | [],_,_,h=>by cases h
 | (q,v)::r,h,x,hx=>by
  unfold frK at h
  cases e:Zn q K with
  | false=>rw[e] at h;cases h
  | true=>
   rw[e] at h;rcases arl.1 hx with rfl|hx
   ·exact Ko e
   ·exact Ut h x hx
def noJ(j:Nat):List Kn→Bool
 | []=>true
 | (i,_,_)::r=>bif Nat.beq j i then false else noJ j r
theorem SQ{j:Nat}:∀ {K:List Kn},noJ j K=true→∀ k∈K,k.1≠j
 | [],_,_,h=>by cases h
 | (i,d,v)::r,h,k,hk=>by
  unfold noJ at h
  cases e:Nat.beq j i with
  | true=>rw[e] at h;cases h
  | false=>
   rw[e] at h;rcases arl.1 hk with rfl|hk
   ·intro e';have e':i=j:=e';rw[e',Nat.beq_refl] at e;cases e
   ·exact SQ h k hk
theorem EG{ds:List Nat}:∀ {l:Slots} {f:Slots→Prop},Uy ds l f→∃ l',f l'∧∀ x∈l',x∈l
 | [],f,h=>⟨[],h,fun _ h=>h⟩
 | (s,v)::r,f,h=>by
  unfold Uy at h
  cases hm:iO s ds with
  | true=>
   rw[hm] at h;obtain⟨l',h1,h2⟩:=EG h;exact⟨l',h1,fun x hx=>arn _ (h2 x hx)⟩
  | false=>
   rw[hm] at h;obtain⟨l',h1,h2⟩:=EG h;exact⟨_,h1,fun x hx=>(arl.1 hx).elim (fun e=>e▸arq ..) fun hx=>arn _ (h2 x hx)⟩
def flO(d:Option Nat)(T:Slots)(f:Slots→Prop):Prop:=match d with
 | none=>f T
 | some q=>Uy [q] T f
theorem aaC{d:Option Nat}{T:Slots}{f:Slots→Prop}(h:flO d T f):∃ l',f l'∧∀ x∈l',x∈T:=by
 unfold flO at h;split at h
 ·exact⟨T,h,fun _ h=>h⟩
 ·exact EG h
def ZL(K:List Kn)(l:Slots):List Nat→(Slots→Prop)→Prop
 | [],f=>f []
 | d::r,f=>match look d l with
  | none=>ZL K l r f
  | some v=>bif Zn d K then ZL K l r fun T=>f ((d,v)::T) else ZL K l r f
theorem Er{K:List Kn}{l:Slots}:∀ {ds:List Nat} {f:Slots→Prop},ZL K l ds f→∃ T,f T∧∀ x∈T,look x.1 l=some x.2∧∀ k∈K,k.2.1≠x.1
 | [],f,h=>⟨[],h,fun _ h=>by cases h⟩
 | d::r,f,h=>by
  unfold ZL at h;split at h
  ·exact Er h
  ·rename_i v hv
   cases e:Zn d K with
   | false=>rw[e] at h;exact Er h
   | true=>
    rw[e] at h;obtain⟨T,h1,h2⟩:=Er h;refine⟨_,h1,fun x hx=>?_⟩;rcases arl.1 hx with rfl|hx
    ·exact⟨hv,Ko e⟩
    ·exact h2 x hx
def knA(j:Nat)(v:Value)(p:Prop):List Kn→Prop
 | []=>p
 | (i,_,u)::r=>bif Nat.beq i j then u=v∧knA j v p r else knA j v p r
theorem Ln{j:Nat}{v:Value}{p:Prop}:∀ {K:List Kn},knA j v p K→p∧∀ k∈K,k.1=j→k.2.2=v
 | [],h=>⟨h,fun _ h=>by cases h⟩
 | (i,d,u)::r,h=>by
  unfold knA at h
  cases e:Nat.beq i j with
  | true=>
   rw[e] at h;obtain⟨h1,h2⟩:=Ln (K:=r) h.2;exact⟨h1,fun k hk=>(arl.1 hk).elim (fun e _=>by rw[e];exact h.1) (h2 k)⟩
  | false=>
   rw[e] at h;obtain⟨h1,h2⟩:=Ln (K:=r) h;refine⟨h1,fun k hk hkj=>?_⟩;rcases arl.1 hk with rfl|hk
   ·have hkj:i=j:=hkj;rw[hkj,Nat.beq_refl] at e;cases e
   ·exact h2 k hk hkj
def isD(s:Nat):Option Nat→Bool
 | none=>false
 | some q=>Nat.beq q s
def knT(K:List Kn)(j:Nat)(d:Option Nat)(p:Prop):Slots→Prop
 | []=>False
 | (s,v)::r=>match r with
  | []=>bif isD s d then knA j v p K else False
  | _::_=>False
def vop(B:Nat)(w0:World)(N:Nat)(l:Slots)(L:List Oper)(K:List Kn)(j:Nat)(T:Slots)(bs:List Bx)(rs:List Rw)(w:World)(k:Slots→List Bx→List Rw→World→Prop):Prop:=
 sq L j fun o=>match o.guard with
  | some _=>False
  | none=>flO o.dst T fun T1=>bif oN o T1 then bif noJ j K then rA T1 (xY K o) fun S=>Nh B w0 N l o S.length (Bt 0 S) bs rs w fun m' bs' rs' w'=>newS (m'.length-S.length) m' T1 fun T'=>bif frK K T' then k T' bs' rs' w' else False else (rA T1 (xY K o) fun S=>Nh B w0 N l o S.length (Bt 0 S) bs rs w fun m' bs' rs' w'=>newS (m'.length-S.length) m' [] fun T'=>knT K j o.dst (k T1 bs' rs' w') T') else False
def vst(B:Nat)(w0:World)(N:Nat)(l:Slots)(L:List Oper)(K:List Kn)(kb:List Nat)(uJ:List Bx)(k:Slots→List Bx→List Rw→World→Prop):Tr→Slots→List Bx→List Rw→World→Prop
 | .done,T,bs,rs,w=>rA (Vi K) l fun r=>rA T r fun l'=>k l' bs rs w
 | .step j t,T,bs,rs,w=>vop B w0 N l L K j T bs rs w fun T' bs' rs' w'=>(rvK bs' [] fun r=>Sd kb r fun b=>b=uJ)∧vst B w0 N l L K kb uJ k t T' bs' rs' w'
 | .last j,T,bs,rs,w=>vop B w0 N l L K j T bs rs w fun T' bs' rs' w'=>rA (Vi K) l fun r=>rA T' r fun l'=>k l' bs' rs' w'
 | .alt x y,T,bs,rs,w=>vst B w0 N l L K kb uJ k x T bs rs w∧vst B w0 N l L K kb uJ k y T bs rs w
section
variable {B:Nat} {w0:World} {N:Nat} {l:Slots} {uJ:List Bx} {L:List Oper} {K:List Kn} {kb:List Nat} {k:Slots→List Bx→List Rw→World→Prop}
theorem XO{F:List Nat}{q:Nat}(h:∀ k∈K,k.2.1≠q):(xs F K).contains q=false:=by
 cases e:(xs F K).contains q with
 | false=>rfl
 | true=>
  have e:q∈xs F K:=by simpa using e
  unfold xs at e;obtain⟨k,h1,h2⟩:=List.mem_filterMap.1 e;split at h2
  ·exact absurd (arp h2) (h k h1)
  ·cases h2
structure TI (N:Nat) (l:Slots) (K:List Kn) (T:Slots) (a:Act):Prop where
 fr:Fr a N
 l_:∀ q v,look q l=some v→At a q v
 T_:∀ x∈T,At a x.1 x.2
 K_:∀ x∈T,∀ k∈K,k.2.1≠x.1
variable (Qg:∀ q v,look q l=some v→∀ k∈K,k.2.1≠q) (pX:∀ (j:Nat) (o:Oper) (d:Nat),L[j]?=some o→o.dst=some d→look d l=none∧d<N)
include Qg in
theorem TI.agr{F:List Nat}{T:Slots}{a a':Act}(h:TI N l K T a)(hA:Jy (xs F K) a a'):TI N l K T a':=
 ⟨hA.fr h.fr,fun q v hq=>hA.old (XO (Qg q v hq)) (h.l_ q v hq),fun x hx=>hA.old (XO (h.K_ x hx)) (h.T_ x hx),h.K_⟩
include Qg in
theorem TI.end{F:List Nat}{T:Slots}{a a':Act}(h:TI N l K T a)(hA:Jy (xs F K) a a')(hk:∀ (n:Nat) (k:Kn),K[n]?=some k→At a' k.2.1 k.2.2):Fs a' N (T++(Vi K++l)):=by
 have h':=h.agr Qg hA;refine⟨h'.fr,fun q v hq=>?_⟩;rcases AL hq with hq|hq
 ·exact h'.T_ _ (AJ hq)
 ·rcases AL hq with hq|hq
  ·obtain⟨k,h1,h2⟩:=Hl (AJ hq);obtain⟨i,hi⟩:=List.getElem?_of_mem h1;have:=hk i k hi
   rwa [h2] at this
  ·exact h'.l_ q v hq
include Qg pX in
theorem RW{F:List Nat}{ops:Array Oper}{Q':Exit→Act→World→Prop}{j:Nat}{T:Slots}{bs:List Bx}{rs:List Rw}{a a':Act}{w:World}{kk:Slots→List Bx→List Rw→World→Prop}(hv:vop B w0 N l L K j T bs rs w kk)(h:TI N l K T a)(M:aV B w0 w bs rs){o:Oper}(ho:L[j]?=some o)
 (hA:Jy (xs F K) a a') (hb:∀ (n:Nat) (k:Kn),K[n]?=some k→Bd o k.1→At a' k.2.1 k.2.2)
 (next:∀ a1 w1 T' bs' rs',TI N l K T' a1→aV B w0 w1 bs' rs'→kk T' bs' rs' w1→Moved K j o a' a1→Q' .normal a1 w1):wpList Tryz.prog ops Q' [o] a' w:=by
 unfold vop at hv;obtain⟨o',ho',hv⟩:=fV hv;obtain rfl:o'=o:=arp (ho'.symm.trans ho);split at hv
 ·exact hv.elim
 rename_i hg;obtain⟨T1,hv,hT1⟩:=aaC hv;obtain⟨hoN,hv⟩:=bC hv;have h':=h.agr Qg hA
 have keep:∀ v q u,(∀ d,o'.dst=some d→d≠q)→At a' q u→At (a'.put o'.dst v) q u:=fun v q u hq hu=>by
  cases hd:o'.dst with
  | none=>exact hu
  | some d=>
   refine(pQ h'.fr (pX j o' d ho hd).2).old ?_ hu;simpa using fun e=>hq d hd e.symm
 have hT:∀ v,∀ x∈T1,At (a'.put o'.dst v) x.1 x.2:=fun v x hx=>keep v _ _ (fun d hd=>by
  unfold oN at hoN;rw[hd] at hoN;exact fun e=>mZ (ZP hoN) x hx e.symm) (h'.T_ x (hT1 x hx))
 have hS:∀ x∈T1++xY K o',At a' x.1 x.2:=fun x hx=>by
  rcases arL.1 hx with hx|hx
  ·exact h'.T_ x (hT1 x hx)
  ·obtain⟨k,h1,h2,rfl⟩:=zi hx;obtain⟨i,hi⟩:=List.getElem?_of_mem h1;exact hb i k hi (Oi h2)
 have I:Inv (Ap o' (T1++xY K o')) a' N l (Bt 0 (T1++xY K o')) (T1++xY K o').length:=acW h'.fr hS h'.l_
 cases hnJ:noJ j K with
 | false=>
  rw[hnJ] at hv;replace hv:=gX hv;refine Gr (ops':=Ap o' (T1++xY K o')) (S:=fun a1 w1=>∃ m' bs' rs',Inv (Ap o' (T1++xY K o')) a1 N l m' ((T1++xY K o').length+1)∧aV B w0 w1 bs' rs'∧newS (m'.length-(T1++xY K o').length) m' [] fun T'=>knT K j o'.dst (kk T1 bs' rs' w1) T') hg (fun a w ⟨_,_,_,I,_⟩=>I.fr.defers) (yU I M NI hv fun a1 m' bs' rs' w1 I' M' h'=>arB ⟨rfl,m',bs',rs',I',M',h'⟩) ?_;rintro a1 w1 ⟨m',bs',rs',I',M',hn⟩ ⟨v,rfl⟩;obtain⟨T',h1,h2⟩:=Eo hn;unfold knT at h1;split at h1
  ·exact h1.elim
  rename_i s u r;split at h1
  ·obtain⟨h3,h4⟩:=bC h1;obtain⟨h5,h6⟩:=Ln h4
   obtain⟨d,hd⟩:∃ d,o'.dst=some d:=by
    cases hd:o'.dst with
    | none=>rw[hd] at h3;cases h3
    | some d=>exact⟨d,rfl⟩
   have hs:d=s:=by rw[hd] at h3;exact arG h3
   have hat:At (a'.put o'.dst v) s u:=by
    rcases h2 (s,u) (arq ..) with h7|⟨e,h7,h8,h9⟩
    ·cases h7
    ·have:=I'.at_ e h7;rw[h8] at this;obtain⟨rfl,rfl⟩:=Prod.mk.inj h9;exact this
   have hp:Put a' d v (a'.put o'.dst v):=by rw[hd];exact pQ h'.fr (pX j o' d ho hd).2
   have huv:u=v:=by
    have h10:=hp.now;rw[hs] at h10;exact arp (hat.symm.trans h10)
   refine next _ _ T1 bs' rs' ⟨I'.fr,fun q u hq=>keep v _ _ (fun d hd e=>?_) (h'.l_ q u hq),hT v,fun x hx=>h'.K_ x (hT1 x hx)⟩ M' h5 (.some d v hd hp fun n k hk hkj=>(h6 k (ars hk) hkj).trans huv)
   rw[← e,(pX j o' d ho hd).1] at hq;cases hq
  ·exact h1.elim
 | true=>
 rw[hnJ] at hv;replace hv:=gX hv;refine Gr (ops':=Ap o' (T1++xY K o')) (S:=fun a1 w1=>∃ m' bs' rs',Inv (Ap o' (T1++xY K o')) a1 N l m' ((T1++xY K o').length+1)∧aV B w0 w1 bs' rs'∧newS (m'.length-(T1++xY K o').length) m' T1 fun T'=>bif frK K T' then kk T' bs' rs' w1 else False) hg (fun a w ⟨_,_,_,I,_⟩=>I.fr.defers) (yU I M NI hv fun a1 m' bs' rs' w1 I' M' h'=>arB ⟨rfl,m',bs',rs',I',M',h'⟩) ?_;rintro a1 w1 ⟨m',bs',rs',I',M',hn⟩ ⟨v,rfl⟩;obtain⟨T',h1,h2⟩:=Eo hn;obtain⟨h3,h4⟩:=bC h1;refine next _ _ T' bs' rs' ⟨I'.fr,fun q u hq=>keep v _ _ (fun d hd e=>?_) (h'.l_ q u hq),fun x hx=>?_,Ut h3⟩ M' h4 ?_
 ·rw[← e,(pX j o' d ho hd).1] at hq;cases hq
 ·rcases h2 x hx with h5|⟨e,h5,h6,rfl⟩
  ·exact hT v x h5
  ·have:=I'.at_ e h5
   rwa [h6] at this
 ·cases hd:o'.dst with
  | none=>exact .none hd rfl
  | some d=>
   refine .some d v hd (pQ h'.fr (pX j o' d ho hd).2) fun n k hk hkj=>absurd hkj (SQ hnJ k (ars hk))
include Qg pX in
theorem DW{F:List Nat}{ops:Array Oper}{Q:Act→World→Prop}(hQ:∀ a l' bs rs w,Fs a N l'→aV B w0 w bs rs→k l' bs rs w→Q a w):∀ {t:Tr} {T:Slots} {bs:List Bx} {rs:List Rw} {a:Act} {w:World},vst B w0 N l L K kb uJ k t T bs rs w→TI N l K T a→aV B w0 w bs rs→OM Tryz.prog ops L K (xs F K) (Jm B w0 uJ) Q t a w
 | .done,T,bs,rs,a,w,hv,h,M=>fun a' hA hk=>hQ a' _ bs rs w (h.end Qg hA hk) M (gX (gX hv))
 | .step j t,T,bs,rs,a,w,hv,h,M=>fun o ho a' hA hb Q' hn=>RW Qg pX hv h M ho hA hb fun a1 w1 T' bs' rs' h' M' ⟨h1,h2⟩ mv=>by
  refine hn a1 w1 ⟨M'.below,fun b W5=>M'.box b ?_⟩ mv (DW hQ h2 h' M');obtain⟨r,h3,h4⟩:=Kt h1;obtain⟨s,h5,h6⟩:=D9 h3;subst h5;rcases h4 b (h6 b W5) with h7|h7
  ·exact h7
  ·cases h7
 | .last j,T,bs,rs,a,w,hv,h,M=>fun o ho a' hA hb Q' hn=>RW Qg pX hv h M ho hA hb fun a1 w1 T' bs' rs' h' M' h1 mv=>hn a1 w1 mv fun a2 hA2 hk=>hQ a2 _ bs' rs' w1 (h'.end Qg hA2 hk) M' (gX (gX h1))
 | .alt x y,T,bs,rs,a,w,hv,h,M=>⟨DW hQ hv.1 h M,DW hQ hv.2 h M⟩
end
def dsL:List Oper→(List Nat→Prop)→Prop
 | [],f=>f []
 | o::r,f=>match o.dst with
  | some d=>dsL r fun s=>f (d::s)
  | none=>dsL r f
theorem L6:∀ {L:List Oper} {f:List Nat→Prop},dsL L f→f (L.filterMap (·.dst))
 | [],_,h=>h
 | o::r,f,h=>by
  unfold dsL at h;split at h
  ·rename_i d hd;rw[List.filterMap_cons,hd];exact L6 h
  ·rename_i hd;rw[List.filterMap_cons,hd];exact L6 h
def Zm(N:Nat)(L:List Oper)(F:List Nat)(t:Tr):Bool:=
 ordered 0 L&&(decide (L.filterMap (·.dst)).Nodup&&(((L.filterMap (·.dst)).all fun s=>Nat.blt s N)&&(((cand L F []).all fun i=>(heads t).contains i)&&nG L F t [])))
def WD(L:List Oper)(F:List Nat):List Kn→Bool
 | []=>true
 | (j,d,_)::r=>bif F.contains j then false else (match L[j]? with
  | none=>false
  | some o=>bif isD d o.dst then WD L F r else false)
theorem NU{L:List Oper}{F:List Nat}:∀ {K:List Kn},WD L F K=true→(∀ k∈K,∃ o:Oper,L[k.1]?=some o∧o.dst=some k.2.1)∧∀ k∈K,F.contains k.1=false
 | [],_=>⟨fun _ h=>(by cases h),fun _ h=>(by cases h)⟩
 | (j,d,v)::r,h=>by
  unfold WD at h
  cases e:F.contains j with
  | true=>rw[e] at h;cases h
  | false=>
   rw[e] at h
   cases e2:L[j]? with
   | none=>rw[e2] at h;cases h
   | some o=>
    rw[e2] at h
    cases e3:isD d o.dst with
    | false=>simp only[e3] at h;cases h
    | true=>
     simp only[e3] at h;obtain⟨h1,h2⟩:=NU (K:=r) h;refine⟨fun k hk=>?_,fun k hk=>?_⟩
     ·rcases arl.1 hk with rfl|hk
      ·refine⟨o,e2,?_⟩
       cases hd:o.dst with
       | none=>rw[hd] at e3;cases e3
       | some q=>rw[hd] at e3;exact congrArg some (arG e3)
      ·exact h1 k hk
     ·rcases arl.1 hk with rfl|hk
      ·exact e
      ·exact h2 k hk
theorem spk{X Y:Prop}{B:Nat}{w0 w:World}{N:Nat}{l:Slots}{bs:List Bx}{rs:List Rw}{ops:Array Oper}{id:Nat}{k:Slots→List Bx→List Rw→World→Prop}(K0:List Kn)(F:List Nat)(t:Tr)(kb:List Nat)(hk0:WD ops.toList F K0=true)(h0:Zm N ops.toList F t=true)
 (h:dsL ops.toList fun ds=>Uy ds l fun l'=>rvK bs [] fun r=>Sd kb r fun uJ=>XR B w0 l' uJ ops.toList F K0 fun K=>ZL K l ds fun T=>∀ w',aru w.heap.size w w'→aV B w0 w' bs rs→vst B w0 N l' ops.toList K kb uJ k t T bs rs w') :
 X∨Y∨∀ (a:Act) (Q:Exit→Act→World→Prop),Fs a N l→aV B w0 w bs rs→(∀ a' l' bs' rs' w',Fs a' N l'→aV B w0 w' bs' rs'→k l' bs' rs' w'→Q .normal a' w')→(Code.region id ops true).wp Tryz.prog Q a w:=by
 refine .inr (.inr fun a Q Fa M next=>?_);obtain⟨L,rfl⟩:∃ L:List Oper,ops=L.toArray:=⟨ops.toList,by simp⟩;rw[List.toList_toArray] at hk0 h0 h;unfold Zm at h0;simp only[arD,decide_eq_true_eq] at h0;obtain⟨fP,hnd,hbd,hcd,hsub⟩:=h0;obtain⟨l',h,hl'⟩:=Bg (L6 h);obtain⟨r,h,hr⟩:=Kt h;obtain⟨uJ,h,hJ⟩:=D9 h;obtain⟨K,h,hKF,hK⟩:=RX (N:=N) h;obtain⟨hk1,hk2⟩:=NU hk0;obtain⟨T0,h,hT0⟩:=Er h;have hin:∀ (j:Nat) (o:Oper) (d:Nat),L[j]?=some o→o.dst=some d→d∈L.filterMap (·.dst):=fun j o d ho hd=>List.mem_filterMap.2 ⟨o,ars ho,hd⟩
 have hno:∀ d,d∈L.filterMap (·.dst)→look d l'=none:=fun d hd=>by
  rw[hl',mY.2 hd];rfl
 have hold:∀ q v,look q l'=some v→look q l=some v∧(L.filterMap (·.dst)).contains q=false:=fun q v hq=>by
  rw[hl'] at hq
  cases hm:iO q (L.filterMap (·.dst)) with
  | true=>rw[hm] at hq;cases hq
  | false=>
   rw[hm] at hq;refine⟨hq,?_⟩
   cases hc:(L.filterMap (·.dst)).contains q with
   | false=>rfl
   | true=>
    have:q∈L.filterMap (·.dst):=by simpa using hc
    rw[mY.2 this] at hm;cases hm
 have hKo:∀ k∈K0++K,∃ o:Oper,L[k.1]?=some o∧o.dst=some k.2.1:=fun k hk=>by
  rcases arL.1 hk with hk|hk
  ·exact hk1 k hk
  ·obtain⟨o,h1,h2,-⟩:=hK k hk;exact⟨o,h1,h2⟩
 have hKd:∀ k∈K0++K,k.2.1∈L.filterMap (·.dst):=fun k hk=>by
  obtain⟨o,h1,h2⟩:=hKo k hk;exact hin _ _ _ h1 h2
 have Qg:∀ q v,look q l'=some v→∀ k∈K0++K,k.2.1≠q:=fun q v hq k hk e=>by
  have h1:=hno _ (hKd k hk);rw[e,hq] at h1;cases h1
 have pX:∀ (j:Nat) (o:Oper) (d:Nat),L[j]?=some o→o.dst=some d→look d l'=none∧d<N:=fun j o d ho hd=>⟨hno d (hin j o d ho hd),by
  have:=arC.1 hbd d (hin j o d ho hd);simpa using this⟩
 have Md:=M.keep (w':=w.drew) (Below.refl _ _).drew;refine DQ (K0++K) F t (Jm B w0 uJ) (by kernel_rfl) fP ?_ ?_ hnd hbd hcd hsub Fa.fr ?_ ⟨Md.below,fun b hb=>Md.box b ?_⟩ (DW Qg pX (fun a l' bs rs w F M h=>next a l' bs rs w F M h) (h w.drew (Below.refl _ _).drew Md) ⟨Fa.fr,fun q v hq=>Fa.at_ q v (hold q v hq).1,fun x hx=>Fa.at_ _ _ (hT0 x hx).1,fun x hx=>(hT0 x hx).2⟩ Md)
 ·rw[arC];intro k hk;obtain⟨o,h1,h2⟩:=hKo k hk;simp[h1,h2]
 ·rw[arC];intro i hi;rw[← hKF] at hi;obtain⟨k,hk,rfl⟩:=aro.1 hi;exact List.any_eq_true.2 ⟨k,List.mem_append_right _ hk,by simp⟩
 ·have key:∀ K2:List Kn,(∀ k∈K2,F.contains k.1=true→FlP B w0 N l' uJ L (K0++K) k)→zH Tryz.prog L F (K0++K) (Jm B w0 uJ) a N K2:=by
   intro K2
   induction K2 with
   | nil=>intro _;trivial
   | cons k r ih=>
    intro h2;refine⟨fun hFk o ho b u hf hj hq hb=>?_,ih fun k' hk'=>h2 k' (arn _ hk')⟩;obtain⟨o',h3,-,h4,h5⟩:=h2 k (arq ..) hFk;obtain rfl:o'=o:=arp (h3.symm.trans ho)
    exact⟨jF h4,h5 b u hf hj (fun q v hv=>hq q v (hold q v hv).2 (Fa.at_ q v (hold q v hv).1)) fun k' hk' he=>by
     obtain⟨i,hi⟩:=List.getElem?_of_mem hk';exact hb i k' hi (Oi he)⟩
  exact key _ fun k hk hFk=>(arL.1 hk).elim (fun h=>by rw[hk2 k h] at hFk;cases hFk) (hK k)
 ·rcases hr b (hJ b hb) with h1|h1
  ·exact h1
  ·cases h1
theorem sp{X Y:Prop}{B:Nat}{w0 w:World}{N:Nat}{l:Slots}{bs:List Bx}{rs:List Rw}{ops:Array Oper}{id:Nat}{k:Slots→List Bx→List Rw→World→Prop}(F:List Nat)(t:Tr)(kb:List Nat)(h0:Zm N ops.toList F t=true)
 (h:dsL ops.toList fun ds=>Uy ds l fun l'=>rvK bs [] fun r=>Sd kb r fun uJ=>XR B w0 l' uJ ops.toList F [] fun K=>ZL K l ds fun T=>∀ w',aru w.heap.size w w'→aV B w0 w' bs rs→vst B w0 N l' ops.toList K kb uJ k t T bs rs w') :
 X∨Y∨∀ (a:Act) (Q:Exit→Act→World→Prop),Fs a N l→aV B w0 w bs rs→(∀ a' l' bs' rs' w',Fs a' N l'→aV B w0 w' bs' rs'→k l' bs' rs' w'→Q .normal a' w')→(Code.region id ops true).wp Tryz.prog Q a w:=spk [] F t kb rfl h0 h
theorem mva{R:Value→World→Prop}{x:Operand}{B:Nat}{w w0:World}{bs:List Bx}{rs:List Rw}{q:(Value→World→Prop)→Prop}(hR:gN R)(h:q R):
 ∃ R',gN R'∧(∀ (u:Value) (w1:World) (a:Act) (o':Oper),aru w.heap.size w w1→aV B w0 w1 bs rs→R u w1→o'.op=.assign x→wQ a [x] [u]→∃ v w2,(execOp a.eval o').run Tryz.prog w1=.ok (.value v) w2∧R' v w2∧aru w1.heap.size w1 w2)∧q R':=
 ⟨R,hR,fun u w1 _ _ _ _ hu ho oJ=>⟨u,w1,ni ho (dJ oJ),hu,Below.refl _ _⟩,h⟩
section
variable {B:Nat} {w0 w:World} {bs:List Bx} {rs:List Rw} {t e ty mb:Nat} {m x y:Operand} {z v:Value} {k:Int} {L:List (Int×Value)} {K:Value→List Bx→List Rw→World→Prop}
theorem mmk(M:aV B w0 w bs rs)(h:∀ mb w',aV B w0 w' ((mb,9003,dU [])::bs) rs→K (.map (some mb)) ((mb,9003,dU [])::bs) rs w'):
 ∃ R:Value→World→Prop,(∀ (a:Act) (o':Oper),o'.op=.makeMap t none→o'.type=ty→wQ a [] []→∃ v w',(execOp a.eval o').run Tryz.prog w=.ok (.value v) w'∧R v w')∧∀ v w',R v w'→∃ bs' rs',aV B w0 w' bs' rs'∧K v bs' rs' w':=by
 refine⟨fun v w'=>v=.map (some w.heap.size)∧w'=w.alloc (.map #[] 0),fun a o' ho _ _=>⟨_,_,?_,rfl,rfl⟩,?_⟩
 ·unfold execOp;simp[ho,Instr.makeMap]
 ·rintro v w' ⟨rfl,rfl⟩;have M':=M.KZ ((Below.refl _ w).alloc (Nat.le_refl _) _) (b:=(w.heap.size,9003,dU [])) (lU (aL.made w _ _)) (Nat.le_refl _);exact⟨_,_,M',h _ _ M'⟩
theorem mlk(M:aV B w0 w bs rs)(i:Nat)(hi:bs[i]?=some (mb,9003,dU L))(ht:Tryz.prog.underlying t=some (.map 3 e))(hz:∀ w,(zeroValue e).run Tryz.prog w=.ok z w)(hk:iU k)(h:aV B w0 w bs rs→K (.tuple #[(jt L k).getD z,.bool (jt L k).isSome]) bs rs w):
 ∃ R:Value→World→Prop,(∀ (a:Act) (o':Oper),o'.op=.lookup t m x true→o'.type=ty→wQ a [m,x] [.map (some mb),.int .i64 k]→∃ v w',(execOp a.eval o').run Tryz.prog w=.ok (.value v) w'∧R v w')∧∀ v w',R v w'→∃ bs' rs',aV B w0 w' bs' rs'∧K v bs' rs' w':=
 ⟨fun v w'=>v=.tuple #[(jt L k).getD z,.bool (jt L k).isSome]∧w'=w,fun _ _ ho _ oJ=>⟨_,_,EV ht (hz _) M i hi ho (dJ oJ) (dX oJ) hk,rfl,rfl⟩,fun _ _ ⟨h1,h2⟩=>by subst h1 h2;exact⟨_,_,M,h M⟩⟩
theorem ml1(M:aV B w0 w bs rs)(i:Nat)(hi:bs[i]?=some (mb,9003,dU L))(ht:Tryz.prog.underlying t=some (.map 3 e))(hz:∀ w,(zeroValue e).run Tryz.prog w=.ok z w)(hk:iU k)(h:aV B w0 w bs rs→K ((jt L k).getD z) bs rs w):
 ∃ R:Value→World→Prop,(∀ (a:Act) (o':Oper),o'.op=.lookup t m x false→o'.type=ty→wQ a [m,x] [.map (some mb),.int .i64 k]→∃ v w',(execOp a.eval o').run Tryz.prog w=.ok (.value v) w'∧R v w')∧∀ v w',R v w'→∃ bs' rs',aV B w0 w' bs' rs'∧K v bs' rs' w':=
 ⟨fun v w'=>v=(jt L k).getD z∧w'=w,fun _ _ ho _ oJ=>⟨_,_,Xj ht (hz _) M i hi ho (dJ oJ) (dX oJ) hk,rfl,rfl⟩,fun _ _ ⟨h1,h2⟩=>by subst h1 h2;exact⟨_,_,M,h M⟩⟩
theorem S7{k':List Bx→List Rw→World→Prop}(M:aV B w0 w bs rs)(i:Nat)(hi:bs[i]?=some (mb,9003,dU L))(ht:Tryz.prog.underlying t=some (.map 3 e))(hk:iU k)(h:∀ w',aV B w0 w' (bs.set i (mb,9003,dU ((k,v)::gB L k))) rs→k' (bs.set i (mb,9003,dU ((k,v)::gB L k))) rs w'):
 ∃ R:World→Prop,(∀ (a:Act) (o':Oper),o'.op=.mapUpdate t m x y→o'.type=ty→wQ a [m,x,y] [.map (some mb),.int .i64 k,v]→∃ w',(execOp a.eval o').run Tryz.prog w=.ok .skip w'∧R w')∧∀ w',R w'→∃ bs' rs',aV B w0 w' bs' rs'∧k' bs' rs' w':=by
 obtain⟨w',hr,M'⟩:=M.acD ht i hi hk v;refine⟨fun w''=>w''=w',fun a o' ho _ oJ=>⟨_,?_,rfl⟩,fun w'' e=>by subst e;exact⟨_,_,M',h _ M'⟩⟩;unfold execOp;simp[ho,dJ oJ,dX oJ,ahP oJ,hr]
end
end Go.Proofs.YtdcofoaihmongaaGreat

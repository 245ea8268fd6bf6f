import Derived.ChangeKeysEq
import Derived.Laws.StructEq
import Derived.Test.YtkkmjdceiocnbaaGreatDoorS4
open List renaming getElem?_eq_some_iff→akg,length_append→aki,getElem?_eq_getElem→akk,mem_of_getElem?→akl,flatMap_append→akm,take_length→akn
open Nat renaming zero_le→akj
open Option.some renaming inj→akh
set_option maxRecDepth 100000
set_option maxHeartbeats 8000000
set_option linter.unusedSectionVars false
set_option linter.unusedSimpArgs false
set_option linter.unusedVariables false
namespace Go.Proofs.YtkkmjdceiocnbaaGreatDoor
open Go Go.RowKit Go.WideMaps
theorem Zp(d:Nat)(x0 y0:Int)(w:World):(Op.equalIn (d+1) 59 (.int .u64 x0) (.int .u64 y0)).run Tryz.prog w=.ok (decide (x0=y0)) w:=by
 by_cases h:x0=y0<;>simp[Op.equalIn,run_underlying Tryz.underlying59,h]
theorem QU(d:Nat)(x0 x1 x2 x3 y0 y1 y2 y3:Int)(w:World):(Op.equalIn (d+2) 77 (.agg #[.int .u64 x0,.int .u64 x1,.int .u64 x2,.int .u64 x3]) (.agg #[.int .u64 y0,.int .u64 y1,.int .u64 y2,.int .u64 y3])).run Tryz.prog w=.ok (decide (x0=y0∧x1=y1∧x2=y2∧x3=y3)) w:=by
 have hsz:=abv
 obtain⟨i0,hi,-⟩:∃ i,Tryz.prog.info? 59=some i∧True:=by
  cases h:Tryz.prog.info? 59 with
  | none=>rw[h] at hsz;cases hsz
  | some i=>exact⟨i,rfl,trivial⟩
 rw[show d+2=(d+1)+1 from rfl,run_equalIn_array w (d+1) _ _ Tryz.underlying77 hi,show Tryz.prog.cellsOf 59=1 from by kernel_rfl];have p0:∀ x0 x1 x2 x3:Int,(part 59 #[.int .u64 x0,.int .u64 x1,.int .u64 x2,.int .u64 x3] (0*1)).run Tryz.prog w=.ok (.int .u64 x0) w:=fun x0 x1 x2 x3=>by kernel_rfl
 have p1:∀ x0 x1 x2 x3:Int,(part 59 #[.int .u64 x0,.int .u64 x1,.int .u64 x2,.int .u64 x3] (1*1)).run Tryz.prog w=.ok (.int .u64 x1) w:=fun x0 x1 x2 x3=>by kernel_rfl
 have p2:∀ x0 x1 x2 x3:Int,(part 59 #[.int .u64 x0,.int .u64 x1,.int .u64 x2,.int .u64 x3] (2*1)).run Tryz.prog w=.ok (.int .u64 x2) w:=fun x0 x1 x2 x3=>by kernel_rfl
 have p3:∀ x0 x1 x2 x3:Int,(part 59 #[.int .u64 x0,.int .u64 x1,.int .u64 x2,.int .u64 x3] (3*1)).run Tryz.prog w=.ok (.int .u64 x3) w:=fun x0 x1 x2 x3=>by kernel_rfl
 have eq:=fun a b=>Zp d a b w
 rw[show List.range 4=[0,1,2,3] from rfl];simp only[Op.eqItems,Sem.run_bind,p0,Result.andThen_ok,eq];by_cases h0:x0=y0<;>by_cases h1:x1=y1<;>by_cases h2:x2=y2<;>by_cases h3:x3=y3<;>simp[h0,h1,h2,h3,Sem.run_bind,p0,p1,p2,p3,eq]
theorem adq(d:Nat)(x0 y0:ByteArray)(w:World):(Op.equalIn (d+1) 9 (.string x0) (.string y0)).run Tryz.prog w=.ok (decide (x0=y0)) w:=by
 have e:(x0 == y0)=decide (x0=y0):=by
  rw[Bool.eq_iff_iff,decide_eq_true_eq];constructor
  ·intro h;have h':(x0.data == y0.data)=true:=h;exact ByteArray.ext (by simpa using h')
  ·intro h;subst h;show(x0.data == x0.data)=true;simp
 simp[Op.equalIn,run_underlying Tryz.underlying9,e]
theorem WD(d:Nat)(x1 x2 x3 x4 x5 x6 x7 x8 y1 y2 y3 y4 y5 y6 y7 y8:Int)(x0 y0:ByteArray)(w:World):(Op.equalIn (d+3) 136 (.agg #[.string x0,.int .u64 x1,.int .u64 x2,.int .u64 x3,.int .u64 x4,.int .u64 x5,.int .u64 x6,.int .u64 x7,.int .u64 x8]) (.agg #[.string y0,.int .u64 y1,.int .u64 y2,.int .u64 y3,.int .u64 y4,.int .u64 y5,.int .u64 y6,.int .u64 y7,.int .u64 y8])).run Tryz.prog w=.ok (decide (x0=y0∧x1=y1∧x2=y2∧x3=y3∧x4=y4∧x5=y5∧x6=y6∧x7=y7∧x8=y8)) w:=by
 have hf:(Tryz.prog.fieldsOf 136).toList.map (fun f=>(f.type,f.offset))=[(9,0),(77,1),(77,5)]:=by kernel_rfl
 have hq:(Op.eqFields (d+2) #[.string x0,.int .u64 x1,.int .u64 x2,.int .u64 x3,.int .u64 x4,.int .u64 x5,.int .u64 x6,.int .u64 x7,.int .u64 x8] #[.string y0,.int .u64 y1,.int .u64 y2,.int .u64 y3,.int .u64 y4,.int .u64 y5,.int .u64 y6,.int .u64 y7,.int .u64 y8] (Tryz.prog.fieldsOf 136).toList).run Tryz.prog w=.ok ([decide (x0=y0),decide (x1=y1∧x2=y2∧x3=y3∧x4=y4),decide (x5=y5∧x6=y6∧x7=y7∧x8=y8)].all id) w:=by
  refine zA _ _ (by kernel_rfl) (by kernel_rfl) fun i f r hi hr=>?_
  have hm:=congrArg (fun z:List (Nat×Nat)=>z[i]?) hf;simp only[List.getElem?_map,hi,Option.map_some] at hm;have hlt:i<3:=(akg.1 hr).1
  match i,hlt with
  | 0,_=>
   obtain⟨h1,h2⟩:=Prod.mk.inj (akh hm);obtain rfl:=akh hr;rw[h1,h2];exact⟨.string x0,.string y0,by kernel_rfl,by kernel_rfl,adq (d+1) x0 y0 w⟩
  | 1,_=>
   obtain⟨h1,h2⟩:=Prod.mk.inj (akh hm);obtain rfl:=akh hr;rw[h1,h2];exact⟨.agg #[.int .u64 x1,.int .u64 x2,.int .u64 x3,.int .u64 x4],.agg #[.int .u64 y1,.int .u64 y2,.int .u64 y3,.int .u64 y4],by kernel_rfl,by kernel_rfl,QU d x1 x2 x3 x4 y1 y2 y3 y4 w⟩
  | 2,_=>
   obtain⟨h1,h2⟩:=Prod.mk.inj (akh hm);obtain rfl:=akh hr;rw[h1,h2];exact⟨.agg #[.int .u64 x5,.int .u64 x6,.int .u64 x7,.int .u64 x8],.agg #[.int .u64 y5,.int .u64 y6,.int .u64 y7,.int .u64 y8],by kernel_rfl,by kernel_rfl,QU d x5 x6 x7 x8 y5 y6 y7 y8 w⟩
 rw[show d+3=(d+2)+1 from rfl,run_equalIn_agg w (d+2) 136 _ _ (by kernel_rfl) (by kernel_rfl),hq];congr 1;rw[Bool.eq_iff_iff];simp[and_assoc]
end Go.Proofs.YtkkmjdceiocnbaaGreatDoor
namespace Go.Proofs.YtkkmjdceiocnbaaGreatDoor
open Go Go.RowKit
theorem jZ(n:Nat):(aE.all n).Ok:=wh _
def bD(s:aE):Bool:=!(decide (s=aE.zero))
theorem LC(x y:aE)(w:World):(Op.equalIn 10000 77 (.agg #[.int .u64 x.a,.int .u64 x.b,.int .u64 x.c,.int .u64 x.d]) (.agg #[.int .u64 y.a,.int .u64 y.b,.int .u64 y.c,.int .u64 y.d])).run Tryz.prog w=.ok (decide (x=y)) w:=by
 rw[show(10000:Nat)=9998+2 from rfl,QU];congr 1;rw[Bool.eq_iff_iff];obtain⟨x_a,x_b,x_c,x_d⟩:=x;obtain⟨y_a,y_b,y_c,y_d⟩:=y;simp only[decide_eq_true_eq,aE.mk.injEq,Int.natCast_inj,and_assoc]
def kf(n:Nat)(s:aE):Bool:=s.within (aE.all n).unit
def iH(nS nC:Nat)(l:iL):Bool:=aF l.ak (nS:Int)&&(decide ((64:Int)≤(nC:Int))||decide ((l.cats:Int)/2^nC=0))
def gE(nS nC:Nat)(r:mS):Bool:=iH nS nC r.low&&iH nS nC r.high&&jY r.high r.low
def eM(cl:List gi)(c:Int)(v:Int):Bool:=match (if 0≤c then cl[c.toNat]? else none) with
 | some x=>decide ((32:Int)≤(x.perms.length:Int))||decide (v/2^x.perms.length=0)
 | none=>false
theorem rJ{cl:List gi}{c v:Int}(h:aF c (cl.length:Int)=false):eM cl c v=false:=by
 unfold eM;by_cases h0:0≤c
 ·rw[if_pos h0,List.getElem?_eq_none (by unfold aF at h;simp[h0] at h;omega)]
 ·rw[if_neg h0]
def aL:Nat→aS→Int
 | 0,_=>0
 | m+1,e=>dY (fun i=>match e.kids[i]? with|some k=>aL m k|none=>0) e.kids.length+1
theorem iG:∀ (m:Nat) (e:aS),0≤aL m e∧aL m e≤m
 | 0,_=>⟨Int.le_refl 0,Int.le_refl 0⟩
 | m+1,e=>by
  unfold aL;have h1:=eK (fun i=>match e.kids[i]? with|some k=>aL m k|none=>0) e.kids.length
  have h2:=lA (f:=fun i=>match e.kids[i]? with|some k=>aL m k|none=>0) (b:=m) (by omega) e.kids.length fun i _=>by
   split
   ·exact(iG m _).2
   ·omega
  omega
def fJ(o:Int):Int:=if o=1 then 0 else if o=8 then 0 else if o=9 then 0 else if o=2 then 1 else if o=3 then 2 else if o=4 then 2 else if o=5 then 2 else if o=6 then 2 else if o=7 then 2 else -1
def oQ(e:aS):Bool:=(((((((decide (e.op=8)||decide (e.op=9))||(!decide (fJ e.op=(e.kids.length:Int))))||(!decide (e.rel=0)))||(!decide (e.b=0)))||decide (0<(e.names.length:Int)))||(!decide (e.set=aE.zero)))||((!decide (e.op=1))&&(!decide (e.a=0))))
theorem aS.ind{M:aS→Prop}(h:∀ e,(∀ k∈e.kids,M k)→M e):∀ e,M e:=
 fun e=>aS.rec (motive_1:=M) (motive_2:=fun l=>∀ k∈l,M k) (fun _ _ _ _ _ _ _ ih=>h _ ih) (fun _ hk=>by cases hk) (fun _ _ hk hl x hx=>by
  rcases List.mem_cons.1 hx with rfl|hx
  ·exact hk
  ·exact hl x hx) e
mutual
def pH(nB:Nat):aS→Int
 | .node op a rel b names set kids=>if oQ (.node op a rel b names set kids)=true then 2 else if (decide (op=1)&&!aF a (nB:Int))=true then 3 else n_ nB kids
def n_(nB:Nat):List aS→Int
 | []=>0
 | k::l=>if pH nB k=0 then n_ nB l else pH nB k
end
theorem yO(nB:Nat)(e:aS):pH nB e=if oQ e=true then 2 else if (decide (e.op=1)&&!aF e.a (nB:Int))=true then 3 else n_ nB e.kids:=by
 cases e;rw[pH];rfl
theorem kO{nB:Nat}{l:List aS}{k:Nat}{y:aS}(h:l[k]?=some y):n_ nB (l.drop k)=if pH nB y=0 then n_ nB (l.drop (k+1)) else pH nB y:=by
 obtain⟨hk,rfl⟩:=akg.1 h;rw[List.drop_eq_getElem_cons hk,n_]
section
variable {nB:Nat} {e:aS}
theorem vY(h:oQ e=true):pH nB e=2:=by rw[yO,if_pos h]
theorem vX(h:oQ e=false)(h2:(decide (e.op=1)&&!aF e.a (nB:Int))=true):pH nB e=3:=by rw[yO,if_neg (by rw[h];decide),if_pos h2]
theorem kN(h:oQ e=false)(h2:(decide (e.op=1)&&!aF e.a (nB:Int))=false):pH nB e=n_ nB e.kids:=by rw[yO,if_neg (by rw[h];decide),if_neg (by rw[h2];decide)]
end
def cW(nB:Nat)(e:aS):Int:=if (12:Int)<aL 13 e then 4 else pH nB e
end Go.Proofs.YtkkmjdceiocnbaaGreatDoor
namespace Go.Proofs.YtkkmjdceiocnbaaGreatDoor
open Go Go.RowKit
def cT(e:aS):Bool:=
 if e.op=2∨e.op=3∨e.op=4 then (((((decide ((e.kids.length:Int)=fJ e.op)&&decide (e.a=0))&&decide (e.rel=0))&&decide (e.b=0))&&decide ((e.names.length:Int)=0))&&decide (e.set=aE.zero))
 else if e.op=8 then ((decide ((e.kids.length:Int)=0)&&decide ((e.names.length:Int)=0))&&decide (e.set=aE.zero))
 else if e.op=9 then (((decide ((e.kids.length:Int)=0)&&decide (e.rel=0))&&decide (e.b=0))&&decide ((e.names.length:Int)=0))
 else false
def dh(nU nR nT k:Nat):Int:=if k%5=0 then (nU:Int) else if k%5=1 then (nR:Int) else if k%5=2 then (nT:Int) else -1
def og(er:Int)(ka kb:Nat):Int:=if 3≤ka%5∧3≤kb%5 then 0 else if ¬ ka%5=kb%5 then 13 else if (1:Int)<er then 13 else 0
def ez(n:Nat)(e:aS):Int:=if aF e.a (n:Int)=false then 3 else if aF e.b (n:Int)=false then 3 else if aF e.rel 5=false then 3 else og e.rel e.a.toNat e.b.toNat
theorem Ga{P:Program}{a:Act}{w:World}{o:Oper}{ty yt:TypeId}{x y:Operand}{m:Int}(hm:0≤m)(ho:o.op=.binOp .rem ty x y yt)(hx:a.eval x=.int .i64 m)(hy:a.eval y=.int .i64 5):(execOp a.eval o).run P w=.ok (.value (.int .i64 ((m.toNat%5:Nat):Int))) w:=by
 unfold execOp;simp[ho,hx,hy,eqGuard,binOp,Op.intDiv];rw[Int.tmod_eq_emod_of_nonneg hm];omega
theorem aS.Ok.set'{e:aS}(h:e.Ok):e.set.Ok:=by cases h;assumption
theorem aS.Ok.BZ{e:aS}(h:e.Ok):∀ k∈e.kids,k.Ok:=by cases h;assumption
def dF(nU nR nT N:Nat)(e:aS):Option Int:=
 if cT e=false then some 2
 else if e.op=8 then some (ez N e)
 else if e.op=9 then
  (if aF e.a (N:Int)=false then some 3
   else if dh nU nR nT e.a.toNat<0 then some 13
   else if e.set.within (aE.all (dh nU nR nT e.a.toNat).toNat)=false then some 3
   else if bD e.set=false then some 2 else none)
 else none
mutual
def iC(nU nR nT N:Nat):aS→Int
 | .node op a rel b names set kids=>match dF nU nR nT N (.node op a rel b names set kids) with
  | some r=>r
  | none=>lV nU nR nT N kids
def lV(nU nR nT N:Nat):List aS→Int
 | []=>0
 | k::l=>if iC nU nR nT N k=0 then lV nU nR nT N l else iC nU nR nT N k
end
theorem kE{nU nR nT N:Nat}{e:aS}{r:Int}(h:dF nU nR nT N e=some r):iC nU nR nT N e=r:=by
 cases e;rw[iC,h]
theorem mP{nU nR nT N:Nat}{e:aS}(h:dF nU nR nT N e=none):iC nU nR nT N e=lV nU nR nT N e.kids:=by
 cases e;rw[iC,h];rfl
theorem mQ{nU nR nT N:Nat}{l:List aS}{k:Nat}{y:aS}(h:l[k]?=some y):lV nU nR nT N (l.drop k)=if iC nU nR nT N y=0 then lV nU nR nT N (l.drop (k+1)) else iC nU nR nT N y:=by
 obtain⟨hk,rfl⟩:=akg.1 h;rw[List.drop_eq_getElem_cons hk,lV]
def cq(nU nR nT:Nat)(v:Bool)(e:aS):Int:=if (12:Int)<aL 13 e then 4 else if v=true then iC nU nR nT 15 e else iC nU nR nT 10 e
section
variable {W:Nat} {ver:Int}
theorem LK{e:aS}(h:e.Ok):(wA e.op e.a e.rel e.b e.set).length≤90:=by
 have h1:=aV e.op;have h2:=aV e.a;have h3:=aV e.rel;have h4:=aV e.b;have h5:=jw h.set';unfold wA;split
 ·simp only[aki];omega
 ·split
  ·simp only[aki];omega
  ·split
   ·simp only[aki];omega
   ·simp only[aki,List.length_nil];omega
theorem Ov:∀ (e:aS) (w0 w:World) (cs:List Value) (bs:List Bx) (rs:List Rw) (v:Value) (lr:Int) (xs:List Nat),bq w0 cs e→e.Ok→Mm w0 w (cH W v lr ver::bs) (bf v xs::rs)→nr bs rs→xs.length+(eE e).length+300≤aT →
 Calls Tryz.prog 105 #[.pointer (some ⟨W,0,none⟩),.agg cs.toArray] w (rI w0.heap.size w0 bs rs W ver (xs++eE e)):=by
 refine aS.ind fun e ih=>?_
 intro w0 w cs bs rs v lr xs hE hok M h5 hb;obtain⟨nv,kv,rfl,uH,hkv⟩:=hE.open;obtain⟨na,nc,rfl,-⟩:=aN.get uH;have hkv':=hkv;obtain⟨ka,kc,rfl,-,hkm,-⟩:=aj.form hkv' (by decide);have hee:=Rc e;have hel:(eE e).length=(wA e.op e.a e.rel e.b e.set).length+(e.kids.flatMap eE).length:=by rw[hee,aki]
 have h1:=aV e.op;have h2:=aV e.a;have hhd:=LK hok;refine d_ M [10] (fn:=Tryz.f105) Tryz.func105 rfl Tryz.ntmps105 rfl<|fun g1 w1 M1=>lb 0<|an rfl<|fun g2 w2 M2=>fB 2 M2 rfl (fun M=>bL (ns:=[e.op]) M h5.cons (by simp) (by omega)) fun v3 pQ w3 M3=>jo (ι:=Value×Int) (fun _=>[]) (fun z=>(g1,84,#[.int .i64 e.op,.int .i64 e.a,.int .i64 e.rel,.int .i64 e.b,.slice na e.names.length nc,.int .u64 e.set.a,.int .u64 e.set.b,.int .u64 e.set.c,.int .u64 e.set.d,.slice ka e.kids.length kc])::cH W z.1 z.2 ver::bs) (fun z=>bf z.1 (xs++wA e.op e.a e.rel e.b e.set)::rs) (fun _ _=>True)<|an ?_ ?_
 ·refine lb 1<|an rfl<|an (fun h=>?_) fun h=>?_
  ·have hop:e.op=1:=of_decide_eq_true h;exact lb 1<|an rfl<|fun g4 w4 M4=>fB 3 M4 rfl (fun M=>bL (ns:=[e.a]) M h5.cons.cons (by simp) (by simp only[aki,List.flatMap_cons,List.flatMap_nil,List.length_nil];omega)) fun v5 MK w5 M5=>je (v5,MK) trivial (fun M=>⟨(M.only (.cons _ (.cons _ (.refl _))) (.refl _)).cast rfl (by unfold wA;rw[if_pos hop];simp),trivial⟩)
  ·have hop1:e.op≠1:=of_decide_eq_false h;refine an (fun h=>?_) fun h=>?_
   ·have hop:e.op=8:=of_decide_eq_true h;exact lb 1<|an rfl<|lb 1<|an rfl<|lb 1<|an rfl<|fun g4 w4 M4=>fB 3 M4 rfl (fun M=>bL (ns:=[e.a,e.rel,e.b]) M h5.cons.cons (by simp) (by simp only[aki,List.flatMap_cons,List.flatMap_nil,List.length_nil];omega)) fun v5 MK w5 M5=>je (v5,MK) trivial (fun M=>⟨(M.only (.cons _ (.cons _ (.refl _))) (.refl _)).cast rfl (by unfold wA;rw[if_neg hop1,if_pos hop];simp),trivial⟩)
   ·have hop2:e.op≠8:=of_decide_eq_false h;refine an (fun h=>?_) fun h=>?_
    ·have hop:e.op=9:=of_decide_eq_true h;exact lb 1<|an rfl<|fun g4 w4 M4=>fB 3 M4 rfl (fun M=>bL (ns:=[e.a]) M h5.cons.cons (by simp) (by simp only[aki,List.flatMap_cons,List.flatMap_nil,List.length_nil];omega)) fun v5 MK w5 M5=>lb 2<|an rfl<|fun g6 w6 M6=>fB 4 M6 rfl (fun M=>tN (ss:=[e.set]) M h5.cons.cons.cons (by simpa using hok.set') (by simp) (by simp only[aki,List.flatMap_cons,List.flatMap_nil,List.length_nil];omega)) fun v7 wv w7 M7=>je (v7,wv) trivial (fun M=>⟨(M.only (.cons _ (.cons _ (.cons _ (.refl _)))) (.refl _)).cast rfl (by unfold wA;rw[if_neg hop1,if_neg hop2,if_pos hop];simp),trivial⟩)
    ·have Wa:e.op≠9:=of_decide_eq_false h;exact je (v3,pQ) trivial (fun M=>⟨(M.only (.cons _ (.refl _)) (.refl _)).cast rfl (by unfold wA;rw[if_neg hop1,if_neg hop2,if_neg Wa];simp),trivial⟩)
 ·rintro⟨v8,Yk⟩ w8 M8 -;refine lb 0<|an rfl<|lp (ι:=Nat×Value×Int) (fun z=>[(46,.int .i64 (z.1:Int))]) (fun z=>(g1,84,#[.int .i64 e.op,.int .i64 e.a,.int .i64 e.rel,.int .i64 e.b,.slice na e.names.length nc,.int .u64 e.set.a,.int .u64 e.set.b,.int .u64 e.set.c,.int .u64 e.set.d,.slice ka e.kids.length kc])::cH W z.2.1 z.2.2 ver::bs) (fun z=>bf z.2.1 (xs++(wA e.op e.a e.rel e.b e.set++(e.kids.take z.1).flatMap eE))::rs) (fun z _=>z.1≤e.kids.length) (fun z=>e.kids.length-z.1) (0,v8,Yk)<|an ⟨⟨rfl,trivial⟩,fun M=>⟨M.cast rfl (by simp),akj _⟩⟩ ?_;rintro⟨j,u,q⟩ w9 M9 hj;have hj:j≤e.kids.length:=hj;refine an (fun h=>?_) fun h=>?_
  ·have hlt:j<e.kids.length:=Int.ofNat_lt.1 (of_decide_eq_true h);obtain⟨y,hy⟩:∃ y,e.kids[j]?=some y:=⟨_,akk hlt⟩;have iZ:=fZ eE hy;have iK:=akl hy;obtain⟨b,off,x,e1,AY,hc⟩:=aj.elt hkv (by decide) hy;have Wu:=AY;obtain⟨PB,kv',rfl,Wc,Wi⟩:=AY.open;obtain⟨_,_,rfl,-⟩:=aN.get Wc;obtain⟨_,_,rfl,-,-,-⟩:=aj.form Wi (by decide);exact ia<|an ⟨e1,rfl,hlt⟩<|lc<|an (bZ M9.below hc)<|ei<|an DW fun g10 pT j3=>lb 0<|an ⟨rfl,rfl⟩ fun yY M11=>lb 0<|an rfl<|fB 2 M11 rfl (fun M=>ih y iK w0 _ _ _ _ _ _ _ Wu (hok.BZ y iK) M h5.cons.cons (by simp only[aki] at *;omega)) fun v12 VE Dh y9=>an (by omega)<|bk (j+1,v12,VE) ⟨rfl,trivial⟩ (fun M=>⟨(M.only (.cons _ (.refl _)) (.refl _)).cast rfl (by rw[List.take_add_one,hy,akm];simp),hlt⟩) (by dsimp only;omega)
  ·have hge:j=e.kids.length:=Nat.le_antisymm hj (Nat.le_of_not_lt fun h'=>of_decide_eq_false h (Int.ofNat_lt.2 h'));subst hge;exact fun M=>⟨rfl,u,q,(M.only (.cons _ (.refl _)) (.refl _)).cast rfl (by rw[hee];exact congrArg (fun t=>bf u (xs++(wA e.op e.a e.rel e.b e.set++t.flatMap eE))::rs) akn)⟩
end
section
variable {W gc:Nat} {w0 w:World} {bs:List Bx} {rs:List Rw} {v1:Value} {lr:Int} {v:Nat} {ver:Int} {xs:List Nat}
theorem gN{B g:Nat}{L:List Bx}{rs:List Rw}{p:Value}(M:aQ B w0 w L rs)(h:((g,92,#[p]):Bx)∈L):w.cell? ⟨g,0,none⟩=some p:=
 (wC.whole (M.box _ h) rfl).cell 0
theorem JW(s:ByteArray):(eS s).length=(bn s.size).length+s.size:=by unfold eS;rw[aki,gD]
theorem oL{B:Nat}{s:ByteArray}(M:aQ B w0 w (cH W v1 lr ver::bs) (bf v1 xs::rs))(h5:nr bs rs)(hb:xs.length+(eS s).length+10≤aT):
 Calls Tryz.prog 88 #[.pointer (some ⟨W,0,none⟩),.string s] w (rI B w0 bs rs W ver (xs++eS s)):=Ot M h5 (by have:=JW s;omega)
theorem za{B:Nat}{m:Int}(M:aQ B w0 w (cH W v1 lr ver::bs) (bf v1 xs::rs))(h5:nr bs rs)(hm:gA m)(hb:xs.length+10≤aT):
 Calls Tryz.prog 109 #[.pointer (some ⟨W,0,none⟩),.int .i64 m] w (rI B w0 bs rs W ver (xs++eC m)):=Ou M h5 hm hb
theorem Oq{B:Nat}{n:Int}(M:aQ B w0 w (cH W v1 lr ver::bs) (bf v1 xs::rs))(h5:nr bs rs)(hn:z_ n)(hb:xs.length+100≤aT):
 Calls Tryz.prog 108 #[.pointer (some ⟨W,0,none⟩),.int .u32 n] w (rI B w0 bs rs W ver (xs++eN n)):=by
 obtain⟨m,rfl⟩:=Int.eq_ofNat_of_zero_le hn.1;exact Oo M h5 (by have:=hn.2;omega) hb
theorem c87{x:gi}{cs:List Value}(hx:kW w0 cs x)(hok:gi.Ok x)(M:Mm w0 w (cH W v1 lr ver::bs) (bf v1 xs::rs))(h5:nr bs rs)(hg:((gc,92,#[.pointer (some ⟨W,0,none⟩)]):Bx)∈bs)(hb:xs.length+(kL x).length+500≤aT):
 Calls Tryz.prog 87 #[.agg cs.toArray,.pointer (some ⟨gc,0,none⟩)] w (rI w0.heap.size w0 bs rs W ver (xs++kL x)):=by
 obtain⟨pv,rfl,hl2⟩:=hx;have iZ:=hl2;obtain⟨pa,pc,rfl,-⟩:=aN.get iZ;have hl:(kL x).length=(eS x.name).length+((eL eS x.perms).length):=by unfold kL;simp only[aki]
 refine d_ M [] (fn:=Tryz.f87) Tryz.func87 rfl Tryz.ntmps87 rfl<|fun g1 w1 M1=>?_
 exact lc (x:=.pointer (some ⟨W,0,none⟩))<|an (gN M1 (by simp[hg]))<|lb 0<|an rfl<|fB 1 M1 rfl (fun M=>oL M h5.cons (by(try simp only[aki,List.flatMap_cons,List.flatMap_nil,List.length_nil]);omega)) fun v2 lr2 w2 M2=>lc (x:=.pointer (some ⟨W,0,none⟩))<|an (gN M2 (by simp[hg]))<|lb 0<|an rfl<|fB 1 M2 rfl (fun M=>Al M h5.cons hl2 (by(try simp only[aki,List.flatMap_cons,List.flatMap_nil,List.length_nil]);omega)) fun v3 pQ w3 M3=>fun M=>⟨rfl,_,_,(M.only (.cons _ (.refl _)) (.refl _)).cast rfl (by unfold kL;simp[List.append_assoc])⟩
theorem c91{x:gh}{cs:List Value}(hx:jk w0 cs x)(hok:gh.Ok x)(M:Mm w0 w (cH W v1 lr (v:Int)::bs) (bf v1 xs::rs))(h5:nr bs rs)(hg:((gc,92,#[.pointer (some ⟨W,0,none⟩)]):Bx)∈bs)(hb:xs.length+(eTyp v x).length+500≤aT):
 Calls Tryz.prog 91 #[.agg cs.toArray,.pointer (some ⟨gc,0,none⟩)] w (rI w0.heap.size w0 bs rs W (v:Int) (xs++eTyp v x)):=by
 obtain⟨pv,rfl,hl2⟩:=hx;have iZ:=hl2;obtain⟨pa,pc,rfl,-⟩:=aN.get iZ;have hl:(eTyp v x).length=(eS x.name).length+((eL eS x.jg).length+((if 2≤v then eB x.perm else []).length)):=by unfold eTyp;simp only[aki]
 refine d_ M [] (fn:=Tryz.f91) Tryz.func91 rfl Tryz.ntmps91 rfl<|fun g1 w1 M1=>?_
 exact lc (x:=.pointer (some ⟨W,0,none⟩))<|an (gN M1 (by simp[hg]))<|lb 0<|an rfl<|fB 1 M1 rfl (fun M=>oL M h5.cons (by(try simp only[aki,List.flatMap_cons,List.flatMap_nil,List.length_nil]);omega)) fun v2 lr2 w2 M2=>lc (x:=.pointer (some ⟨W,0,none⟩))<|an (gN M2 (by simp[hg]))<|lb 0<|an rfl<|fB 1 M2 rfl (fun M=>Al M h5.cons hl2 (by(try simp only[aki,List.flatMap_cons,List.flatMap_nil,List.length_nil]);omega)) fun v3 pQ w3 M3=>lc (x:=.pointer (some ⟨W,0,none⟩))<|an (gN M3 (by simp[hg]))<|lb 1<|an rfl<|an (fun h=>have hv:2≤v:=by { have:=of_decide_eq_true h;omega };have hif:(if 2≤v then eB x.perm else []).length=(eB x.perm).length:=(by rw[if_pos hv]);lc (x:=.pointer (some ⟨W,0,none⟩))<|an (gN M3 (by simp[hg]))<|lb 0<|an rfl<|fB 1 M3 rfl (fun M=>D6 M h5.cons (by(try simp only[aki,List.flatMap_cons,List.flatMap_nil,List.length_nil]);omega)) fun v5 MK w5 M5=>fun M=>⟨rfl,_,_,(M.only (.cons _ (.refl _)) (.refl _)).cast rfl (by unfold eTyp;rw[if_pos hv];simp[List.append_assoc])⟩) fun h=>have hv:¬ 2≤v:=(by { have:=of_decide_eq_false h;omega });fun M=>⟨rfl,_,_,(M.only (.cons _ (.refl _)) (.refl _)).cast rfl (by unfold eTyp;rw[if_neg hv];simp[List.append_assoc])⟩
theorem c94{x:fH}(hok:fH.Ok x)(M:Mm w0 w (cH W v1 lr ver::bs) (bf v1 xs::rs))(h5:nr bs rs)(hg:((gc,92,#[.pointer (some ⟨W,0,none⟩)]):Bx)∈bs)(hb:xs.length+(kM x).length+500≤aT):
 Calls Tryz.prog 94 #[.agg x.cells.toArray,.pointer (some ⟨gc,0,none⟩)] w (rI w0.heap.size w0 bs rs W ver (xs++kM x)):=by
 have hl:(kM x).length=(eS x.name).length+((eT x.types).length):=by unfold kM;simp only[aki]
 refine d_ M [] (fn:=Tryz.f94) Tryz.func94 rfl Tryz.ntmps94 rfl<|fun g1 w1 M1=>?_
 exact lc (x:=.pointer (some ⟨W,0,none⟩))<|an (gN M1 (by simp[hg]))<|lb 0<|an rfl<|fB 1 M1 rfl (fun M=>oL M h5.cons (by(try simp only[aki,List.flatMap_cons,List.flatMap_nil,List.length_nil]);omega)) fun v2 lr2 w2 M2=>lc (x:=.pointer (some ⟨W,0,none⟩))<|an (gN M2 (by simp[hg]))<|lb 0<|an rfl<|fun g3 w3 M3=>fB 2 M3 rfl (fun M=>tN (ss:=[x.types]) M h5.cons (by simpa using hok.types) (by simp) (by(try simp only[aki,List.flatMap_cons,List.flatMap_nil,List.length_nil]);omega)) fun v4 Lh w4 M4=>fun M=>⟨rfl,_,_,(M.only (.cons _ (.cons _ (.refl _))) (.refl _)).cast rfl (by unfold kM;simp[List.append_assoc])⟩
theorem c97{x:dI}(hok:dI.Ok x)(M:Mm w0 w (cH W v1 lr ver::bs) (bf v1 xs::rs))(h5:nr bs rs)(hg:((gc,92,#[.pointer (some ⟨W,0,none⟩)]):Bx)∈bs)(hb:xs.length+(kJ x).length+500≤aT):
 Calls Tryz.prog 97 #[.agg x.cells.toArray,.pointer (some ⟨gc,0,none⟩)] w (rI w0.heap.size w0 bs rs W ver (xs++kJ x)):=by
 have hl:(kJ x).length=(eS x.name).length+((eT x.types).length+((eT x.next).length)):=by unfold kJ;simp only[aki]
 refine d_ M [] (fn:=Tryz.f97) Tryz.func97 rfl Tryz.ntmps97 rfl<|fun g1 w1 M1=>?_
 exact lc (x:=.pointer (some ⟨W,0,none⟩))<|an (gN M1 (by simp[hg]))<|lb 0<|an rfl<|fB 1 M1 rfl (fun M=>oL M h5.cons (by(try simp only[aki,List.flatMap_cons,List.flatMap_nil,List.length_nil]);omega)) fun v2 lr2 w2 M2=>lc (x:=.pointer (some ⟨W,0,none⟩))<|an (gN M2 (by simp[hg]))<|lb 0<|an rfl<|lb 0<|an rfl<|fun g3 w3 M3=>fB 2 M3 rfl (fun M=>tN (ss:=[x.types,x.next]) M h5.cons (by simpa using⟨hok.types,hok.next⟩) (by simp) (by(try simp only[aki,List.flatMap_cons,List.flatMap_nil,List.length_nil]);omega)) fun v4 Lh w4 M4=>fun M=>⟨rfl,_,_,(M.only (.cons _ (.cons _ (.refl _))) (.refl _)).cast rfl (by unfold kJ;simp[List.append_assoc])⟩
theorem c99{x:fq}(hok:fq.Ok x)(M:Mm w0 w (cH W v1 lr ver::bs) (bf v1 xs::rs))(h5:nr bs rs)(hg:((gc,92,#[.pointer (some ⟨W,0,none⟩)]):Bx)∈bs)(hb:xs.length+(kF x).length+500≤aT):
 Calls Tryz.prog 99 #[.agg x.cells.toArray,.pointer (some ⟨gc,0,none⟩)] w (rI w0.heap.size w0 bs rs W ver (xs++kF x)):=by
 have hl:(kF x).length=(eS x.name).length+((eT x.roles).length+((sq x.dflt).length+((uy x.rng).length))):=by unfold kF;simp only[aki]
 refine d_ M [] (fn:=Tryz.f99) Tryz.func99 rfl Tryz.ntmps99 rfl<|fun g1 w1 M1=>?_
 exact lc (x:=.pointer (some ⟨W,0,none⟩))<|an (gN M1 (by simp[hg]))<|lb 0<|an rfl<|fB 1 M1 rfl (fun M=>oL M h5.cons (by(try simp only[aki,List.flatMap_cons,List.flatMap_nil,List.length_nil]);omega)) fun v2 lr2 w2 M2=>lc (x:=.pointer (some ⟨W,0,none⟩))<|an (gN M2 (by simp[hg]))<|lb 0<|an rfl<|fun g3 w3 M3=>fB 2 M3 rfl (fun M=>tN (ss:=[x.roles]) M h5.cons (by simpa using hok.roles) (by simp) (by(try simp only[aki,List.flatMap_cons,List.flatMap_nil,List.length_nil]);omega)) fun v4 Lh w4 M4=>lc (x:=.pointer (some ⟨W,0,none⟩))<|an (gN M4 (by simp[hg]))<|lb 1<|an rfl<|fB 2 M4 rfl (fun M=>D5 (l:=x.dflt) M h5.cons.cons hok.dflt.cats (by(try simp only[aki,List.flatMap_cons,List.flatMap_nil,List.length_nil]);omega)) fun v5 MK w5 M5=>lc (x:=.pointer (some ⟨W,0,none⟩))<|an (gN M5 (by simp[hg]))<|lb 1<|an rfl<|fB 2 M5 rfl (fun M=>H_ (r:=x.rng) M h5.cons.cons hok.rng.low.cats hok.rng.high.cats (by(try simp only[aki,List.flatMap_cons,List.flatMap_nil,List.length_nil]);omega)) fun v6 MJ w6 M6=>fun M=>⟨rfl,_,_,(M.only (.cons _ (.cons _ (.refl _))) (.refl _)).cast rfl (by unfold kF;simp[List.append_assoc])⟩
theorem adP{x:fN}(hok:fN.Ok x)(M:Mm w0 w (cH W v1 lr ver::bs) (bf v1 xs::rs))(h5:nr bs rs)(hg:((gc,92,#[.pointer (some ⟨W,0,none⟩)]):Bx)∈bs)(hb:xs.length+(jx x).length+500≤aT):
 Calls Tryz.prog 103 #[.agg x.cells.toArray,.pointer (some ⟨gc,0,none⟩)] w (rI w0.heap.size w0 bs rs W ver (xs++jx x)):=by
 have hl:(jx x).length=(eS x.name).length+((eB x.val).length):=by unfold jx;simp only[aki]
 refine d_ M [] (fn:=Tryz.f103) Tryz.func103 rfl Tryz.ntmps103 rfl<|fun g1 w1 M1=>?_
 exact lc (x:=.pointer (some ⟨W,0,none⟩))<|an (gN M1 (by simp[hg]))<|lb 0<|an rfl<|fB 1 M1 rfl (fun M=>oL M h5.cons (by(try simp only[aki,List.flatMap_cons,List.flatMap_nil,List.length_nil]);omega)) fun v2 lr2 w2 M2=>lc (x:=.pointer (some ⟨W,0,none⟩))<|an (gN M2 (by simp[hg]))<|lb 0<|an rfl<|fB 1 M2 rfl (fun M=>D6 M h5.cons (by(try simp only[aki,List.flatMap_cons,List.flatMap_nil,List.length_nil]);omega)) fun v3 pQ w3 M3=>fun M=>⟨rfl,_,_,(M.only (.cons _ (.refl _)) (.refl _)).cast rfl (by unfold jx;simp[List.append_assoc])⟩
theorem adO{x:bY}(hok:bY.oo x)(M:Mm w0 w (cH W v1 lr ver::bs) (bf v1 xs::rs))(h5:nr bs rs)(hg:((gc,92,#[.pointer (some ⟨W,0,none⟩)]):Bx)∈bs)(hb:xs.length+(kH x).length+500≤aT):
 Calls Tryz.prog 107 #[.agg x.cells.toArray,.pointer (some ⟨gc,0,none⟩)] w (rI w0.heap.size w0 bs rs W ver (xs++kH x)):=by
 have hl:(kH x).length=(eN x.kind).length+((eT x.src).length+((eT x.tgt).length+((eB x.self).length+((eN x.cls).length+((eN x.perms).length+((eC x.cond).length)))))):=by unfold kH;simp only[aki]
 refine d_ M [] (fn:=Tryz.f107) Tryz.func107 rfl Tryz.ntmps107 rfl<|fun g1 w1 M1=>?_
 exact lc (x:=.pointer (some ⟨W,0,none⟩))<|an (gN M1 (by simp[hg]))<|lb 0<|an rfl<|fun g2 w2 M2=>fB 2 M2 rfl (fun M=>bL (ns:=[x.kind]) M h5.cons (by simp) (by(try simp only[aki,List.flatMap_cons,List.flatMap_nil,List.length_nil]);omega)) fun v3 pQ w3 M3=>lc (x:=.pointer (some ⟨W,0,none⟩))<|an (gN M3 (by simp[hg]))<|lb 1<|an rfl<|lb 1<|an rfl<|fun g4 w4 M4=>fB 3 M4 rfl (fun M=>tN (ss:=[x.src,x.tgt]) M h5.cons.cons (by simpa using⟨hok.src,hok.tgt⟩) (by simp) (by(try simp only[aki,List.flatMap_cons,List.flatMap_nil,List.length_nil]);omega)) fun v5 MK w5 M5=>lc (x:=.pointer (some ⟨W,0,none⟩))<|an (gN M5 (by simp[hg]))<|lb 2<|an rfl<|fB 3 M5 rfl (fun M=>D6 M h5.cons.cons.cons (by(try simp only[aki,List.flatMap_cons,List.flatMap_nil,List.length_nil]);omega)) fun v6 MJ w6 M6=>lc (x:=.pointer (some ⟨W,0,none⟩))<|an (gN M6 (by simp[hg]))<|lb 2<|an rfl<|fun g7 w7 M7=>fB 4 M7 rfl (fun M=>bL (ns:=[x.cls]) M h5.cons.cons.cons (by simp) (by(try simp only[aki,List.flatMap_cons,List.flatMap_nil,List.length_nil]);omega)) fun v8 Yk w8 M8=>lc (x:=.pointer (some ⟨W,0,none⟩))<|an (gN M8 (by simp[hg]))<|lb 3<|an rfl<|fB 4 M8 rfl (fun M=>Oq M h5.cons.cons.cons.cons hok.perms (by(try simp only[aki,List.flatMap_cons,List.flatMap_nil,List.length_nil]);omega)) fun v9 Ud w9 M9=>lc (x:=.pointer (some ⟨W,0,none⟩))<|an (gN M9 (by simp[hg]))<|lb 3<|an rfl<|fB 4 M9 rfl (fun M=>za M h5.cons.cons.cons.cons hok.cond (by(try simp only[aki,List.flatMap_cons,List.flatMap_nil,List.length_nil]);omega)) fun v10 Ym pT j3=>fun M=>⟨rfl,_,_,(M.only (.cons _ (.cons _ (.cons _ (.cons _ (.refl _))))) (.refl _)).cast rfl (by unfold kH;simp[List.append_assoc])⟩
theorem adN{x:dH}(hok:dH.Ok x)(M:Mm w0 w (cH W v1 lr (v:Int)::bs) (bf v1 xs::rs))(h5:nr bs rs)(hg:((gc,92,#[.pointer (some ⟨W,0,none⟩)]):Bx)∈bs)(hb:xs.length+(jX v x).length+500≤aT):
 Calls Tryz.prog 111 #[.agg x.cells.toArray,.pointer (some ⟨gc,0,none⟩)] w (rI w0.heap.size w0 bs rs W (v:Int) (xs++jX v x)):=by
 have hl:(jX v x).length=(eN x.kind).length+((eT x.src).length+((eT x.tgt).length+((eN x.cls).length+((if 2≤v then eS x.name else []).length+((eN x.res).length+((eC x.cond).length)))))):=by unfold jX;simp only[aki]
 refine d_ M [] (fn:=Tryz.f111) Tryz.func111 rfl Tryz.ntmps111 rfl<|fun g1 w1 M1=>?_
 exact lc (x:=.pointer (some ⟨W,0,none⟩))<|an (gN M1 (by simp[hg]))<|lb 0<|an rfl<|fun g2 w2 M2=>fB 2 M2 rfl (fun M=>bL (ns:=[x.kind]) M h5.cons (by simp) (by(try simp only[aki,List.flatMap_cons,List.flatMap_nil,List.length_nil]);omega)) fun v3 pQ w3 M3=>lc (x:=.pointer (some ⟨W,0,none⟩))<|an (gN M3 (by simp[hg]))<|lb 1<|an rfl<|lb 1<|an rfl<|fun g4 w4 M4=>fB 3 M4 rfl (fun M=>tN (ss:=[x.src,x.tgt]) M h5.cons.cons (by simpa using⟨hok.src,hok.tgt⟩) (by simp) (by(try simp only[aki,List.flatMap_cons,List.flatMap_nil,List.length_nil]);omega)) fun v5 MK w5 M5=>lc (x:=.pointer (some ⟨W,0,none⟩))<|an (gN M5 (by simp[hg]))<|lb 2<|an rfl<|fun g6 w6 M6=>fB 4 M6 rfl (fun M=>bL (ns:=[x.cls]) M h5.cons.cons.cons (by simp) (by(try simp only[aki,List.flatMap_cons,List.flatMap_nil,List.length_nil]);omega)) fun v7 wv w7 M7=>lc (x:=.pointer (some ⟨W,0,none⟩))<|an (gN M7 (by simp[hg]))<|lb 4<|an rfl<|an (fun h=>have hv:2≤v:=by { have:=of_decide_eq_true h;omega };have hif:(if 2≤v then eS x.name else []).length=(eS x.name).length:=(by rw[if_pos hv]);lc (x:=.pointer (some ⟨W,0,none⟩))<|an (gN M7 (by simp[hg]))<|lb 3<|an rfl<|fB 4 M7 rfl (fun M=>oL M h5.cons.cons.cons.cons (by(try simp only[aki,List.flatMap_cons,List.flatMap_nil,List.length_nil]);omega)) fun v9 Ud w9 M9=>lc (x:=.pointer (some ⟨W,0,none⟩))<|an (gN M9 (by simp[hg]))<|lb 3<|an rfl<|fun g10 pT j3=>fB 5 j3 rfl (fun M=>bL (ns:=[x.res]) M h5.cons.cons.cons.cons (by simp) (by(try simp only[aki,List.flatMap_cons,List.flatMap_nil,List.length_nil]);omega)) fun v11 Yl yY M11=>lc (x:=.pointer (some ⟨W,0,none⟩))<|an (gN M11 (by simp[hg]))<|lb 4<|an rfl<|fB 5 M11 rfl (fun M=>za M h5.cons.cons.cons.cons.cons hok.cond (by(try simp only[aki,List.flatMap_cons,List.flatMap_nil,List.length_nil]);omega)) fun v12 VE Dh y9=>fun M=>⟨rfl,_,_,(M.only (.cons _ (.cons _ (.cons _ (.cons _ (.cons _ (.refl _)))))) (.refl _)).cast rfl (by unfold jX;rw[if_pos hv];simp[List.append_assoc])⟩) fun h=>have hv:¬ 2≤v:=(by { have:=of_decide_eq_false h;omega });lc (x:=.pointer (some ⟨W,0,none⟩))<|an (gN M7 (by simp[hg]))<|lb 3<|an rfl<|fun g9 w9 M9=>fB 5 M9 rfl (fun M=>bL (ns:=[x.res]) M h5.cons.cons.cons.cons (by simp) (by(try simp only[aki,List.flatMap_cons,List.flatMap_nil,List.length_nil]);omega)) fun v10 Ym pT j3=>lc (x:=.pointer (some ⟨W,0,none⟩))<|an (gN j3 (by simp[hg]))<|lb 4<|an rfl<|fB 5 j3 rfl (fun M=>za M h5.cons.cons.cons.cons.cons hok.cond (by(try simp only[aki,List.flatMap_cons,List.flatMap_nil,List.length_nil]);omega)) fun v11 Yl yY M11=>fun M=>⟨rfl,_,_,(M.only (.cons _ (.cons _ (.cons _ (.cons _ (.cons _ (.refl _)))))) (.refl _)).cast rfl (by unfold jX;rw[if_neg hv];simp[List.append_assoc])⟩
theorem adM{x:fE}(hok:fE.Ok x)(M:Mm w0 w (cH W v1 lr ver::bs) (bf v1 xs::rs))(h5:nr bs rs)(hg:((gc,92,#[.pointer (some ⟨W,0,none⟩)]):Bx)∈bs)(hb:xs.length+(kI x).length+500≤aT):
 Calls Tryz.prog 113 #[.agg x.cells.toArray,.pointer (some ⟨gc,0,none⟩)] w (rI w0.heap.size w0 bs rs W ver (xs++kI x)):=by
 have hl:(kI x).length=(eT x.roles).length+((eT x.types).length+((eN x.cls).length+((eN x.res).length))):=by unfold kI;simp only[aki]
 refine d_ M [] (fn:=Tryz.f113) Tryz.func113 rfl Tryz.ntmps113 rfl<|fun g1 w1 M1=>?_
 exact lc (x:=.pointer (some ⟨W,0,none⟩))<|an (gN M1 (by simp[hg]))<|lb 0<|an rfl<|lb 0<|an rfl<|fun g2 w2 M2=>fB 2 M2 rfl (fun M=>tN (ss:=[x.roles,x.types]) M h5.cons (by simpa using⟨hok.roles,hok.types⟩) (by simp) (by(try simp only[aki,List.flatMap_cons,List.flatMap_nil,List.length_nil]);omega)) fun v3 pQ w3 M3=>lc (x:=.pointer (some ⟨W,0,none⟩))<|an (gN M3 (by simp[hg]))<|lb 1<|an rfl<|lb 1<|an rfl<|fun g4 w4 M4=>fB 3 M4 rfl (fun M=>bL (ns:=[x.cls,x.res]) M h5.cons.cons (by simp) (by(try simp only[aki,List.flatMap_cons,List.flatMap_nil,List.length_nil]);omega)) fun v5 MK w5 M5=>fun M=>⟨rfl,_,_,(M.only (.cons _ (.cons _ (.cons _ (.refl _)))) (.refl _)).cast rfl (by unfold kI;simp[List.append_assoc])⟩
theorem adL{x:fF}(hok:fF.Ok x)(M:Mm w0 w (cH W v1 lr ver::bs) (bf v1 xs::rs))(h5:nr bs rs)(hg:((gc,92,#[.pointer (some ⟨W,0,none⟩)]):Bx)∈bs)(hb:xs.length+(jR x).length+500≤aT):
 Calls Tryz.prog 115 #[.agg x.cells.toArray,.pointer (some ⟨gc,0,none⟩)] w (rI w0.heap.size w0 bs rs W ver (xs++jR x)):=by
 have hl:(jR x).length=(eT x.src).length+((eT x.tgt).length+((eN x.cls).length+((uy x.rng).length))):=by unfold jR;simp only[aki]
 refine d_ M [] (fn:=Tryz.f115) Tryz.func115 rfl Tryz.ntmps115 rfl<|fun g1 w1 M1=>?_
 exact lc (x:=.pointer (some ⟨W,0,none⟩))<|an (gN M1 (by simp[hg]))<|lb 0<|an rfl<|lb 0<|an rfl<|fun g2 w2 M2=>fB 2 M2 rfl (fun M=>tN (ss:=[x.src,x.tgt]) M h5.cons (by simpa using⟨hok.src,hok.tgt⟩) (by simp) (by(try simp only[aki,List.flatMap_cons,List.flatMap_nil,List.length_nil]);omega)) fun v3 pQ w3 M3=>lc (x:=.pointer (some ⟨W,0,none⟩))<|an (gN M3 (by simp[hg]))<|lb 1<|an rfl<|fun g4 w4 M4=>fB 3 M4 rfl (fun M=>bL (ns:=[x.cls]) M h5.cons.cons (by simp) (by(try simp only[aki,List.flatMap_cons,List.flatMap_nil,List.length_nil]);omega)) fun v5 MK w5 M5=>lc (x:=.pointer (some ⟨W,0,none⟩))<|an (gN M5 (by simp[hg]))<|lb 2<|an rfl<|fB 3 M5 rfl (fun M=>H_ (r:=x.rng) M h5.cons.cons.cons hok.rng.low.cats hok.rng.high.cats (by(try simp only[aki,List.flatMap_cons,List.flatMap_nil,List.length_nil]);omega)) fun v6 MJ w6 M6=>fun M=>⟨rfl,_,_,(M.only (.cons _ (.cons _ (.cons _ (.refl _)))) (.refl _)).cast rfl (by unfold jR;simp[List.append_assoc])⟩
theorem adK{x:ij}{cs:List Value}(hx:kV w0 cs x)(hok:ij.Ok x)(M:Mm w0 w (cH W v1 lr ver::bs) (bf v1 xs::rs))(h5:nr bs rs)(hg:((gc,92,#[.pointer (some ⟨W,0,none⟩)]):Bx)∈bs)(hb:xs.length+(kK x).length+500≤aT):
 Calls Tryz.prog 117 #[.agg cs.toArray,.pointer (some ⟨gc,0,none⟩)] w (rI w0.heap.size w0 bs rs W ver (xs++kK x)):=by
 obtain⟨es,rfl,hE⟩:=hx;have hE':=hE;obtain⟨nv,kv,rfl,uH,hkv⟩:=hE'.open;obtain⟨_,_,rfl,-⟩:=aN.get uH;obtain⟨_,_,rfl,-,-,-⟩:=aj.form hkv (by decide);have hl:(kK x).length=(eN x.cls).length+((eN x.perms).length+((eB x.val).length+((eE x.expr).length))):=by unfold kK;simp only[aki]
 refine d_ M [] (fn:=Tryz.f117) Tryz.func117 rfl Tryz.ntmps117 rfl<|fun g1 w1 M1=>?_
 exact lc (x:=.pointer (some ⟨W,0,none⟩))<|an (gN M1 (by simp[hg]))<|lb 0<|an rfl<|fun g2 w2 M2=>fB 2 M2 rfl (fun M=>bL (ns:=[x.cls]) M h5.cons (by simp) (by(try simp only[aki,List.flatMap_cons,List.flatMap_nil,List.length_nil]);omega)) fun v3 pQ w3 M3=>lc (x:=.pointer (some ⟨W,0,none⟩))<|an (gN M3 (by simp[hg]))<|lb 1<|an rfl<|fB 2 M3 rfl (fun M=>Oq M h5.cons.cons hok.perms (by(try simp only[aki,List.flatMap_cons,List.flatMap_nil,List.length_nil]);omega)) fun v4 Lh w4 M4=>lc (x:=.pointer (some ⟨W,0,none⟩))<|an (gN M4 (by simp[hg]))<|lb 1<|an rfl<|fB 2 M4 rfl (fun M=>D6 M h5.cons.cons (by(try simp only[aki,List.flatMap_cons,List.flatMap_nil,List.length_nil]);omega)) fun v5 MK w5 M5=>lc (x:=.pointer (some ⟨W,0,none⟩))<|an (gN M5 (by simp[hg]))<|lb 1<|an rfl<|fB 2 M5 rfl (fun M=>Ov x.expr w0 _ _ _ _ _ _ _ hE hok.expr M h5.cons.cons (by(try simp only[aki,List.flatMap_cons,List.flatMap_nil,List.length_nil]);omega)) fun v6 MJ w6 M6=>fun M=>⟨rfl,_,_,(M.only (.cons _ (.cons _ (.refl _))) (.refl _)).cast rfl (by unfold kK;simp[List.append_assoc])⟩
theorem adJ{x:fC}(hok:fC.Ok x)(M:Mm w0 w (cH W v1 lr ver::bs) (bf v1 xs::rs))(h5:nr bs rs)(hg:((gc,92,#[.pointer (some ⟨W,0,none⟩)]):Bx)∈bs)(hb:xs.length+(kG x).length+500≤aT):
 Calls Tryz.prog 119 #[.agg x.cells.toArray,.pointer (some ⟨gc,0,none⟩)] w (rI w0.heap.size w0 bs rs W ver (xs++kG x)):=by
 have hl:(kG x).length=(eS x.name).length+((vD x.ctx).length):=by unfold kG;simp only[aki]
 refine d_ M [] (fn:=Tryz.f119) Tryz.func119 rfl Tryz.ntmps119 rfl<|fun g1 w1 M1=>?_
 exact lc (x:=.pointer (some ⟨W,0,none⟩))<|an (gN M1 (by simp[hg]))<|lb 0<|an rfl<|fB 1 M1 rfl (fun M=>oL M h5.cons (by(try simp only[aki,List.flatMap_cons,List.flatMap_nil,List.length_nil]);omega)) fun v2 lr2 w2 M2=>lc (x:=.pointer (some ⟨W,0,none⟩))<|an (gN M2 (by simp[hg]))<|lb 0<|an rfl<|fB 1 M2 rfl (fun M=>Dg (c:=x.ctx) M h5.cons hok.ctx.rng.low.cats hok.ctx.rng.high.cats (by(try simp only[aki,List.flatMap_cons,List.flatMap_nil,List.length_nil]);omega)) fun v3 pQ w3 M3=>fun M=>⟨rfl,_,_,(M.only (.cons _ (.refl _)) (.refl _)).cast rfl (by unfold kG;simp[List.append_assoc])⟩
theorem adI{x:fG}(hok:fG.Ok x)(M:Mm w0 w (cH W v1 lr ver::bs) (bf v1 xs::rs))(h5:nr bs rs)(hg:((gc,92,#[.pointer (some ⟨W,0,none⟩)]):Bx)∈bs)(hb:xs.length+(jc x).length+500≤aT):
 Calls Tryz.prog 122 #[.agg x.cells.toArray,.pointer (some ⟨gc,0,none⟩)] w (rI w0.heap.size w0 bs rs W ver (xs++jc x)):=by
 have hl:(jc x).length=(eS x.pat).length+((eN x.kind).length+((vD x.ctx).length)):=by unfold jc;simp only[aki]
 refine d_ M [] (fn:=Tryz.f122) Tryz.func122 rfl Tryz.ntmps122 rfl<|fun g1 w1 M1=>?_
 exact lc (x:=.pointer (some ⟨W,0,none⟩))<|an (gN M1 (by simp[hg]))<|lb 0<|an rfl<|fB 1 M1 rfl (fun M=>oL M h5.cons (by(try simp only[aki,List.flatMap_cons,List.flatMap_nil,List.length_nil]);omega)) fun v2 lr2 w2 M2=>lc (x:=.pointer (some ⟨W,0,none⟩))<|an (gN M2 (by simp[hg]))<|lb 0<|an rfl<|fun g3 w3 M3=>fB 2 M3 rfl (fun M=>bL (ns:=[x.kind]) M h5.cons (by simp) (by(try simp only[aki,List.flatMap_cons,List.flatMap_nil,List.length_nil]);omega)) fun v4 Lh w4 M4=>lc (x:=.pointer (some ⟨W,0,none⟩))<|an (gN M4 (by simp[hg]))<|lb 1<|an rfl<|fB 2 M4 rfl (fun M=>Dg (c:=x.ctx) M h5.cons.cons hok.ctx.rng.low.cats hok.ctx.rng.high.cats (by(try simp only[aki,List.flatMap_cons,List.flatMap_nil,List.length_nil]);omega)) fun v5 MK w5 M5=>fun M=>⟨rfl,_,_,(M.only (.cons _ (.cons _ (.refl _))) (.refl _)).cast rfl (by unfold jc;simp[List.append_assoc])⟩
theorem adH{x:fI}(hok:fI.Ok x)(M:Mm w0 w (cH W v1 lr ver::bs) (bf v1 xs::rs))(h5:nr bs rs)(hg:((gc,92,#[.pointer (some ⟨W,0,none⟩)]):Bx)∈bs)(hb:xs.length+(jd x).length+500≤aT):
 Calls Tryz.prog 124 #[.agg x.cells.toArray,.pointer (some ⟨gc,0,none⟩)] w (rI w0.heap.size w0 bs rs W ver (xs++jd x)):=by
 have hl:(jd x).length=(eS x.name).length+((eN x.kind).length+((eT x.src).length+((eT x.tgt).length))):=by unfold jd;simp only[aki]
 refine d_ M [] (fn:=Tryz.f124) Tryz.func124 rfl Tryz.ntmps124 rfl<|fun g1 w1 M1=>?_
 exact lc (x:=.pointer (some ⟨W,0,none⟩))<|an (gN M1 (by simp[hg]))<|lb 0<|an rfl<|fB 1 M1 rfl (fun M=>oL M h5.cons (by(try simp only[aki,List.flatMap_cons,List.flatMap_nil,List.length_nil]);omega)) fun v2 lr2 w2 M2=>lc (x:=.pointer (some ⟨W,0,none⟩))<|an (gN M2 (by simp[hg]))<|lb 0<|an rfl<|fun g3 w3 M3=>fB 2 M3 rfl (fun M=>bL (ns:=[x.kind]) M h5.cons (by simp) (by(try simp only[aki,List.flatMap_cons,List.flatMap_nil,List.length_nil]);omega)) fun v4 Lh w4 M4=>lc (x:=.pointer (some ⟨W,0,none⟩))<|an (gN M4 (by simp[hg]))<|lb 1<|an rfl<|lb 1<|an rfl<|fun g5 w5 M5=>fB 3 M5 rfl (fun M=>tN (ss:=[x.src,x.tgt]) M h5.cons.cons (by simpa using⟨hok.src,hok.tgt⟩) (by simp) (by(try simp only[aki,List.flatMap_cons,List.flatMap_nil,List.length_nil]);omega)) fun v6 MJ w6 M6=>fun M=>⟨rfl,_,_,(M.only (.cons _ (.cons _ (.cons _ (.refl _)))) (.refl _)).cast rfl (by unfold jd;simp[List.append_assoc])⟩
end
section
variable {W gc:Nat} {w0 w:World} {bs:List Bx} {rs:List Rw} {v1:Value} {lr:Int} {v:Nat} {ver:Int} {xs:List Nat}
theorem l86{l:List gi}{av:Value}(hv:aj 2 (kW w0) w0 av l)(hok:∀ x∈l,gi.Ok x)(M:Mm w0 w (cH W v1 lr ver::bs) (bf v1 xs::rs))(h5:nr bs rs)(hg:((gc,92,#[.pointer (some ⟨W,0,none⟩)]):Bx)∈bs)(hb:xs.length+(eL kL l).length+600≤aT):
 Calls Tryz.prog 86 #[.pointer (some ⟨W,0,none⟩),av,.func (.func 87) #[] #[.pointer (some ⟨gc,0,none⟩)]] w (rI w0.heap.size w0 bs rs W ver (xs++eL kL l)):=by
 have hv':=hv;obtain⟨la,lk,rfl,hm1,hm2,-⟩:=aj.form hv' (by decide);have hle:(eL kL l).length=(eN (l.length:Int)).length+(l.flatMap kL).length:=by unfold eL;rw[aki]
 have hne:=aV (l.length:Int);refine d_ M [] (fn:=Tryz.f86) Tryz.func86 rfl Tryz.ntmps86 rfl<|fun g1 w1 M1=>fB 1 M1 rfl (fun M=>bL (ns:=[(l.length:Int)]) M h5 (by simp) (by omega)) fun v3 pQ w3 M3=>lp (ι:=Nat×Value×Int) (fun z=>[(15,.int .i64 (z.1:Int))]) (fun z=>(g1,3,#[.int .i64 (l.length:Int)])::cH W z.2.1 z.2.2 ver::bs) (fun z=>bf z.2.1 (xs++(eN (l.length:Int)++(l.take z.1).flatMap kL))::rs) (fun z _=>z.1≤l.length) (fun z=>l.length-z.1) (0,v3,pQ)<|an ⟨⟨rfl,trivial⟩,fun M=>⟨M.cast rfl (by simp),akj _⟩⟩ ?_
 rintro⟨j,u,q⟩ w4 M4 hj;have hj:j≤l.length:=hj;refine an (fun h=>?_) fun h=>?_
 ·have hlt:j<l.length:=Int.ofNat_lt.1 (of_decide_eq_true h);obtain⟨y,hy⟩:∃ y,l[j]?=some y:=⟨_,akk hlt⟩;have iZ:=fZ kL hy;have iK:=akl hy;have kX:(xs++(eN (l.length:Int)++(l.take j).flatMap kL)).length+(kL y).length+500≤aT:=by simp only[aki];omega
  obtain⟨b,off,x,e1,hx,hc⟩:=aj.elt hv (by decide) hy;have hx2:=hx;obtain⟨pv,rfl,hl2⟩:=hx2;obtain⟨pa,pc,rfl,-⟩:=aN.get hl2;exact ia<|an ⟨e1,rfl,hlt⟩<|lc<|an (bZ M4.below hc)<|ei<|an C_ fun g5 w5 M5=>lb 0<|an ⟨rfl,rfl⟩ fun w6 M6=>lb 0<|an rfl<|fB 2 M6 rfl (fun M=>c87 hx (hok y iK) M h5.cons.cons (by simp[hg]) kX) fun v7 wv w7 M7=>an (by omega)<|bk (j+1,v7,wv) ⟨rfl,trivial⟩ (fun M=>⟨(M.only (.cons _ (.refl _)) (.refl _)).cast rfl (by rw[List.take_add_one,hy,akm];simp),hlt⟩) (by dsimp only;omega)
 ·have hge:j=l.length:=Nat.le_antisymm hj (Nat.le_of_not_lt fun h'=>of_decide_eq_false h (Int.ofNat_lt.2 h'));subst hge;exact fun M=>⟨rfl,u,q,(M.only (.cons _ (.refl _)) (.refl _)).cast rfl (congrArg (fun t=>bf u (xs++(eN (l.length:Int)++t.flatMap kL))::rs) akn)⟩
theorem l90{l:List gh}{av:Value}(hv:aj 3 (jk w0) w0 av l)(hok:∀ x∈l,gh.Ok x)(M:Mm w0 w (cH W v1 lr (v:Int)::bs) (bf v1 xs::rs))(h5:nr bs rs)(hg:((gc,92,#[.pointer (some ⟨W,0,none⟩)]):Bx)∈bs)(hb:xs.length+(eL (eTyp v) l).length+600≤aT):
 Calls Tryz.prog 90 #[.pointer (some ⟨W,0,none⟩),av,.func (.func 91) #[] #[.pointer (some ⟨gc,0,none⟩)]] w (rI w0.heap.size w0 bs rs W (v:Int) (xs++eL (eTyp v) l)):=by
 have hv':=hv;obtain⟨la,lk,rfl,hm1,hm2,-⟩:=aj.form hv' (by decide);have hle:(eL (eTyp v) l).length=(eN (l.length:Int)).length+(l.flatMap (eTyp v)).length:=by unfold eL;rw[aki]
 have hne:=aV (l.length:Int);refine d_ M [] (fn:=Tryz.f90) Tryz.func90 rfl Tryz.ntmps90 rfl<|fun g1 w1 M1=>fB 1 M1 rfl (fun M=>bL (ns:=[(l.length:Int)]) M h5 (by simp) (by omega)) fun v3 pQ w3 M3=>lp (ι:=Nat×Value×Int) (fun z=>[(15,.int .i64 (z.1:Int))]) (fun z=>(g1,3,#[.int .i64 (l.length:Int)])::cH W z.2.1 z.2.2 (v:Int)::bs) (fun z=>bf z.2.1 (xs++(eN (l.length:Int)++(l.take z.1).flatMap (eTyp v)))::rs) (fun z _=>z.1≤l.length) (fun z=>l.length-z.1) (0,v3,pQ)<|an ⟨⟨rfl,trivial⟩,fun M=>⟨M.cast rfl (by simp),akj _⟩⟩ ?_
 rintro⟨j,u,q⟩ w4 M4 hj;have hj:j≤l.length:=hj;refine an (fun h=>?_) fun h=>?_
 ·have hlt:j<l.length:=Int.ofNat_lt.1 (of_decide_eq_true h);obtain⟨y,hy⟩:∃ y,l[j]?=some y:=⟨_,akk hlt⟩;have iZ:=fZ (eTyp v) hy;have iK:=akl hy;have kX:(xs++(eN (l.length:Int)++(l.take j).flatMap (eTyp v))).length+(eTyp v y).length+500≤aT:=by simp only[aki];omega
  obtain⟨b,off,x,e1,hx,hc⟩:=aj.elt hv (by decide) hy;have hx2:=hx;obtain⟨pv,rfl,hl2⟩:=hx2;obtain⟨pa,pc,rfl,-⟩:=aN.get hl2;exact ia<|an ⟨e1,rfl,hlt⟩<|lc<|an (bZ M4.below hc)<|ei<|an RL fun g5 w5 M5=>lb 0<|an ⟨rfl,rfl⟩ fun w6 M6=>lb 0<|an rfl<|fB 2 M6 rfl (fun M=>c91 hx (hok y iK) M h5.cons.cons (by simp[hg]) kX) fun v7 wv w7 M7=>an (by omega)<|bk (j+1,v7,wv) ⟨rfl,trivial⟩ (fun M=>⟨(M.only (.cons _ (.refl _)) (.refl _)).cast rfl (by rw[List.take_add_one,hy,akm];simp),hlt⟩) (by dsimp only;omega)
 ·have hge:j=l.length:=Nat.le_antisymm hj (Nat.le_of_not_lt fun h'=>of_decide_eq_false h (Int.ofNat_lt.2 h'));subst hge;exact fun M=>⟨rfl,u,q,(M.only (.cons _ (.refl _)) (.refl _)).cast rfl (congrArg (fun t=>bf u (xs++(eN (l.length:Int)++t.flatMap (eTyp v)))::rs) akn)⟩
theorem l93{l:List fH}{av:Value}(hv:SliceAt w0 av 5 l.length (l.flatMap fH.cells))(hok:∀ x∈l,fH.Ok x)(M:Mm w0 w (cH W v1 lr ver::bs) (bf v1 xs::rs))(h5:nr bs rs)(hg:((gc,92,#[.pointer (some ⟨W,0,none⟩)]):Bx)∈bs)(hb:xs.length+(eL kM l).length+600≤aT):
 Calls Tryz.prog 93 #[.pointer (some ⟨W,0,none⟩),av,.func (.func 94) #[] #[.pointer (some ⟨gc,0,none⟩)]] w (rI w0.heap.size w0 bs rs W ver (xs++eL kM l)):=by
 have hv':=hv;obtain⟨la,lk,rfl,hm1,hm2,-⟩:=SliceAt.form hv' (by decide);have hle:(eL kM l).length=(eN (l.length:Int)).length+(l.flatMap kM).length:=by unfold eL;rw[aki]
 have hne:=aV (l.length:Int);refine d_ M [] (fn:=Tryz.f93) Tryz.func93 rfl Tryz.ntmps93 rfl<|fun g1 w1 M1=>fB 1 M1 rfl (fun M=>bL (ns:=[(l.length:Int)]) M h5 (by simp) (by omega)) fun v3 pQ w3 M3=>lp (ι:=Nat×Value×Int) (fun z=>[(15,.int .i64 (z.1:Int))]) (fun z=>(g1,3,#[.int .i64 (l.length:Int)])::cH W z.2.1 z.2.2 ver::bs) (fun z=>bf z.2.1 (xs++(eN (l.length:Int)++(l.take z.1).flatMap kM))::rs) (fun z _=>z.1≤l.length) (fun z=>l.length-z.1) (0,v3,pQ)<|an ⟨⟨rfl,trivial⟩,fun M=>⟨M.cast rfl (by simp),akj _⟩⟩ ?_
 rintro⟨j,u,q⟩ w4 M4 hj;have hj:j≤l.length:=hj;refine an (fun h=>?_) fun h=>?_
 ·have hlt:j<l.length:=Int.ofNat_lt.1 (of_decide_eq_true h);obtain⟨y,hy⟩:∃ y,l[j]?=some y:=⟨_,akk hlt⟩;have iZ:=fZ kM hy;have iK:=akl hy;have kX:(xs++(eN (l.length:Int)++(l.take j).flatMap kM)).length+(kM y).length+500≤aT:=by simp only[aki];omega
  obtain⟨b,off,e1,hc⟩:=SliceAt.elt hv (f:=fH.cells) (fun _=>rfl) (by decide) hy hlt;exact ia<|an ⟨e1,rfl,hlt⟩<|lc (x:=y.cells)<|an (bZ M4.below hc)<|ei<|an Oe fun g5 w5 M5=>lb 0<|an ⟨rfl,rfl⟩ fun w6 M6=>lb 0<|an rfl<|fB 2 M6 rfl (fun M=>c94 (hok y iK) M h5.cons.cons (by simp[hg]) kX) fun v7 wv w7 M7=>an (by omega)<|bk (j+1,v7,wv) ⟨rfl,trivial⟩ (fun M=>⟨(M.only (.cons _ (.refl _)) (.refl _)).cast rfl (by rw[List.take_add_one,hy,akm];simp),hlt⟩) (by dsimp only;omega)
 ·have hge:j=l.length:=Nat.le_antisymm hj (Nat.le_of_not_lt fun h'=>of_decide_eq_false h (Int.ofNat_lt.2 h'));subst hge;exact fun M=>⟨rfl,u,q,(M.only (.cons _ (.refl _)) (.refl _)).cast rfl (congrArg (fun t=>bf u (xs++(eN (l.length:Int)++t.flatMap kM))::rs) akn)⟩
theorem l96{l:List dI}{av:Value}(hv:SliceAt w0 av 9 l.length (l.flatMap dI.cells))(hok:∀ x∈l,dI.Ok x)(M:Mm w0 w (cH W v1 lr ver::bs) (bf v1 xs::rs))(h5:nr bs rs)(hg:((gc,92,#[.pointer (some ⟨W,0,none⟩)]):Bx)∈bs)(hb:xs.length+(eL kJ l).length+600≤aT):
 Calls Tryz.prog 96 #[.pointer (some ⟨W,0,none⟩),av,.func (.func 97) #[] #[.pointer (some ⟨gc,0,none⟩)]] w (rI w0.heap.size w0 bs rs W ver (xs++eL kJ l)):=by
 have hv':=hv;obtain⟨la,lk,rfl,hm1,hm2,-⟩:=SliceAt.form hv' (by decide);have hle:(eL kJ l).length=(eN (l.length:Int)).length+(l.flatMap kJ).length:=by unfold eL;rw[aki]
 have hne:=aV (l.length:Int);refine d_ M [] (fn:=Tryz.f96) Tryz.func96 rfl Tryz.ntmps96 rfl<|fun g1 w1 M1=>fB 1 M1 rfl (fun M=>bL (ns:=[(l.length:Int)]) M h5 (by simp) (by omega)) fun v3 pQ w3 M3=>lp (ι:=Nat×Value×Int) (fun z=>[(15,.int .i64 (z.1:Int))]) (fun z=>(g1,3,#[.int .i64 (l.length:Int)])::cH W z.2.1 z.2.2 ver::bs) (fun z=>bf z.2.1 (xs++(eN (l.length:Int)++(l.take z.1).flatMap kJ))::rs) (fun z _=>z.1≤l.length) (fun z=>l.length-z.1) (0,v3,pQ)<|an ⟨⟨rfl,trivial⟩,fun M=>⟨M.cast rfl (by simp),akj _⟩⟩ ?_
 rintro⟨j,u,q⟩ w4 M4 hj;have hj:j≤l.length:=hj;refine an (fun h=>?_) fun h=>?_
 ·have hlt:j<l.length:=Int.ofNat_lt.1 (of_decide_eq_true h);obtain⟨y,hy⟩:∃ y,l[j]?=some y:=⟨_,akk hlt⟩;have iZ:=fZ kJ hy;have iK:=akl hy;have kX:(xs++(eN (l.length:Int)++(l.take j).flatMap kJ)).length+(kJ y).length+500≤aT:=by simp only[aki];omega
  obtain⟨b,off,e1,hc⟩:=SliceAt.elt hv (f:=dI.cells) (fun _=>rfl) (by decide) hy hlt;exact ia<|an ⟨e1,rfl,hlt⟩<|lc (x:=y.cells)<|an (bZ M4.below hc)<|ei<|an C9 fun g5 w5 M5=>lb 0<|an ⟨rfl,rfl⟩ fun w6 M6=>lb 0<|an rfl<|fB 2 M6 rfl (fun M=>c97 (hok y iK) M h5.cons.cons (by simp[hg]) kX) fun v7 wv w7 M7=>an (by omega)<|bk (j+1,v7,wv) ⟨rfl,trivial⟩ (fun M=>⟨(M.only (.cons _ (.refl _)) (.refl _)).cast rfl (by rw[List.take_add_one,hy,akm];simp),hlt⟩) (by dsimp only;omega)
 ·have hge:j=l.length:=Nat.le_antisymm hj (Nat.le_of_not_lt fun h'=>of_decide_eq_false h (Int.ofNat_lt.2 h'));subst hge;exact fun M=>⟨rfl,u,q,(M.only (.cons _ (.refl _)) (.refl _)).cast rfl (congrArg (fun t=>bf u (xs++(eN (l.length:Int)++t.flatMap kJ))::rs) akn)⟩
theorem l98{l:List fq}{av:Value}(hv:SliceAt w0 av 11 l.length (l.flatMap fq.cells))(hok:∀ x∈l,fq.Ok x)(M:Mm w0 w (cH W v1 lr ver::bs) (bf v1 xs::rs))(h5:nr bs rs)(hg:((gc,92,#[.pointer (some ⟨W,0,none⟩)]):Bx)∈bs)(hb:xs.length+(eL kF l).length+600≤aT):
 Calls Tryz.prog 98 #[.pointer (some ⟨W,0,none⟩),av,.func (.func 99) #[] #[.pointer (some ⟨gc,0,none⟩)]] w (rI w0.heap.size w0 bs rs W ver (xs++eL kF l)):=by
 have hv':=hv;obtain⟨la,lk,rfl,hm1,hm2,-⟩:=SliceAt.form hv' (by decide);have hle:(eL kF l).length=(eN (l.length:Int)).length+(l.flatMap kF).length:=by unfold eL;rw[aki]
 have hne:=aV (l.length:Int);refine d_ M [] (fn:=Tryz.f98) Tryz.func98 rfl Tryz.ntmps98 rfl<|fun g1 w1 M1=>fB 1 M1 rfl (fun M=>bL (ns:=[(l.length:Int)]) M h5 (by simp) (by omega)) fun v3 pQ w3 M3=>lp (ι:=Nat×Value×Int) (fun z=>[(15,.int .i64 (z.1:Int))]) (fun z=>(g1,3,#[.int .i64 (l.length:Int)])::cH W z.2.1 z.2.2 ver::bs) (fun z=>bf z.2.1 (xs++(eN (l.length:Int)++(l.take z.1).flatMap kF))::rs) (fun z _=>z.1≤l.length) (fun z=>l.length-z.1) (0,v3,pQ)<|an ⟨⟨rfl,trivial⟩,fun M=>⟨M.cast rfl (by simp),akj _⟩⟩ ?_
 rintro⟨j,u,q⟩ w4 M4 hj;have hj:j≤l.length:=hj;refine an (fun h=>?_) fun h=>?_
 ·have hlt:j<l.length:=Int.ofNat_lt.1 (of_decide_eq_true h);obtain⟨y,hy⟩:∃ y,l[j]?=some y:=⟨_,akk hlt⟩;have iZ:=fZ kF hy;have iK:=akl hy;have kX:(xs++(eN (l.length:Int)++(l.take j).flatMap kF)).length+(kF y).length+500≤aT:=by simp only[aki];omega
  obtain⟨b,off,e1,hc⟩:=SliceAt.elt hv (f:=fq.cells) (fun _=>rfl) (by decide) hy hlt;exact ia<|an ⟨e1,rfl,hlt⟩<|lc (x:=y.cells)<|an (bZ M4.below hc)<|ei<|an uN fun g5 w5 M5=>lb 0<|an ⟨rfl,rfl⟩ fun w6 M6=>lb 0<|an rfl<|fB 2 M6 rfl (fun M=>c99 (hok y iK) M h5.cons.cons (by simp[hg]) kX) fun v7 wv w7 M7=>an (by omega)<|bk (j+1,v7,wv) ⟨rfl,trivial⟩ (fun M=>⟨(M.only (.cons _ (.refl _)) (.refl _)).cast rfl (by rw[List.take_add_one,hy,akm];simp),hlt⟩) (by dsimp only;omega)
 ·have hge:j=l.length:=Nat.le_antisymm hj (Nat.le_of_not_lt fun h'=>of_decide_eq_false h (Int.ofNat_lt.2 h'));subst hge;exact fun M=>⟨rfl,u,q,(M.only (.cons _ (.refl _)) (.refl _)).cast rfl (congrArg (fun t=>bf u (xs++(eN (l.length:Int)++t.flatMap kF))::rs) akn)⟩
theorem abN{l:List fN}{av:Value}(hv:SliceAt w0 av 2 l.length (l.flatMap fN.cells))(hok:∀ x∈l,fN.Ok x)(M:Mm w0 w (cH W v1 lr ver::bs) (bf v1 xs::rs))(h5:nr bs rs)(hg:((gc,92,#[.pointer (some ⟨W,0,none⟩)]):Bx)∈bs)(hb:xs.length+(eL jx l).length+600≤aT):
 Calls Tryz.prog 102 #[.pointer (some ⟨W,0,none⟩),av,.func (.func 103) #[] #[.pointer (some ⟨gc,0,none⟩)]] w (rI w0.heap.size w0 bs rs W ver (xs++eL jx l)):=by
 have hv':=hv;obtain⟨la,lk,rfl,hm1,hm2,-⟩:=SliceAt.form hv' (by decide);have hle:(eL jx l).length=(eN (l.length:Int)).length+(l.flatMap jx).length:=by unfold eL;rw[aki]
 have hne:=aV (l.length:Int);refine d_ M [] (fn:=Tryz.f102) Tryz.func102 rfl Tryz.ntmps102 rfl<|fun g1 w1 M1=>fB 1 M1 rfl (fun M=>bL (ns:=[(l.length:Int)]) M h5 (by simp) (by omega)) fun v3 pQ w3 M3=>lp (ι:=Nat×Value×Int) (fun z=>[(15,.int .i64 (z.1:Int))]) (fun z=>(g1,3,#[.int .i64 (l.length:Int)])::cH W z.2.1 z.2.2 ver::bs) (fun z=>bf z.2.1 (xs++(eN (l.length:Int)++(l.take z.1).flatMap jx))::rs) (fun z _=>z.1≤l.length) (fun z=>l.length-z.1) (0,v3,pQ)<|an ⟨⟨rfl,trivial⟩,fun M=>⟨M.cast rfl (by simp),akj _⟩⟩ ?_
 rintro⟨j,u,q⟩ w4 M4 hj;have hj:j≤l.length:=hj;refine an (fun h=>?_) fun h=>?_
 ·have hlt:j<l.length:=Int.ofNat_lt.1 (of_decide_eq_true h);obtain⟨y,hy⟩:∃ y,l[j]?=some y:=⟨_,akk hlt⟩;have iZ:=fZ jx hy;have iK:=akl hy;have kX:(xs++(eN (l.length:Int)++(l.take j).flatMap jx)).length+(jx y).length+500≤aT:=by simp only[aki];omega
  obtain⟨b,off,e1,hc⟩:=SliceAt.elt hv (f:=fN.cells) (fun _=>rfl) (by decide) hy hlt;exact ia<|an ⟨e1,rfl,hlt⟩<|lc (x:=y.cells)<|an (bZ M4.below hc)<|ei<|an Od fun g5 w5 M5=>lb 0<|an ⟨rfl,rfl⟩ fun w6 M6=>lb 0<|an rfl<|fB 2 M6 rfl (fun M=>adP (hok y iK) M h5.cons.cons (by simp[hg]) kX) fun v7 wv w7 M7=>an (by omega)<|bk (j+1,v7,wv) ⟨rfl,trivial⟩ (fun M=>⟨(M.only (.cons _ (.refl _)) (.refl _)).cast rfl (by rw[List.take_add_one,hy,akm];simp),hlt⟩) (by dsimp only;omega)
 ·have hge:j=l.length:=Nat.le_antisymm hj (Nat.le_of_not_lt fun h'=>of_decide_eq_false h (Int.ofNat_lt.2 h'));subst hge;exact fun M=>⟨rfl,u,q,(M.only (.cons _ (.refl _)) (.refl _)).cast rfl (congrArg (fun t=>bf u (xs++(eN (l.length:Int)++t.flatMap jx))::rs) akn)⟩
theorem abM{l:List aS}{av:Value}(hv:aj 10 (bq w0) w0 av l)(hok:∀ x∈l,aS.Ok x)(M:Mm w0 w (cH W v1 lr ver::bs) (bf v1 xs::rs))(h5:nr bs rs)(hb:xs.length+(eL eE l).length+600≤aT):
 Calls Tryz.prog 104 #[.pointer (some ⟨W,0,none⟩),av,.func (.func 105) #[.pointer (some ⟨W,0,none⟩)] #[]] w (rI w0.heap.size w0 bs rs W ver (xs++eL eE l)):=by
 have hv':=hv;obtain⟨la,lk,rfl,hm1,hm2,-⟩:=aj.form hv' (by decide);have hle:(eL eE l).length=(eN (l.length:Int)).length+(l.flatMap eE).length:=by unfold eL;rw[aki]
 have hne:=aV (l.length:Int);refine d_ M [] (fn:=Tryz.f104) Tryz.func104 rfl Tryz.ntmps104 rfl<|fun g1 w1 M1=>fB 1 M1 rfl (fun M=>bL (ns:=[(l.length:Int)]) M h5 (by simp) (by omega)) fun v3 pQ w3 M3=>lp (ι:=Nat×Value×Int) (fun z=>[(15,.int .i64 (z.1:Int))]) (fun z=>(g1,3,#[.int .i64 (l.length:Int)])::cH W z.2.1 z.2.2 ver::bs) (fun z=>bf z.2.1 (xs++(eN (l.length:Int)++(l.take z.1).flatMap eE))::rs) (fun z _=>z.1≤l.length) (fun z=>l.length-z.1) (0,v3,pQ)<|an ⟨⟨rfl,trivial⟩,fun M=>⟨M.cast rfl (by simp),akj _⟩⟩ ?_
 rintro⟨j,u,q⟩ w4 M4 hj;have hj:j≤l.length:=hj;refine an (fun h=>?_) fun h=>?_
 ·have hlt:j<l.length:=Int.ofNat_lt.1 (of_decide_eq_true h);obtain⟨y,hy⟩:∃ y,l[j]?=some y:=⟨_,akk hlt⟩;have iZ:=fZ eE hy;have iK:=akl hy;have kX:(xs++(eN (l.length:Int)++(l.take j).flatMap eE)).length+(eE y).length+500≤aT:=by simp only[aki];omega
  obtain⟨b,off,x,e1,hx,hc⟩:=aj.elt hv (by decide) hy;have hx2:=hx;obtain⟨nv,kv,rfl,uH,hkv⟩:=hx2.open;obtain⟨_,_,rfl,-⟩:=aN.get uH;obtain⟨_,_,rfl,-,-,-⟩:=aj.form hkv (by decide);exact ia<|an ⟨e1,rfl,hlt⟩<|lc<|an (bZ M4.below hc)<|ei<|an DW fun g5 w5 M5=>lb 0<|an ⟨rfl,rfl⟩ fun w6 M6=>lb 0<|an rfl<|fB 2 M6 rfl (fun M=>Ov y w0 _ _ _ _ _ _ _ hx (hok y iK) M h5.cons.cons (Nat.le_trans (Nat.add_le_add_left (by omega) _) kX)) fun v7 wv w7 M7=>an (by omega)<|bk (j+1,v7,wv) ⟨rfl,trivial⟩ (fun M=>⟨(M.only (.cons _ (.refl _)) (.refl _)).cast rfl (by rw[List.take_add_one,hy,akm];simp),hlt⟩) (by dsimp only;omega)
 ·have hge:j=l.length:=Nat.le_antisymm hj (Nat.le_of_not_lt fun h'=>of_decide_eq_false h (Int.ofNat_lt.2 h'));subst hge;exact fun M=>⟨rfl,u,q,(M.only (.cons _ (.refl _)) (.refl _)).cast rfl (congrArg (fun t=>bf u (xs++(eN (l.length:Int)++t.flatMap eE))::rs) akn)⟩
theorem abL{l:List bY}{av:Value}(hv:SliceAt w0 av 13 l.length (l.flatMap bY.cells))(hok:∀ x∈l,bY.oo x)(M:Mm w0 w (cH W v1 lr ver::bs) (bf v1 xs::rs))(h5:nr bs rs)(hg:((gc,92,#[.pointer (some ⟨W,0,none⟩)]):Bx)∈bs)(hb:xs.length+(eL kH l).length+600≤aT):
 Calls Tryz.prog 106 #[.pointer (some ⟨W,0,none⟩),av,.func (.func 107) #[] #[.pointer (some ⟨gc,0,none⟩)]] w (rI w0.heap.size w0 bs rs W ver (xs++eL kH l)):=by
 have hv':=hv;obtain⟨la,lk,rfl,hm1,hm2,-⟩:=SliceAt.form hv' (by decide);have hle:(eL kH l).length=(eN (l.length:Int)).length+(l.flatMap kH).length:=by unfold eL;rw[aki]
 have hne:=aV (l.length:Int);refine d_ M [] (fn:=Tryz.f106) Tryz.func106 rfl Tryz.ntmps106 rfl<|fun g1 w1 M1=>fB 1 M1 rfl (fun M=>bL (ns:=[(l.length:Int)]) M h5 (by simp) (by omega)) fun v3 pQ w3 M3=>lp (ι:=Nat×Value×Int) (fun z=>[(15,.int .i64 (z.1:Int))]) (fun z=>(g1,3,#[.int .i64 (l.length:Int)])::cH W z.2.1 z.2.2 ver::bs) (fun z=>bf z.2.1 (xs++(eN (l.length:Int)++(l.take z.1).flatMap kH))::rs) (fun z _=>z.1≤l.length) (fun z=>l.length-z.1) (0,v3,pQ)<|an ⟨⟨rfl,trivial⟩,fun M=>⟨M.cast rfl (by simp),akj _⟩⟩ ?_
 rintro⟨j,u,q⟩ w4 M4 hj;have hj:j≤l.length:=hj;refine an (fun h=>?_) fun h=>?_
 ·have hlt:j<l.length:=Int.ofNat_lt.1 (of_decide_eq_true h);obtain⟨y,hy⟩:∃ y,l[j]?=some y:=⟨_,akk hlt⟩;have iZ:=fZ kH hy;have iK:=akl hy;have kX:(xs++(eN (l.length:Int)++(l.take j).flatMap kH)).length+(kH y).length+500≤aT:=by simp only[aki];omega
  obtain⟨b,off,e1,hc⟩:=SliceAt.elt hv (f:=bY.cells) (fun _=>rfl) (by decide) hy hlt;exact ia<|an ⟨e1,rfl,hlt⟩<|lc (x:=y.cells)<|an (bZ M4.below hc)<|ei<|an zH fun g5 w5 M5=>lb 0<|an ⟨rfl,rfl⟩ fun w6 M6=>lb 0<|an rfl<|fB 2 M6 rfl (fun M=>adO (hok y iK) M h5.cons.cons (by simp[hg]) kX) fun v7 wv w7 M7=>an (by omega)<|bk (j+1,v7,wv) ⟨rfl,trivial⟩ (fun M=>⟨(M.only (.cons _ (.refl _)) (.refl _)).cast rfl (by rw[List.take_add_one,hy,akm];simp),hlt⟩) (by dsimp only;omega)
 ·have hge:j=l.length:=Nat.le_antisymm hj (Nat.le_of_not_lt fun h'=>of_decide_eq_false h (Int.ofNat_lt.2 h'));subst hge;exact fun M=>⟨rfl,u,q,(M.only (.cons _ (.refl _)) (.refl _)).cast rfl (congrArg (fun t=>bf u (xs++(eN (l.length:Int)++t.flatMap kH))::rs) akn)⟩
theorem abK{l:List dH}{av:Value}(hv:SliceAt w0 av 13 l.length (l.flatMap dH.cells))(hok:∀ x∈l,dH.Ok x)(M:Mm w0 w (cH W v1 lr (v:Int)::bs) (bf v1 xs::rs))(h5:nr bs rs)(hg:((gc,92,#[.pointer (some ⟨W,0,none⟩)]):Bx)∈bs)(hb:xs.length+(eL (jX v) l).length+600≤aT):
 Calls Tryz.prog 110 #[.pointer (some ⟨W,0,none⟩),av,.func (.func 111) #[] #[.pointer (some ⟨gc,0,none⟩)]] w (rI w0.heap.size w0 bs rs W (v:Int) (xs++eL (jX v) l)):=by
 have hv':=hv;obtain⟨la,lk,rfl,hm1,hm2,-⟩:=SliceAt.form hv' (by decide);have hle:(eL (jX v) l).length=(eN (l.length:Int)).length+(l.flatMap (jX v)).length:=by unfold eL;rw[aki]
 have hne:=aV (l.length:Int);refine d_ M [] (fn:=Tryz.f110) Tryz.func110 rfl Tryz.ntmps110 rfl<|fun g1 w1 M1=>fB 1 M1 rfl (fun M=>bL (ns:=[(l.length:Int)]) M h5 (by simp) (by omega)) fun v3 pQ w3 M3=>lp (ι:=Nat×Value×Int) (fun z=>[(15,.int .i64 (z.1:Int))]) (fun z=>(g1,3,#[.int .i64 (l.length:Int)])::cH W z.2.1 z.2.2 (v:Int)::bs) (fun z=>bf z.2.1 (xs++(eN (l.length:Int)++(l.take z.1).flatMap (jX v)))::rs) (fun z _=>z.1≤l.length) (fun z=>l.length-z.1) (0,v3,pQ)<|an ⟨⟨rfl,trivial⟩,fun M=>⟨M.cast rfl (by simp),akj _⟩⟩ ?_
 rintro⟨j,u,q⟩ w4 M4 hj;have hj:j≤l.length:=hj;refine an (fun h=>?_) fun h=>?_
 ·have hlt:j<l.length:=Int.ofNat_lt.1 (of_decide_eq_true h);obtain⟨y,hy⟩:∃ y,l[j]?=some y:=⟨_,akk hlt⟩;have iZ:=fZ (jX v) hy;have iK:=akl hy;have kX:(xs++(eN (l.length:Int)++(l.take j).flatMap (jX v))).length+(jX v y).length+500≤aT:=by simp only[aki];omega
  obtain⟨b,off,e1,hc⟩:=SliceAt.elt hv (f:=dH.cells) (fun _=>rfl) (by decide) hy hlt;exact ia<|an ⟨e1,rfl,hlt⟩<|lc (x:=y.cells)<|an (bZ M4.below hc)<|ei<|an FG fun g5 w5 M5=>lb 0<|an ⟨rfl,rfl⟩ fun w6 M6=>lb 0<|an rfl<|fB 2 M6 rfl (fun M=>adN (hok y iK) M h5.cons.cons (by simp[hg]) kX) fun v7 wv w7 M7=>an (by omega)<|bk (j+1,v7,wv) ⟨rfl,trivial⟩ (fun M=>⟨(M.only (.cons _ (.refl _)) (.refl _)).cast rfl (by rw[List.take_add_one,hy,akm];simp),hlt⟩) (by dsimp only;omega)
 ·have hge:j=l.length:=Nat.le_antisymm hj (Nat.le_of_not_lt fun h'=>of_decide_eq_false h (Int.ofNat_lt.2 h'));subst hge;exact fun M=>⟨rfl,u,q,(M.only (.cons _ (.refl _)) (.refl _)).cast rfl (congrArg (fun t=>bf u (xs++(eN (l.length:Int)++t.flatMap (jX v)))::rs) akn)⟩
theorem abJ{l:List fE}{av:Value}(hv:SliceAt w0 av 10 l.length (l.flatMap fE.cells))(hok:∀ x∈l,fE.Ok x)(M:Mm w0 w (cH W v1 lr ver::bs) (bf v1 xs::rs))(h5:nr bs rs)(hg:((gc,92,#[.pointer (some ⟨W,0,none⟩)]):Bx)∈bs)(hb:xs.length+(eL kI l).length+600≤aT):
 Calls Tryz.prog 112 #[.pointer (some ⟨W,0,none⟩),av,.func (.func 113) #[] #[.pointer (some ⟨gc,0,none⟩)]] w (rI w0.heap.size w0 bs rs W ver (xs++eL kI l)):=by
 have hv':=hv;obtain⟨la,lk,rfl,hm1,hm2,-⟩:=SliceAt.form hv' (by decide);have hle:(eL kI l).length=(eN (l.length:Int)).length+(l.flatMap kI).length:=by unfold eL;rw[aki]
 have hne:=aV (l.length:Int);refine d_ M [] (fn:=Tryz.f112) Tryz.func112 rfl Tryz.ntmps112 rfl<|fun g1 w1 M1=>fB 1 M1 rfl (fun M=>bL (ns:=[(l.length:Int)]) M h5 (by simp) (by omega)) fun v3 pQ w3 M3=>lp (ι:=Nat×Value×Int) (fun z=>[(15,.int .i64 (z.1:Int))]) (fun z=>(g1,3,#[.int .i64 (l.length:Int)])::cH W z.2.1 z.2.2 ver::bs) (fun z=>bf z.2.1 (xs++(eN (l.length:Int)++(l.take z.1).flatMap kI))::rs) (fun z _=>z.1≤l.length) (fun z=>l.length-z.1) (0,v3,pQ)<|an ⟨⟨rfl,trivial⟩,fun M=>⟨M.cast rfl (by simp),akj _⟩⟩ ?_
 rintro⟨j,u,q⟩ w4 M4 hj;have hj:j≤l.length:=hj;refine an (fun h=>?_) fun h=>?_
 ·have hlt:j<l.length:=Int.ofNat_lt.1 (of_decide_eq_true h);obtain⟨y,hy⟩:∃ y,l[j]?=some y:=⟨_,akk hlt⟩;have iZ:=fZ kI hy;have iK:=akl hy;have kX:(xs++(eN (l.length:Int)++(l.take j).flatMap kI)).length+(kI y).length+500≤aT:=by simp only[aki];omega
  obtain⟨b,off,e1,hc⟩:=SliceAt.elt hv (f:=fE.cells) (fun _=>rfl) (by decide) hy hlt;exact ia<|an ⟨e1,rfl,hlt⟩<|lc (x:=y.cells)<|an (bZ M4.below hc)<|ei<|an Bb fun g5 w5 M5=>lb 0<|an ⟨rfl,rfl⟩ fun w6 M6=>lb 0<|an rfl<|fB 2 M6 rfl (fun M=>adM (hok y iK) M h5.cons.cons (by simp[hg]) kX) fun v7 wv w7 M7=>an (by omega)<|bk (j+1,v7,wv) ⟨rfl,trivial⟩ (fun M=>⟨(M.only (.cons _ (.refl _)) (.refl _)).cast rfl (by rw[List.take_add_one,hy,akm];simp),hlt⟩) (by dsimp only;omega)
 ·have hge:j=l.length:=Nat.le_antisymm hj (Nat.le_of_not_lt fun h'=>of_decide_eq_false h (Int.ofNat_lt.2 h'));subst hge;exact fun M=>⟨rfl,u,q,(M.only (.cons _ (.refl _)) (.refl _)).cast rfl (congrArg (fun t=>bf u (xs++(eN (l.length:Int)++t.flatMap kI))::rs) akn)⟩
theorem abI{l:List fF}{av:Value}(hv:SliceAt w0 av 13 l.length (l.flatMap fF.cells))(hok:∀ x∈l,fF.Ok x)(M:Mm w0 w (cH W v1 lr ver::bs) (bf v1 xs::rs))(h5:nr bs rs)(hg:((gc,92,#[.pointer (some ⟨W,0,none⟩)]):Bx)∈bs)(hb:xs.length+(eL jR l).length+600≤aT):
 Calls Tryz.prog 114 #[.pointer (some ⟨W,0,none⟩),av,.func (.func 115) #[] #[.pointer (some ⟨gc,0,none⟩)]] w (rI w0.heap.size w0 bs rs W ver (xs++eL jR l)):=by
 have hv':=hv;obtain⟨la,lk,rfl,hm1,hm2,-⟩:=SliceAt.form hv' (by decide);have hle:(eL jR l).length=(eN (l.length:Int)).length+(l.flatMap jR).length:=by unfold eL;rw[aki]
 have hne:=aV (l.length:Int);refine d_ M [] (fn:=Tryz.f114) Tryz.func114 rfl Tryz.ntmps114 rfl<|fun g1 w1 M1=>fB 1 M1 rfl (fun M=>bL (ns:=[(l.length:Int)]) M h5 (by simp) (by omega)) fun v3 pQ w3 M3=>lp (ι:=Nat×Value×Int) (fun z=>[(15,.int .i64 (z.1:Int))]) (fun z=>(g1,3,#[.int .i64 (l.length:Int)])::cH W z.2.1 z.2.2 ver::bs) (fun z=>bf z.2.1 (xs++(eN (l.length:Int)++(l.take z.1).flatMap jR))::rs) (fun z _=>z.1≤l.length) (fun z=>l.length-z.1) (0,v3,pQ)<|an ⟨⟨rfl,trivial⟩,fun M=>⟨M.cast rfl (by simp),akj _⟩⟩ ?_
 rintro⟨j,u,q⟩ w4 M4 hj;have hj:j≤l.length:=hj;refine an (fun h=>?_) fun h=>?_
 ·have hlt:j<l.length:=Int.ofNat_lt.1 (of_decide_eq_true h);obtain⟨y,hy⟩:∃ y,l[j]?=some y:=⟨_,akk hlt⟩;have iZ:=fZ jR hy;have iK:=akl hy;have kX:(xs++(eN (l.length:Int)++(l.take j).flatMap jR)).length+(jR y).length+500≤aT:=by simp only[aki];omega
  obtain⟨b,off,e1,hc⟩:=SliceAt.elt hv (f:=fF.cells) (fun _=>rfl) (by decide) hy hlt;exact ia<|an ⟨e1,rfl,hlt⟩<|lc (x:=y.cells)<|an (bZ M4.below hc)<|ei<|an Ba fun g5 w5 M5=>lb 0<|an ⟨rfl,rfl⟩ fun w6 M6=>lb 0<|an rfl<|fB 2 M6 rfl (fun M=>adL (hok y iK) M h5.cons.cons (by simp[hg]) kX) fun v7 wv w7 M7=>an (by omega)<|bk (j+1,v7,wv) ⟨rfl,trivial⟩ (fun M=>⟨(M.only (.cons _ (.refl _)) (.refl _)).cast rfl (by rw[List.take_add_one,hy,akm];simp),hlt⟩) (by dsimp only;omega)
 ·have hge:j=l.length:=Nat.le_antisymm hj (Nat.le_of_not_lt fun h'=>of_decide_eq_false h (Int.ofNat_lt.2 h'));subst hge;exact fun M=>⟨rfl,u,q,(M.only (.cons _ (.refl _)) (.refl _)).cast rfl (congrArg (fun t=>bf u (xs++(eN (l.length:Int)++t.flatMap jR))::rs) akn)⟩
theorem Yu{l:List ij}{av:Value}(hv:aj 13 (kV w0) w0 av l)(hok:∀ x∈l,ij.Ok x)(M:Mm w0 w (cH W v1 lr ver::bs) (bf v1 xs::rs))(h5:nr bs rs)(hg:((gc,92,#[.pointer (some ⟨W,0,none⟩)]):Bx)∈bs)(hb:xs.length+(eL kK l).length+600≤aT):
 Calls Tryz.prog 116 #[.pointer (some ⟨W,0,none⟩),av,.func (.func 117) #[] #[.pointer (some ⟨gc,0,none⟩)]] w (rI w0.heap.size w0 bs rs W ver (xs++eL kK l)):=by
 have hv':=hv;obtain⟨la,lk,rfl,hm1,hm2,-⟩:=aj.form hv' (by decide);have hle:(eL kK l).length=(eN (l.length:Int)).length+(l.flatMap kK).length:=by unfold eL;rw[aki]
 have hne:=aV (l.length:Int);refine d_ M [] (fn:=Tryz.f116) Tryz.func116 rfl Tryz.ntmps116 rfl<|fun g1 w1 M1=>fB 1 M1 rfl (fun M=>bL (ns:=[(l.length:Int)]) M h5 (by simp) (by omega)) fun v3 pQ w3 M3=>lp (ι:=Nat×Value×Int) (fun z=>[(15,.int .i64 (z.1:Int))]) (fun z=>(g1,3,#[.int .i64 (l.length:Int)])::cH W z.2.1 z.2.2 ver::bs) (fun z=>bf z.2.1 (xs++(eN (l.length:Int)++(l.take z.1).flatMap kK))::rs) (fun z _=>z.1≤l.length) (fun z=>l.length-z.1) (0,v3,pQ)<|an ⟨⟨rfl,trivial⟩,fun M=>⟨M.cast rfl (by simp),akj _⟩⟩ ?_
 rintro⟨j,u,q⟩ w4 M4 hj;have hj:j≤l.length:=hj;refine an (fun h=>?_) fun h=>?_
 ·have hlt:j<l.length:=Int.ofNat_lt.1 (of_decide_eq_true h);obtain⟨y,hy⟩:∃ y,l[j]?=some y:=⟨_,akk hlt⟩;have iZ:=fZ kK hy;have iK:=akl hy;have kX:(xs++(eN (l.length:Int)++(l.take j).flatMap kK)).length+(kK y).length+500≤aT:=by simp only[aki];omega
  obtain⟨b,off,x,e1,hx,hc⟩:=aj.elt hv (by decide) hy;have hx2:=hx;obtain⟨es,rfl,hE⟩:=hx2;obtain⟨nv,kv,rfl,uH,hkv⟩:=hE.open;obtain⟨_,_,rfl,-⟩:=aN.get uH;obtain⟨_,_,rfl,-,-,-⟩:=aj.form hkv (by decide);exact ia<|an ⟨e1,rfl,hlt⟩<|lc<|an (bZ M4.below hc)<|ei<|an FE fun g5 w5 M5=>lb 0<|an ⟨rfl,rfl⟩ fun w6 M6=>lb 0<|an rfl<|fB 2 M6 rfl (fun M=>adK hx (hok y iK) M h5.cons.cons (by simp[hg]) kX) fun v7 wv w7 M7=>an (by omega)<|bk (j+1,v7,wv) ⟨rfl,trivial⟩ (fun M=>⟨(M.only (.cons _ (.refl _)) (.refl _)).cast rfl (by rw[List.take_add_one,hy,akm];simp),hlt⟩) (by dsimp only;omega)
 ·have hge:j=l.length:=Nat.le_antisymm hj (Nat.le_of_not_lt fun h'=>of_decide_eq_false h (Int.ofNat_lt.2 h'));subst hge;exact fun M=>⟨rfl,u,q,(M.only (.cons _ (.refl _)) (.refl _)).cast rfl (congrArg (fun t=>bf u (xs++(eN (l.length:Int)++t.flatMap kK))::rs) akn)⟩
theorem Yt{l:List fC}{av:Value}(hv:SliceAt w0 av 8 l.length (l.flatMap fC.cells))(hok:∀ x∈l,fC.Ok x)(M:Mm w0 w (cH W v1 lr ver::bs) (bf v1 xs::rs))(h5:nr bs rs)(hg:((gc,92,#[.pointer (some ⟨W,0,none⟩)]):Bx)∈bs)(hb:xs.length+(eL kG l).length+600≤aT):
 Calls Tryz.prog 118 #[.pointer (some ⟨W,0,none⟩),av,.func (.func 119) #[] #[.pointer (some ⟨gc,0,none⟩)]] w (rI w0.heap.size w0 bs rs W ver (xs++eL kG l)):=by
 have hv':=hv;obtain⟨la,lk,rfl,hm1,hm2,-⟩:=SliceAt.form hv' (by decide);have hle:(eL kG l).length=(eN (l.length:Int)).length+(l.flatMap kG).length:=by unfold eL;rw[aki]
 have hne:=aV (l.length:Int);refine d_ M [] (fn:=Tryz.f118) Tryz.func118 rfl Tryz.ntmps118 rfl<|fun g1 w1 M1=>fB 1 M1 rfl (fun M=>bL (ns:=[(l.length:Int)]) M h5 (by simp) (by omega)) fun v3 pQ w3 M3=>lp (ι:=Nat×Value×Int) (fun z=>[(15,.int .i64 (z.1:Int))]) (fun z=>(g1,3,#[.int .i64 (l.length:Int)])::cH W z.2.1 z.2.2 ver::bs) (fun z=>bf z.2.1 (xs++(eN (l.length:Int)++(l.take z.1).flatMap kG))::rs) (fun z _=>z.1≤l.length) (fun z=>l.length-z.1) (0,v3,pQ)<|an ⟨⟨rfl,trivial⟩,fun M=>⟨M.cast rfl (by simp),akj _⟩⟩ ?_
 rintro⟨j,u,q⟩ w4 M4 hj;have hj:j≤l.length:=hj;refine an (fun h=>?_) fun h=>?_
 ·have hlt:j<l.length:=Int.ofNat_lt.1 (of_decide_eq_true h);obtain⟨y,hy⟩:∃ y,l[j]?=some y:=⟨_,akk hlt⟩;have iZ:=fZ kG hy;have iK:=akl hy;have kX:(xs++(eN (l.length:Int)++(l.take j).flatMap kG)).length+(kG y).length+500≤aT:=by simp only[aki];omega
  obtain⟨b,off,e1,hc⟩:=SliceAt.elt hv (f:=fC.cells) (fun _=>rfl) (by decide) hy hlt;exact ia<|an ⟨e1,rfl,hlt⟩<|lc (x:=y.cells)<|an (bZ M4.below hc)<|ei<|an Oc fun g5 w5 M5=>lb 0<|an ⟨rfl,rfl⟩ fun w6 M6=>lb 0<|an rfl<|fB 2 M6 rfl (fun M=>adJ (hok y iK) M h5.cons.cons (by simp[hg]) kX) fun v7 wv w7 M7=>an (by omega)<|bk (j+1,v7,wv) ⟨rfl,trivial⟩ (fun M=>⟨(M.only (.cons _ (.refl _)) (.refl _)).cast rfl (by rw[List.take_add_one,hy,akm];simp),hlt⟩) (by dsimp only;omega)
 ·have hge:j=l.length:=Nat.le_antisymm hj (Nat.le_of_not_lt fun h'=>of_decide_eq_false h (Int.ofNat_lt.2 h'));subst hge;exact fun M=>⟨rfl,u,q,(M.only (.cons _ (.refl _)) (.refl _)).cast rfl (congrArg (fun t=>bf u (xs++(eN (l.length:Int)++t.flatMap kG))::rs) akn)⟩
theorem Ys{l:List fG}{av:Value}(hv:SliceAt w0 av 9 l.length (l.flatMap fG.cells))(hok:∀ x∈l,fG.Ok x)(M:Mm w0 w (cH W v1 lr ver::bs) (bf v1 xs::rs))(h5:nr bs rs)(hg:((gc,92,#[.pointer (some ⟨W,0,none⟩)]):Bx)∈bs)(hb:xs.length+(eL jc l).length+600≤aT):
 Calls Tryz.prog 121 #[.pointer (some ⟨W,0,none⟩),av,.func (.func 122) #[] #[.pointer (some ⟨gc,0,none⟩)]] w (rI w0.heap.size w0 bs rs W ver (xs++eL jc l)):=by
 have hv':=hv;obtain⟨la,lk,rfl,hm1,hm2,-⟩:=SliceAt.form hv' (by decide);have hle:(eL jc l).length=(eN (l.length:Int)).length+(l.flatMap jc).length:=by unfold eL;rw[aki]
 have hne:=aV (l.length:Int);refine d_ M [] (fn:=Tryz.f121) Tryz.func121 rfl Tryz.ntmps121 rfl<|fun g1 w1 M1=>fB 1 M1 rfl (fun M=>bL (ns:=[(l.length:Int)]) M h5 (by simp) (by omega)) fun v3 pQ w3 M3=>lp (ι:=Nat×Value×Int) (fun z=>[(15,.int .i64 (z.1:Int))]) (fun z=>(g1,3,#[.int .i64 (l.length:Int)])::cH W z.2.1 z.2.2 ver::bs) (fun z=>bf z.2.1 (xs++(eN (l.length:Int)++(l.take z.1).flatMap jc))::rs) (fun z _=>z.1≤l.length) (fun z=>l.length-z.1) (0,v3,pQ)<|an ⟨⟨rfl,trivial⟩,fun M=>⟨M.cast rfl (by simp),akj _⟩⟩ ?_
 rintro⟨j,u,q⟩ w4 M4 hj;have hj:j≤l.length:=hj;refine an (fun h=>?_) fun h=>?_
 ·have hlt:j<l.length:=Int.ofNat_lt.1 (of_decide_eq_true h);obtain⟨y,hy⟩:∃ y,l[j]?=some y:=⟨_,akk hlt⟩;have iZ:=fZ jc hy;have iK:=akl hy;have kX:(xs++(eN (l.length:Int)++(l.take j).flatMap jc)).length+(jc y).length+500≤aT:=by simp only[aki];omega
  obtain⟨b,off,e1,hc⟩:=SliceAt.elt hv (f:=fG.cells) (fun _=>rfl) (by decide) hy hlt;exact ia<|an ⟨e1,rfl,hlt⟩<|lc (x:=y.cells)<|an (bZ M4.below hc)<|ei<|an C8 fun g5 w5 M5=>lb 0<|an ⟨rfl,rfl⟩ fun w6 M6=>lb 0<|an rfl<|fB 2 M6 rfl (fun M=>adI (hok y iK) M h5.cons.cons (by simp[hg]) kX) fun v7 wv w7 M7=>an (by omega)<|bk (j+1,v7,wv) ⟨rfl,trivial⟩ (fun M=>⟨(M.only (.cons _ (.refl _)) (.refl _)).cast rfl (by rw[List.take_add_one,hy,akm];simp),hlt⟩) (by dsimp only;omega)
 ·have hge:j=l.length:=Nat.le_antisymm hj (Nat.le_of_not_lt fun h'=>of_decide_eq_false h (Int.ofNat_lt.2 h'));subst hge;exact fun M=>⟨rfl,u,q,(M.only (.cons _ (.refl _)) (.refl _)).cast rfl (congrArg (fun t=>bf u (xs++(eN (l.length:Int)++t.flatMap jc))::rs) akn)⟩
theorem Yr{l:List fI}{av:Value}(hv:SliceAt w0 av 10 l.length (l.flatMap fI.cells))(hok:∀ x∈l,fI.Ok x)(M:Mm w0 w (cH W v1 lr ver::bs) (bf v1 xs::rs))(h5:nr bs rs)(hg:((gc,92,#[.pointer (some ⟨W,0,none⟩)]):Bx)∈bs)(hb:xs.length+(eL jd l).length+600≤aT):
 Calls Tryz.prog 123 #[.pointer (some ⟨W,0,none⟩),av,.func (.func 124) #[] #[.pointer (some ⟨gc,0,none⟩)]] w (rI w0.heap.size w0 bs rs W ver (xs++eL jd l)):=by
 have hv':=hv;obtain⟨la,lk,rfl,hm1,hm2,-⟩:=SliceAt.form hv' (by decide);have hle:(eL jd l).length=(eN (l.length:Int)).length+(l.flatMap jd).length:=by unfold eL;rw[aki]
 have hne:=aV (l.length:Int);refine d_ M [] (fn:=Tryz.f123) Tryz.func123 rfl Tryz.ntmps123 rfl<|fun g1 w1 M1=>fB 1 M1 rfl (fun M=>bL (ns:=[(l.length:Int)]) M h5 (by simp) (by omega)) fun v3 pQ w3 M3=>lp (ι:=Nat×Value×Int) (fun z=>[(15,.int .i64 (z.1:Int))]) (fun z=>(g1,3,#[.int .i64 (l.length:Int)])::cH W z.2.1 z.2.2 ver::bs) (fun z=>bf z.2.1 (xs++(eN (l.length:Int)++(l.take z.1).flatMap jd))::rs) (fun z _=>z.1≤l.length) (fun z=>l.length-z.1) (0,v3,pQ)<|an ⟨⟨rfl,trivial⟩,fun M=>⟨M.cast rfl (by simp),akj _⟩⟩ ?_
 rintro⟨j,u,q⟩ w4 M4 hj;have hj:j≤l.length:=hj;refine an (fun h=>?_) fun h=>?_
 ·have hlt:j<l.length:=Int.ofNat_lt.1 (of_decide_eq_true h);obtain⟨y,hy⟩:∃ y,l[j]?=some y:=⟨_,akk hlt⟩;have iZ:=fZ jd hy;have iK:=akl hy;have kX:(xs++(eN (l.length:Int)++(l.take j).flatMap jd)).length+(jd y).length+500≤aT:=by simp only[aki];omega
  obtain⟨b,off,e1,hc⟩:=SliceAt.elt hv (f:=fI.cells) (fun _=>rfl) (by decide) hy hlt;exact ia<|an ⟨e1,rfl,hlt⟩<|lc (x:=y.cells)<|an (bZ M4.below hc)<|ei<|an A_ fun g5 w5 M5=>lb 0<|an ⟨rfl,rfl⟩ fun w6 M6=>lb 0<|an rfl<|fB 2 M6 rfl (fun M=>adH (hok y iK) M h5.cons.cons (by simp[hg]) kX) fun v7 wv w7 M7=>an (by omega)<|bk (j+1,v7,wv) ⟨rfl,trivial⟩ (fun M=>⟨(M.only (.cons _ (.refl _)) (.refl _)).cast rfl (by rw[List.take_add_one,hy,akm];simp),hlt⟩) (by dsimp only;omega)
 ·have hge:j=l.length:=Nat.le_antisymm hj (Nat.le_of_not_lt fun h'=>of_decide_eq_false h (Int.ofNat_lt.2 h'));subst hge;exact fun M=>⟨rfl,u,q,(M.only (.cons _ (.refl _)) (.refl _)).cast rfl (congrArg (fun t=>bf u (xs++(eN (l.length:Int)++t.flatMap jd))::rs) akn)⟩
end
section
variable {W:Nat} {w0 w:World} {bs:List Bx} {rs:List Rw} {v1:Value} {lr:Int} {v:Nat} {xs:List Nat}
theorem dz{P:Program}{a:Act}{w:World}{o:Oper}{f:Fn}{x:Operand}{p:Value}(ho:o.op=.makeFunc f #[] #[x])(hx:a.eval x=p):(execOp a.eval o).run P w=.ok (.value (.func f #[] #[p])) w:=by
 unfold execOp;simp[ho,hx,Instr.makeFunc,Result.andThen]
theorem Ct{P:Program}{a:Act}{w:World}{o:Oper}{f:Fn}{x:Operand}{p:Value}(ho:o.op=.makeFunc f #[x] #[])(hx:a.eval x=p):(execOp a.eval o).run P w=.ok (.value (.func f #[p] #[])) w:=by
 unfold execOp;simp[ho,hx,Instr.makeFunc,Result.andThen]
theorem FK{p:aD}{c0 c1 c2 c3 c4 c5 c6 c7 c8 c9 c10 c11 c12 c13 c14 c15 c16:Value}(hp:aA w0 c0 c1 c2 c3 c4 c5 c6 c7 c8 c9 c10 c11 c12 c13 c14 c15 c16 p)(hok:p.Ok)(M:Mm w0 w (cH W v1 lr (v:Int)::bs) (bf v1 xs::rs))(h5:nr bs rs)(hb:xs.length+(i_ v p).length+700≤aT):
 Calls Tryz.prog 35 #[.pointer (some ⟨W,0,none⟩),.agg #[c0,c1,c2,c3,c4,c5,c6,c7,c8,c9,c10,c11,c12,c13,c14,c15,c16]] w (rI w0.heap.size w0 bs rs W (v:Int) (xs++i_ v p)):=by
 obtain⟨_,_,_,_,_,_,_,_,_,_,_,_,_,_,_,_,_,_,_,_,_,_,_,_,_,_,_,_,_,_,_,_,_,_,rfl,rfl,rfl,rfl,rfl,rfl,rfl,rfl,rfl,rfl,rfl,rfl,rfl,rfl,rfl,rfl,rfl⟩:=hp.open;have hl:(i_ v p).length=(eL kL p.classes).length+((eL (eTyp v) p.types).length+((eL kM p.attrs).length+((eL kJ p.roles).length+((eL kF p.users).length+((eL jx p.bools).length+((eL eS p.ak).length+((eL eS p.cats).length+((eL eE p.conds).length+((eL kH p.rules).length+((eL (jX v) p.trans).length+((eL kI p.ay).length+((if 2≤v then eL jR p.ranges else []).length+((eL kK p.cons).length+((eL kG p.bg).length+((if 3≤v then eL jc p.files else []).length+((if 3≤v then eL jd p.asserts else []).length)))))))))))))))):=by unfold i_;simp only[aki]
 refine d_ M [] (fn:=Tryz.f35) Tryz.func35 rfl Tryz.ntmps35 rfl<|fun g1 w1 M1=>fun g2 w2 M2=>?_
 exact lb 1<|an rfl<|lb 0<|an rfl<|ei<|an (fun a w o ho hv=>dz ho (aY hv))<|fB 2 M2 rfl (fun M=>l86 (gc:=g1) hp.classes hok.classes M h5.cons.cons (by simp) (by(try simp only[aki]);omega)) fun v3 pQ w3 M3=>lb 1<|an rfl<|lb 0<|an rfl<|ei<|an (fun a w o ho hv=>dz ho (aY hv))<|fB 2 M3 rfl (fun M=>l90 (gc:=g1) hp.types hok.types M h5.cons.cons (by simp) (by(try simp only[aki]);omega)) fun v4 Lh w4 M4=>lb 1<|an rfl<|lb 0<|an rfl<|ei<|an (fun a w o ho hv=>dz ho (aY hv))<|fB 2 M4 rfl (fun M=>l93 (gc:=g1) hp.attrs hok.attrs M h5.cons.cons (by simp) (by(try simp only[aki]);omega)) fun v5 MK w5 M5=>lb 1<|an rfl<|lb 0<|an rfl<|ei<|an (fun a w o ho hv=>dz ho (aY hv))<|fB 2 M5 rfl (fun M=>l96 (gc:=g1) hp.roles hok.roles M h5.cons.cons (by simp) (by(try simp only[aki]);omega)) fun v6 MJ w6 M6=>lb 1<|an rfl<|lb 0<|an rfl<|ei<|an (fun a w o ho hv=>dz ho (aY hv))<|fB 2 M6 rfl (fun M=>l98 (gc:=g1) hp.users hok.users M h5.cons.cons (by simp) (by(try simp only[aki]);omega)) fun v7 wv w7 M7=>lb 1<|an rfl<|lb 0<|an rfl<|ei<|an (fun a w o ho hv=>dz ho (aY hv))<|fB 2 M7 rfl (fun M=>abN (gc:=g1) hp.bools hok.bools M h5.cons.cons (by simp) (by(try simp only[aki]);omega)) fun v8 Yk w8 M8=>lb 1<|an rfl<|lb 0<|an rfl<|fB 2 M8 rfl (fun M=>Al M h5.cons.cons hp.ak (by(try simp only[aki]);omega)) fun v9 Ud w9 M9=>lb 1<|an rfl<|lb 0<|an rfl<|fB 2 M9 rfl (fun M=>Al M h5.cons.cons hp.cats (by(try simp only[aki]);omega)) fun v10 Ym pT j3=>lb 1<|an rfl<|lb 0<|an rfl<|lb 1<|an rfl<|ei<|an (fun a w o ho hv=>Ct ho (aY hv))<|fB 2 j3 rfl (fun M=>abM hp.conds hok.conds M h5.cons.cons (by(try simp only[aki]);omega)) fun v11 Yl yY M11=>lb 1<|an rfl<|lb 0<|an rfl<|ei<|an (fun a w o ho hv=>dz ho (aY hv))<|fB 2 M11 rfl (fun M=>abL (gc:=g1) hp.rules hok.rules M h5.cons.cons (by simp) (by(try simp only[aki]);omega)) fun v12 VE Dh y9=>lb 1<|an rfl<|lb 0<|an rfl<|ei<|an (fun a w o ho hv=>dz ho (aY hv))<|fB 2 y9 rfl (fun M=>abK (gc:=g1) hp.trans hok.trans M h5.cons.cons (by simp) (by(try simp only[aki]);omega)) fun KF afM RW FD=>lb 1<|an rfl<|lb 0<|an rfl<|ei<|an (fun a w o ho hv=>dz ho (aY hv))<|fB 2 FD rfl (fun M=>abJ (gc:=g1) hp.ay hok.ay M h5.cons.cons (by simp) (by(try simp only[aki]);omega)) fun HY afL RV H7=>lb 1<|an rfl<|lb 2<|an rfl<|an (fun h=>have h2:2≤v:=by { have:=of_decide_eq_true h;omega };have hi2:(if 2≤v then eL jR p.ranges else []).length=(eL jR p.ranges).length:=(by rw[if_pos h2]);lb 1<|an rfl<|lb 0<|an rfl<|ei<|an (fun a w o ho hv=>dz ho (aY hv))<|fB 2 H7 rfl (fun M=>abI (gc:=g1) hp.ranges hok.ranges M h5.cons.cons (by simp) (by(try simp only[aki]);omega)) fun KE afK RU CQ=>lb 1<|an rfl<|lb 0<|an rfl<|ei<|an (fun a w o ho hv=>dz ho (aY hv))<|fB 2 CQ rfl (fun M=>Yu (gc:=g1) hp.cons hok.cons M h5.cons.cons (by simp) (by(try simp only[aki]);omega)) fun HV abF Rx CK=>lb 1<|an rfl<|lb 0<|an rfl<|ei<|an (fun a w o ho hv=>dz ho (aY hv))<|fB 2 CK rfl (fun M=>Yt (gc:=g1) hp.bg hok.bg M h5.cons.cons (by simp) (by(try simp only[aki]);omega)) fun v17 abE TV Ft=>lb 1<|an rfl<|lb 2<|an rfl<|an (fun h=>have h3:3≤v:=by { have:=of_decide_eq_true h;omega };have Xy:(if 3≤v then eL jc p.files else []).length=(eL jc p.files).length:=(by rw[if_pos h3]);have hi4:(if 3≤v then eL jd p.asserts else []).length=(eL jd p.asserts).length:=(by rw[if_pos h3]);lb 1<|an rfl<|lb 0<|an rfl<|ei<|an (fun a w o ho hv=>dz ho (aY hv))<|fB 2 Ft rfl (fun M=>Ys (gc:=g1) hp.files hok.files M h5.cons.cons (by simp) (by(try simp only[aki]);omega)) fun v18 abD TU Ob=>lb 1<|an rfl<|lb 0<|an rfl<|ei<|an (fun a w o ho hv=>dz ho (aY hv))<|fB 2 Ob rfl (fun M=>Yr (gc:=g1) hp.asserts hok.asserts M h5.cons.cons (by simp) (by(try simp only[aki]);omega)) fun X1 abC Xg TR=>fun M=>⟨rfl,_,_,(M.only (.cons _ (.cons _ (.refl _))) (.refl _)).cast rfl (by unfold i_;rw[if_pos h2,if_pos h3,if_pos h3];simp only[List.append_assoc,List.append_nil,List.nil_append])⟩) fun h=>have h3:¬ 3≤v:=(by { have:=of_decide_eq_false h;omega });fun M=>⟨rfl,_,_,(M.only (.cons _ (.cons _ (.refl _))) (.refl _)).cast rfl (by unfold i_;rw[if_pos h2,if_neg h3,if_neg h3];simp only[List.append_assoc,List.append_nil,List.nil_append])⟩) fun h=>have h2:¬ 2≤v:=(by { have:=of_decide_eq_false h;omega });lb 1<|an rfl<|lb 0<|an rfl<|ei<|an (fun a w o ho hv=>dz ho (aY hv))<|fB 2 H7 rfl (fun M=>Yu (gc:=g1) hp.cons hok.cons M h5.cons.cons (by simp) (by(try simp only[aki]);omega)) fun HV abF Rx CK=>lb 1<|an rfl<|lb 0<|an rfl<|ei<|an (fun a w o ho hv=>dz ho (aY hv))<|fB 2 CK rfl (fun M=>Yt (gc:=g1) hp.bg hok.bg M h5.cons.cons (by simp) (by(try simp only[aki]);omega)) fun v17 abE TV Ft=>lb 1<|an rfl<|lb 2<|an rfl<|an (fun h=>have h3:3≤v:=by { have:=of_decide_eq_true h;omega };have Xy:(if 3≤v then eL jc p.files else []).length=(eL jc p.files).length:=(by rw[if_pos h3]);have hi4:(if 3≤v then eL jd p.asserts else []).length=(eL jd p.asserts).length:=(by rw[if_pos h3]);lb 1<|an rfl<|lb 0<|an rfl<|ei<|an (fun a w o ho hv=>dz ho (aY hv))<|fB 2 Ft rfl (fun M=>Ys (gc:=g1) hp.files hok.files M h5.cons.cons (by simp) (by(try simp only[aki]);omega)) fun v18 abD TU Ob=>lb 1<|an rfl<|lb 0<|an rfl<|ei<|an (fun a w o ho hv=>dz ho (aY hv))<|fB 2 Ob rfl (fun M=>Yr (gc:=g1) hp.asserts hok.asserts M h5.cons.cons (by simp) (by(try simp only[aki]);omega)) fun X1 abC Xg TR=>fun M=>⟨rfl,_,_,(M.only (.cons _ (.cons _ (.refl _))) (.refl _)).cast rfl (by unfold i_;rw[if_neg h2,if_pos h3,if_pos h3];simp only[List.append_assoc,List.append_nil,List.nil_append])⟩) fun h=>have h3:¬ 3≤v:=(by { have:=of_decide_eq_false h;omega });fun M=>⟨rfl,_,_,(M.only (.cons _ (.cons _ (.refl _))) (.refl _)).cast rfl (by unfold i_;rw[if_neg h2,if_neg h3,if_neg h3];simp only[List.append_assoc,List.append_nil,List.nil_append])⟩
end
theorem KJ{w0:World}{u:Value}{l:List Nat}(h:aq w0 u l):Calls Tryz.prog 125 #[u] w0 (fun r w'=>r=.returned (.int .u32 (gW l))∧RowKit.Below w0.heap.size w0 w'):=by
 obtain⟨a,c,rfl,hc0,hm,ha⟩:=jU h;refine bM [] (fn:=Tryz.f125) Tryz.func125 rfl Tryz.ntmps125 rfl<|lr (ι:=Nat) (fun j=>[(3,.int .u32 (gW (l.take j))),(8,.int .i64 (j:Int))]) (fun j _=>j≤l.length) (fun j=>l.length-j) 0<|an ⟨⟨rfl,rfl,trivial⟩,fun M=>⟨M,akj _⟩⟩ ?_;intro j w1 M1 hj;refine an (fun h'=>?_) fun h'=>?_
 ·have hlt:j<l.length:=Int.ofNat_lt.1 (of_decide_eq_true h');obtain⟨y,b,off,rfl,hy,VZ,hcell⟩:=ha j hlt;refine ia<|an ⟨rfl,rfl,hlt⟩<|lc (x:=.int .u8 (y:Int))<|an (cell_later M1.below (by simpa using hcell))<|ei (x:=.int .u32 (y:Int))<|an (fun a w o ho hv=>(eI ho (aY hv) u5 Ib).trans (by rw[show IntKind.u32.wrap (y:Int)=y by simp[IntKind.wrap,IntKind.bits,IntKind.signed];omega]))<|ei (x:=bits .xor .u32 (gW (l.take j)) (y:Int))<|an rfl<|ei (x:=gW (l.take (j+1)))<|an ?_<|an (by omega)<|bk (j+1) ⟨rfl,rfl,trivial⟩ (fun M=>⟨M,hlt⟩) (show l.length-(j+1)<l.length-j by omega);rw[List.take_add_one,hy,Option.toList_some,Dj];unfold gT;simp[IntKind.wrap,IntKind.bits,IntKind.signed]
 ·have hge:j=l.length:=Nat.le_antisymm hj (Nat.le_of_not_lt fun h2=>of_decide_eq_false h' (Int.ofNat_lt.2 h2));subst hge;exact fun M=>⟨congrArg (fun t=>Ending.returned (.int .u32 (gW t))) akn,M.below⟩
theorem F8{w0:World}{u:Value}{l:List Nat}(h:aq w0 u l)(hb:l.length+10≤aT):Calls Tryz.prog 36 #[u] w0 (fun r w'=>∃ v,r=.returned v∧(w'.ownsRow w0.heap.size 5 1 v (eP l).length (byteCells (eP l))∧RowKit.Below w0.heap.size w0 w')):=by
 obtain⟨h0,h1⟩:=zf l;obtain⟨a,c,rfl,hc0,hm,ha⟩:=jU h;have c8:∀ n:Int,0≤n→IntKind.u8.wrap n=n%256:=fun n hn=>by simp[IntKind.wrap,IntKind.bits,IntKind.signed]
 refine bM [] (fn:=Tryz.f36) Tryz.func36 rfl Tryz.ntmps36 rfl<|cl<|an (KJ h) fun w1 M1=>fun g2 w2 M2=>ap 0 (fun M=>M.su 1 0 (by simp[maxLen]) rfl) rfl (h.1.keep M2.below) ⟨by unfold maxLen;unfold aT at hb;omega,by unfold aT at hb;omega⟩ fun v3 w3 M3=>ei (x:=.int .u8 (gW l%256))<|an (fun a w o ho hv=>(eI ho (aY hv) Ib u5).trans (by rw[c8 _ h0]))<|ei (x:=.int .u32 (gW l/256))<|an (fun a w o ho hv=>(sZ ho (aY hv) (cC hv) (by omega) (by decide)).trans (by simp))<|ei (x:=.int .u8 (gW l/256%256))<|an (fun a w o ho hv=>(eI ho (aY hv) Ib u5).trans (by rw[c8 _ (by omega)]))<|ei (x:=.int .u32 (gW l/65536))<|an (fun a w o ho hv=>(sZ ho (aY hv) (cC hv) (by omega) (by decide)).trans (by simp))<|ei (x:=.int .u8 (gW l/65536%256))<|an (fun a w o ho hv=>(eI ho (aY hv) Ib u5).trans (by rw[c8 _ (by omega)]))<|ei (x:=.int .u32 (gW l/16777216))<|an (fun a w o ho hv=>(sZ ho (aY hv) (cC hv) (by omega) (by decide)).trans (by simp))<|ei (x:=.int .u8 (gW l/16777216))<|an (fun a w o ho hv=>(eI ho (aY hv) Ib u5).trans (by rw[c8 _ (by omega),Int.emod_eq_of_lt (by omega) (by omega)]))<|fun g4 w4 M4=>?_
 have M4':aQ w0.heap.size w0 w4 [(g4,5,(byteCells (cM (gW l))).toArray)] [bf v3 l]:=by
  rw[uT h0];exact M4.cast rfl (by simp)
 exact cb (um M4' (wg M4' (by simp[cM]) (uS h0 h1)) (by simp[cM];omega)) fun v5 w5 M5=>fun M=>⟨v5,rfl,M.r 0 rfl,M.below⟩
theorem zC{P:Program}{a:Act}{w:World}{o:Oper}{t e:TypeId}{x lo:Operand}{g off n c l k:Nat}{lk:IntKind}(ho:o.op=.slice t x (some lo) none none)(hx:a.eval x=.slice (some ⟨g,off,none⟩) n c)(hl:a.eval lo=.int lk (l:Int))(hln:l≤n)
 (hu:P.underlying t=some (.slice e)) (hs:(P.info? e).map (·.size)=some k):(execOp a.eval o).run P w=.ok (.value (.slice (if c=l then some ⟨g,off,none⟩ else some ⟨g,off+l*k,none⟩) (n-l) (c-l))) w:=by
 have hadd:(⟨g,off,none⟩:Addr).add (l*k)=⟨g,off+l*k,none⟩:=by unfold Addr.add;split<;>simp_all
 have h1:(0:Int)≤(l:Int)∧(l:Int)≤(n:Int):=by omega
 unfold execOp;simp only[ho,hx,hl,Option.map_some,Option.map_none,Instr.sliceAt,Sem.run_bind,run_underlying hu w,Result.andThen_ok,Instr.slice,Instr.sliceBounds,Instr.sliceBound,asIntOf,Sem.run_pure,h1,and_self,if_true,Int.toNat_natCast];by_cases h:c=l
 ·subst h;simp[run_sizeOf hs]
 ·simp[h,run_sizeOf hs,hadd]
theorem clo{B:Nat}{w0 w:World}{bs:List Bx}{rs:List Rw}{ty t e:TypeId}{x lo:Operand}{g off n c k:Nat}{K:Value→List Bx→List Rw→World→Prop}(M:aQ B w0 w bs rs)(hc:0<c)(hu:Tryz.prog.underlying t=some (.slice e))(hs:(Tryz.prog.info? e).map (·.size)=some k)(h:K (.slice (some ⟨g,off,none⟩) n c) bs rs w):
 ∃ R:Value→World→Prop,(∀ (a:Act) (o':Oper),o'.op=.slice t x (some lo) none none→o'.type=ty→wj a (jW (.slice t x (some lo) none none)) [.slice (some ⟨g,off,none⟩) n c,.int .i64 0]→∃ v w',(execOp a.eval o').run Tryz.prog w=.ok (.value v) w'∧R v w')∧∀ v w',R v w'→∃ bs' rs',aQ B w0 w' bs' rs'∧K v bs' rs' w':=by
 refine⟨fun u w2=>u=.slice (some ⟨g,off,none⟩) n c∧w2=w,fun a o' hop _ pW=>⟨_,_,?_,rfl,rfl⟩,?_⟩
 ·have:=zC (P:=Tryz.prog) (w:=w) (l:=0) hop (aY pW) (cC pW) (akj _) hu hs;rw[if_neg (by omega)] at this;simpa using this
 ·rintro v w2 ⟨rfl,rfl⟩;exact⟨_,_,M,h⟩
theorem DQ{B W:Nat}{w0 w:World}{bs:List Bx}{rs:List Rw}{v:Value}{lr ver:Int}{xs:List Nat}(M:aQ B w0 w (cH W v lr ver::bs) (bf v xs::rs))(hne:xs≠[]):
 Calls Tryz.prog 37 #[.pointer (some ⟨W,0,none⟩)] w (fun r w'=>r=.returned v∧aQ B w0 w' (cH W v lr ver::bs) (bf v xs::rs)):=by
 have hl:0<xs.length:=List.length_pos_iff.2 hne
 obtain⟨g,cap,rfl,hc⟩:∃ g cap,v=.slice (some ⟨g,0,none⟩) xs.length cap∧xs.length≤cap:=by
  obtain⟨-,h⟩:=M.r 0 rfl;rcases h with⟨-,h⟩|⟨g,cap,cur,h1,-,-,h2,-⟩
  ·exact absurd (show xs.length=0 from h) (by omega)
  ·exact⟨g,cap,h1,h2⟩
 refine d_ M [] (fn:=Tryz.f37) Tryz.func37 rfl Tryz.ntmps37 rfl<|sp [0,1,2,4,5,6] (.alt (.step 3 (.step 7 (.step 8 (.step 9 .done)))) (.step 7 (.step 3 (.step 8 (.step 9 .done))))) [] (by kernel_rfl)<|fun w2 hb2 M2=>⟨?_,?_⟩
 ·exact lb 0<|an rfl<|an rfl<|lb 0<|an rfl<|an rfl<|clo (k:=1) M2 (by omega) KG (by kernel_rfl)<|an rfl<|an rfl<|fun M=>⟨rfl,M⟩
 ·exact lb 0<|an rfl<|an rfl<|lb 0<|an rfl<|an rfl<|clo (k:=1) M2 (by omega) KG (by kernel_rfl)<|an rfl<|an rfl<|fun M=>⟨rfl,M⟩
def om(s:ByteArray):Prop:=s.size≤256
def yV{α:Type}(l:List α):Prop:=l.length<4294967296
structure wL (l:List ByteArray):Prop where
 len:yV l
 all:∀ s∈l,om s
theorem Ax{l:List ByteArray}(h:wL l):mR (fR iV) (eL eS l) l:=mg h.len fun s hs=>nG (h.all s hs)
structure Z6 (x:bY):Prop where
 kind:qz x.kind
 src:x.src.Ok
 tgt:x.tgt.Ok
 cls:qz x.cls
 perms:qz x.perms
 cond:-2147483648≤x.cond∧x.cond<2147483648
structure Z1 (x:dH):Prop where
 kind:qz x.kind
 src:x.src.Ok
 tgt:x.tgt.Ok
 cls:qz x.cls
 name:om x.name
 res:qz x.res
 cond:-2147483648≤x.cond∧x.cond<2147483648
structure sw (v:Nat) (p:aD):Prop where
 classes:yV p.classes∧∀ x∈p.classes,om x.name∧wL x.perms
 types:yV p.types∧∀ x∈p.types,om x.name∧wL x.jg∧(v<2→x.perm=false)
 attrs:yV p.attrs∧∀ x∈p.attrs,om x.name∧x.types.Ok
 roles:yV p.roles∧∀ x∈p.roles,om x.name∧x.types.Ok∧x.next.Ok
 users:yV p.users∧∀ x∈p.users,om x.name∧x.roles.Ok∧Fu x.dflt∧C6 x.rng
 bools:yV p.bools∧∀ x∈p.bools,om x.name
 ak:wL p.ak
 cats:wL p.cats
 conds:yV p.conds∧∀ x∈p.conds,vJ 12 x
 rules:yV p.rules∧∀ x∈p.rules,Z6 x
 trans:yV p.trans∧∀ x∈p.trans,Z1 x∧(v<2→x.name=⟨#[]⟩)
 ay:yV p.ay∧∀ x∈p.ay,x.roles.Ok∧x.types.Ok∧qz x.cls∧qz x.res
 ranges:(yV p.ranges∧∀ x∈p.ranges,x.src.Ok∧x.tgt.Ok∧qz x.cls∧C6 x.rng)∧(v<2→p.ranges=[])
 cons:yV p.cons∧∀ x∈p.cons,qz x.cls∧qz x.perms∧vJ 12 x.expr
 bg:yV p.bg∧∀ x∈p.bg,om x.name∧Fx x.ctx
 files:(yV p.files∧∀ x∈p.files,om x.pat∧qz x.kind∧Fx x.ctx)∧(v<3→p.files=[])
 asserts:(yV p.asserts∧∀ x∈p.asserts,om x.name∧qz x.kind∧x.src.Ok∧x.tgt.Ok)∧(v<3→p.asserts=[])
theorem Gb{α:Type}{c:Prop}[Decidable c]{p:Ps α}{x z:α}{xs:List Nat}(h:mR p xs x)(hz:¬ c→x=z):mR (if c then p else pp z) (if c then xs else []) x:=by
 by_cases hc:c
 ·rw[if_pos hc,if_pos hc];exact h
 ·rw[if_neg hc,if_neg hc,hz hc];exact mR.pure _
theorem Em{v:Nat}{p:aD}(h:sw v p):mR (wY v) (i_ v p) p:=by
 obtain⟨a0,a1,a2,a3,a4,a5,a6,a7,a8,a9,rF,rE,a12,rD,rC,rB,rA⟩:=p
 refine(mg h.classes.1 fun x hx=>?_).bind<|(mg h.types.1 fun x hx=>?_).bind<|(mg h.attrs.1 fun x hx=>?_).bind<|(mg h.roles.1 fun x hx=>?_).bind<|(mg h.users.1 fun x hx=>?_).bind<|(mg h.bools.1 fun x hx=>?_).bind<|(Ax h.ak).bind<|(Ax h.cats).bind<|(mg h.conds.1 fun x hx=>O5 (h.conds.2 x hx)).bind<|(mg h.rules.1 fun x hx=>?_).bind<|(mg h.trans.1 fun x hx=>?_).bind<|(mg h.ay.1 fun x hx=>?_).bind<|
  (Gb (mg h.ranges.1.1 fun x hx=>?_) fun hv=>h.ranges.2 (by omega)).bind<|(mg h.cons.1 fun x hx=>?_).bind<|(mg h.bg.1 fun x hx=>?_).bind<|
  (Gb (mg h.files.1.1 fun x hx=>?_) fun hv=>h.files.2 (by omega)).bind<|(Gb (mg h.asserts.1.1 fun x hx=>?_) fun hv=>h.asserts.2 (by omega)).last<|mR.pure _
 ·obtain⟨h1,h2⟩:=h.classes.2 x hx;exact(nG h1).bind ((Ax h2).last (mR.pure _))
 ·obtain⟨h1,h2,h3⟩:=h.types.2 x hx;exact(nG h1).bind ((Ax h2).bind ((Gb (Ay _) fun hv=>h3 (by omega)).last (mR.pure _)))
 ·obtain⟨h1,h2⟩:=h.attrs.2 x hx;exact(nG h1).bind ((mK h2).last (mR.pure _))
 ·obtain⟨h1,h2,h3⟩:=h.roles.2 x hx;exact(nG h1).bind ((mK h2).bind ((mK h3).last (mR.pure _)))
 ·obtain⟨h1,h2,h3,h4⟩:=h.users.2 x hx;exact(nG h1).bind ((mK h2).bind ((Iz h3).bind ((Iy h4).last (mR.pure _))))
 ·exact(nG (h.bools.2 x hx)).bind ((Ay _).last (mR.pure _))
 ·have k:=h.rules.2 x hx;exact(fS k.kind).bind ((mK k.src).bind ((mK k.tgt).bind ((Ay _).bind ((fS k.cls).bind ((fS k.perms).bind ((KV k.cond).last (mR.pure _)))))))
 ·obtain⟨k,hn⟩:=h.trans.2 x hx;exact(fS k.kind).bind ((mK k.src).bind ((mK k.tgt).bind ((fS k.cls).bind ((Gb (nG k.name) fun hv=>hn (by omega)).bind ((fS k.res).bind ((KV k.cond).last (mR.pure _)))))))
 ·obtain⟨h1,h2,h3,h4⟩:=h.ay.2 x hx;exact(mK h1).bind ((mK h2).bind ((fS h3).bind ((fS h4).last (mR.pure _))))
 ·obtain⟨h1,h2,h3,h4⟩:=h.ranges.1.2 x hx;exact(mK h1).bind ((mK h2).bind ((fS h3).bind ((Iy h4).last (mR.pure _))))
 ·obtain⟨h1,h2,h3⟩:=h.cons.2 x hx;exact(fS h1).bind ((fS h2).bind ((Ay _).bind ((O5 h3).last (mR.pure _))))
 ·obtain⟨h1,h2⟩:=h.bg.2 x hx;exact(nG h1).bind ((O6 h2).last (mR.pure _))
 ·obtain⟨h1,h2,h3⟩:=h.files.1.2 x hx;exact(nG h1).bind ((fS h2).bind ((O6 h3).last (mR.pure _)))
 ·obtain⟨h1,h2,h3,h4⟩:=h.asserts.1.2 x hx;exact(nG h1).bind ((fS h2).bind ((mK h3).bind ((mK h4).last (mR.pure _))))
def Cn{α:Type}(p:Ps α)(f:α→List Nat)(G:α→Prop):Prop:=∀ l x r,Bytes l→p l=.ok (x,r)→f x++r=l∧Bytes r∧G x
theorem bt{α β:Type}{p:Ps α}{f:α→Ps β}{l r:List Nat}{y:β}(h:pb p f l=.ok (y,r)):∃ x r1,p l=.ok (x,r1)∧f x r1=.ok (y,r):=by
 unfold pb at h;split at h
 ·exact⟨_,_,by assumption,h⟩
 ·cases h
theorem gY{α:Type}{x y:α}{l r:List Nat}(h:pp x l=.ok (y,r)):y=x∧r=l:=by
 unfold pp at h;simp at h;exact⟨h.1.symm,h.2.symm⟩
theorem E_:Cn sL bn fA:=fun l x r hb h=>by
 unfold sL at h;split at h
 ·rename_i he;simp only[Except.ok.injEq,Prod.mk.injEq] at h;obtain⟨rfl,rfl⟩:=h;exact⟨qu hb (by rw[← he]),(mV l 0 0 hb).1,oC l⟩
 ·cases h
theorem oh:Cn Ss bn (fun n=>n<4294967296):=fun l x r hb h=>by
 obtain⟨n,r1,h1,h2⟩:=bt h;split at h2
 ·rename_i hn;obtain⟨rfl,rfl⟩:=gY h2;obtain⟨e,hb',-⟩:=E_ l _ _ hb h1;exact⟨e,hb',hn⟩
 ·cases h2
theorem dA:Cn lg eN qz:=fun l x r hb h=>by
 obtain⟨n,r1,h1,h2⟩:=bt h;obtain⟨rfl,rfl⟩:=gY h2;obtain⟨e,hb',hn⟩:=oh l _ _ hb h1;have hN:qz (n:Int):=⟨by omega,by omega⟩;refine⟨?_,hb',hN⟩;rw[LJ hN];exact e
theorem yP:Cn wF eC (fun n=>-2147483648≤n∧n<2147483648):=fun l x r hb h=>by
 unfold wF at h;split at h
 ·rename_i he;split at h
  ·rename_i hr;simp only[Except.ok.injEq,Prod.mk.injEq] at h;obtain⟨rfl,rfl⟩:=h;obtain⟨e,-⟩:=Dm (m:=(eA l).1) (r:=(eA l).2.1) hb (by rw[← he]);refine⟨e,?_,hr⟩;rw[← e] at hb;exact fun x hx=>hb x (List.mem_append.2 (.inr hx))
  ·cases h
 ·cases h
theorem uz:Cn zU eB (fun _=>True):=fun l x r hb h=>by
 obtain⟨n,r1,h1,h2⟩:=bt h;split at h2
 ·rename_i hn;obtain⟨rfl,rfl⟩:=gY h2;obtain⟨e,hb',-⟩:=oh l _ _ hb h1;refine⟨?_,hb',trivial⟩;rw[Rf];rcases(by omega:n=0∨n=1) with rfl|rfl<;>exact e
 ·cases h2
theorem eF:Cn iV eS om:=fun l x r hb h=>by
 unfold iV at h;split at h
 ·rename_i he;simp only[Except.ok.injEq,Prod.mk.injEq] at h;obtain⟨rfl,rfl⟩:=h;obtain⟨e,hl,hs⟩:=R2 (s:=(pY l 256).1) (r:=(pY l 256).2.1) hb (by rw[← he]);refine⟨?_,?_,?_⟩
  ·unfold eS;rw[wO,uU hs];exact e
  ·rw[← e] at hb;exact fun x hx=>hb x (List.mem_append.2 (.inr hx))
  ·unfold om;rw[wO];omega
 ·cases h
theorem eY:Cn qN eT aE.Ok:=fun l x r hb h=>by
 unfold qN at h;split at h
 ·rename_i he;simp only[Except.ok.injEq,Prod.mk.injEq] at h;obtain⟨rfl,rfl⟩:=h;obtain⟨a,b,c,d,es,ha,hb0,hc,hd,e⟩:=U5 (ss:=(rH l).1) (r:=(rH l).2.1) hb (by rw[← he]);rw[es];refine⟨e,?_,⟨ha,hb0,hc,hd⟩⟩;rw[← e] at hb;exact fun x hx=>hb x (List.mem_append.2 (.inr hx))
 ·cases h
section
variable {α β:Type} {p:Ps α} {f:α→List Nat} {G:α→Prop}
theorem Rk(h:Cn p f G):∀ n,Cn (Af n p) (List.flatMap f) (fun l=>l.length=n∧∀ x∈l,G x)
 | 0,l,x,r,hb,hp=>by
  obtain⟨rfl,rfl⟩:=gY hp;exact⟨rfl,hb,rfl,by simp⟩
 | n+1,l,x,r,hb,hp=>by
  obtain⟨y,r1,h1,h2⟩:=bt hp;obtain⟨ys,r2,h3,h4⟩:=bt h2;obtain⟨rfl,rfl⟩:=gY h4;obtain⟨e1,b1,g1⟩:=h l _ _ hb h1;obtain⟨e2,b2,n2,g2⟩:=Rk h n r1 _ _ b1 h3;refine⟨?_,b2,by simp[n2],fun x hx=>?_⟩
  ·rw[List.flatMap_cons,List.append_assoc,e2,e1]
  ·rcases List.mem_cons.1 hx with rfl|hx
   ·exact g1
   ·exact g2 x hx
theorem dB(h:Cn p f G):Cn (fR p) (eL f) (fun l=>yV l∧∀ x∈l,G x):=fun l x r hb hp=>by
 obtain⟨n,r1,h1,h2⟩:=bt hp;obtain⟨e1,b1,hn⟩:=oh l _ _ hb h1;obtain⟨e2,b2,n2,g2⟩:=Rk h n r1 _ _ b1 h2;refine⟨?_,b2,by unfold yV;omega,g2⟩;unfold eL;rw[LJ ⟨by omega,by omega⟩,n2,List.append_assoc,e2];exact e1
theorem Hl{c:Prop}[Decidable c]{z:α}(h:Cn p f G)(hz:G z):Cn (if c then p else pp z) (fun x=>if c then f x else []) (fun x=>G x∧(¬ c→x=z)):=fun l x r hb hp=>by
 by_cases hc:c
 ·rw[if_pos hc] at hp;obtain⟨e,b,g⟩:=h l _ _ hb hp;refine⟨?_,b,g,fun k=>absurd hc k⟩;dsimp only;rw[if_pos hc];exact e
 ·rw[if_neg hc] at hp;obtain⟨rfl,rfl⟩:=gY hp;refine⟨?_,hb,hz,fun _=>rfl⟩;dsimp only;rw[if_neg hc];rfl
end
theorem vZ:Cn (fR iV) (eL eS) wL:=fun l x r hb h=>by
 obtain⟨e,b,g⟩:=dB eF l x r hb h;exact⟨e,b,g.1,g.2⟩
theorem Fb:Cn Ja sq Fu:=fun l x r hb h=>by
 obtain⟨a,r1,h1,h⟩:=bt h;obtain⟨b,r2,h2,h⟩:=bt h;obtain⟨rfl,rfl⟩:=gY h;obtain⟨e1,b1,g1⟩:=dA l _ _ hb h1;obtain⟨e2,b2,g2⟩:=E_ r1 _ _ b1 h2;refine⟨?_,b2,g1,g2⟩;show eN a++bn b++r=l;rw[List.append_assoc,e2,e1]
theorem CB:Cn I9 uy C6:=fun l x r hb h=>by
 obtain⟨a,r1,h1,h⟩:=bt h;obtain⟨b,r2,h2,h⟩:=bt h;obtain⟨rfl,rfl⟩:=gY h;obtain⟨e1,b1,g1⟩:=Fb l _ _ hb h1;obtain⟨e2,b2,g2⟩:=Fb r1 _ _ b1 h2;refine⟨?_,b2,g1,g2⟩;show sq a++sq b++r=l;rw[List.append_assoc,e2,e1]
theorem Fe:Cn MA vD Fx:=fun l x r hb h=>by
 obtain⟨a,r1,h1,h⟩:=bt h;obtain⟨b,r2,h2,h⟩:=bt h;obtain⟨c,r3,h3,h⟩:=bt h;obtain⟨d,r4,h4,h⟩:=bt h;obtain⟨rfl,rfl⟩:=gY h;obtain⟨e1,b1,g1⟩:=dA l _ _ hb h1;obtain⟨e2,b2,g2⟩:=dA r1 _ _ b1 h2;obtain⟨e3,b3,g3⟩:=dA r2 _ _ b2 h3;obtain⟨e4,b4,g4⟩:=CB r3 _ _ b3 h4;refine⟨?_,b4,g1,g2,g3,g4⟩;show eN a++(eN b++(eN c++uy d))++r=l;simp only[List.append_assoc];rw[e4,e3,e2,e1]
theorem uD:∀ k,Cn (ni k) eE (vJ k)
 | 0,l,x,r,hb,h=>by
  unfold ni at h;obtain⟨op,r1,h1,h⟩:=bt h;split at h<;>cases h
 | k+1,l,x,r,hb,h=>by
  unfold ni at h;obtain⟨op,r1,h1,h⟩:=bt h;obtain⟨e1,b1,g1⟩:=dA l _ _ hb h1;split at h
  case isFalse=>cases h
  rename_i hop;split at h
  ·rename_i ho;subst ho;obtain⟨a,r2,h2,h⟩:=bt h;obtain⟨rfl,rfl⟩:=gY h;obtain⟨e2,b2,g2⟩:=dA r1 _ _ b1 h2;refine⟨?_,b2,.name g2⟩;rw[eE,yM,List.append_nil];show eN 1++eN a++r=l;rw[List.append_assoc,e2,e1]
  split at h
  ·rename_i _ ho;subst ho;obtain⟨a,r2,h2,h⟩:=bt h;obtain⟨b,r3,h3,h⟩:=bt h;obtain⟨c,r4,h4,h⟩:=bt h;obtain⟨rfl,rfl⟩:=gY h;obtain⟨e2,b2,g2⟩:=dA r1 _ _ b1 h2;obtain⟨e3,b3,g3⟩:=dA r2 _ _ b2 h3;obtain⟨e4,b4,g4⟩:=dA r3 _ _ b3 h4;refine⟨?_,b4,.cmp g2 g3 g4⟩;rw[eE,yM,List.append_nil];show eN 8++(eN a++(eN b++eN c))++r=l;simp only[List.append_assoc];rw[e4,e3,e2,e1]
  split at h
  ·rename_i _ _ ho;subst ho;obtain⟨a,r2,h2,h⟩:=bt h;obtain⟨s,r3,h3,h⟩:=bt h;obtain⟨rfl,rfl⟩:=gY h;obtain⟨e2,b2,g2⟩:=dA r1 _ _ b1 h2;obtain⟨e3,b3,g3⟩:=eY r2 _ _ b2 h3;refine⟨?_,b3,.inn g2 g3⟩;rw[eE,yM,List.append_nil];show eN 9++(eN a++eT s)++r=l;simp only[List.append_assoc];rw[e3,e2,e1]
  split at h
  ·rename_i _ _ _ ho;subst ho;obtain⟨y,r2,h2,h⟩:=bt h;obtain⟨rfl,rfl⟩:=gY h;obtain⟨e2,b2,g2⟩:=uD k r1 _ _ b1 h2;refine⟨?_,b2,.not g2⟩;rw[eE,yM,yM,List.append_nil];show eN 2++[]++eE y++r=l;rw[List.append_nil,List.append_assoc,e2,e1]
  ·rename_i n1 n8 n9 n2;obtain⟨y,r2,h2,h⟩:=bt h;obtain⟨z,r3,h3,h⟩:=bt h;obtain⟨rfl,rfl⟩:=gY h;obtain⟨e2,b2,g2⟩:=uD k r1 _ _ b1 h2;obtain⟨e3,b3,g3⟩:=uD k r2 _ _ b2 h3;refine⟨?_,b3,.two (by omega) (by omega) g2 g3⟩;rw[eE,yM,yM,yM,List.append_nil];unfold wA;rw[if_neg n1,if_neg n8,if_neg n9,List.append_nil,List.append_assoc,List.append_assoc,e3,e2,e1]
end Go.Proofs.YtkkmjdceiocnbaaGreatDoor

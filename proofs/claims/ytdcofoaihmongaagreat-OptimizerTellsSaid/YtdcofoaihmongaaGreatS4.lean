import Derived.ChangeKeysEq
import Derived.Laws.StructEq
import Derived.Test.YtdcofoaihmongaaGreatS3
open Bool renaming eq_iff_iff→atL,and_eq_true→atU
open Go renaming cell_later→atJ,wp_seq_k→atO,wpList_nil→atP,wp_cond_split→atQ,wp_block→atT
open Go.Lib renaming hid→atN
open Go.RowKit renaming Below→atv
open List renaming mem_singleton→atw,getElem?_append_left→atz,getElem?_eq_some_iff→atA,length_append→atB,getElem?_append_right→atC,mem_cons_of_mem→atE,getElem?_map→atF,mem_of_getElem?→atG,getElem?_eq_getElem→atH,take_length→atS
open Nat renaming zero_le→atx,le_trans→aty
open Option.some renaming inj→atD
open Prod.mk renaming inj→atK
set_option maxRecDepth 100000
set_option maxHeartbeats 8000000
namespace Go.Proofs.YtdcofoaihmongaaGreat
open Go Go.RowKit
def qh(w:World)(u:Value)(l:List (List Int)):Prop:=∃ vs:List Value,vs.length=l.length∧SliceAt w u 1 l.length vs∧∀ (i:Nat) v row,vs[i]?=some v→l[i]?=some row→SliceAt w v 1 row.length (row.flatMap nE)
theorem qh.keep{w w':World}{u:Value}{l:List (List Int)}(h:qh w u l)(hb:atv w.heap.size w w'):qh w' u l:=by
 obtain⟨vs,h1,h2,h3⟩:=h;exact⟨vs,h1,h2.keep hb,fun i v row a b=>(h3 i v row a b).keep hb⟩
theorem U3(l:List Int):∀ u∈l.flatMap nE,u.oneCell'=true:=fun u hu=>by
 obtain⟨x,-,hx⟩:=List.mem_flatMap.1 hu;simp only[nE,atw] at hx;rw[hx];rfl
theorem GW(w0:World)(c0 c1 c2 c3 c4 c5 c6 c7 c8 c9 aW aP aO aU aT aS aR:Value)(p:aG)(r:Nat)(hp:aL w0 c0 c1 c2 c3 c4 c5 c6 c7 c8 c9 aW aP aO aU aT aS aR p)(hb:p.bools.length≤60):
 Calls Tryz.prog 134 #[.agg #[c0,c1,c2,c3,c4,c5,c6,c7,c8,c9,aW,aP,aO,aU,aT,aS,aR],.int .i64 (r:Int)] w0 fun x w'=>∃ u,x=.returned u∧(fS w' u (rJ p.bools.length r)∧atv w0.heap.size w0 w'):=
 (zR w0 c0 c1 c2 c3 c4 c5 c6 c7 c8 c9 aW aP aO aU aT aS aR p r hp hb).mono fun _ _ ⟨u,h1,h2,h3⟩=>⟨u,h1,yY h2 (by simp[rJ]) rfl,h3⟩
def DK(p:aG)(i:Nat):List Int:=dH p.types.length p.classes.length (fun r=>kU p.bools.length p.conds (rJ p.bools.length i) r.cond) p.rules
def kX(p:aG):List (List Int):=(List.range (2^p.bools.length)).map (DK p)
structure LN (p:aG):Prop where
 bools:p.bools.length≤10
 conds:p.conds.length≤1000
 types:p.types.length≤256
 classes:p.classes.length≤256
 rules:∀ r∈p.rules,RV p.types.length p.classes.length r∧r.Dc
def Rz(wb:World)(n:Nat)(l:List Int):Value→World→Prop:=fun v w=>w.ownsRow wb.heap.size 50 1 v n (l.flatMap nE)
theorem rM(wb:World)(n:Nat)(l:List Int):eN (Rz wb n l):=fun _ _ _ h hb=>dS hb h (Nat.le_refl _)
theorem zM{wb:World}{n:Nat}{l:List Int}{u:Value}{w:World}(h:Rz wb n l u w):u.cells=#[u]:=by
 obtain⟨a,c,rfl,-⟩:=fI h;rfl
theorem Vo{wb:World}{n:Nat}{l:List Int}{u:Value}{w:World}{q:Nat}(h:Rz wb n l u w)(hq:u.ownBlock=some q):q<w.heap.size:=(World.ownsRow.lt h q hq).2
theorem abN(n:Nat)(h:n≤10):2^n≤1024:=Nat.pow_le_pow_right (by decide) h
theorem qV(w0:World)(c0 c1 c2 c3 c4 c5 c6 c7 c8 c9 aW aP aO aU aT aS aR:Value)(p:aG)(hp:aL w0 c0 c1 c2 c3 c4 c5 c6 c7 c8 c9 aW aP aO aU aT aS aR p)(hS:LN p):
 Calls Tryz.prog 70 #[.agg #[c0,c1,c2,c3,c4,c5,c6,c7,c8,c9,aW,aP,aO,aU,aT,aS,aR]] w0 fun x w'=>∃ u,x=.returned u∧(qh w' u (kX p)∧atv w0.heap.size w0 w'):=by
 obtain⟨gh,f_,rfl,-⟩:=SliceAt.form hp.bools (by decide);have adn:=abN _ hS.bools;have hNl:∀ i,(DK p i).length=4*p.types.length*p.types.length*p.classes.length:=fun i=>gu ..
 refine fL [] (fn:=Tryz.f70) Tryz.func70 rfl Tryz.ntmps70 rfl fun g w1 M1=>lq (ι:=Nat×Value×List Rw) (fun(m,u,T)=>[(3,u),(4,.int .i64 (m:Int))]) (fun(m,u,T)=>⟨u,224,1,m,T.map (·.v)⟩::T)
  (fun(m,u,T) _=>m≤2^p.bools.length∧T.length=m∧∀ (i:Nat) r,T[i]?=some r→r=⟨r.v,50,1,4*p.types.length*p.types.length*p.classes.length,(DK p i).flatMap nE⟩) (fun(m,u,T)=>2^p.bools.length-m) (0,.slice none 0 0,[])
  (an ⟨⟨rfl,rfl,trivial⟩,fun M=>⟨M.bX 224 1,atx _,rfl,fun i r h=>by simp at h⟩⟩ ?_)
 rintro⟨m,u,T⟩ w M ⟨hm,SX,hT⟩;refine lb 0<|an rfl<|ei (x:=.int .i64 ((2^p.bools.length:Nat):Int))<|an (fun a w o ho hv=>?_)<|an (fun h=>?_) fun h M=>?_
 ·have:=lU (P:=Tryz.prog) (w:=w) ho (qN hv) (yx hv) (by omega) (by simp[IntKind.bits];have:=hS.bools;omega);rw[this]
  have hw:IntKind.i64.wrap (1*2^(p.bools.length:Int).toNat)=((2^p.bools.length:Nat):Int):=by
   rw[Int.toNat_natCast,Int.one_mul,wrap_i64]
   ·simp
   ·have e:(2:Int)^p.bools.length=((2^p.bools.length:Nat):Int):=by simp
    rw[e];omega
  rw[hw]
 ·simp only[decide_eq_true_eq] at h;have hlt:m<2^p.bools.length:=by omega
  refine dr (by kernel_rfl)<|lb 0<|an rfl<|lb 0<|an rfl<|cr (fun u w=>fS w u (rJ p.bools.length m))<|an (vR _)<|an (fun w' hb' M'=>GW _ _ _ _ _ _ _ _ _ _ _ _ _ _ _ _ _ _ p m (hp.keep M'.below) (aty hS.bools (by decide)))<|cv (Rz w (4*p.types.length*p.types.length*p.classes.length) (DK p m))<|an (rM _ _ _)<|an (fun s _ w' hb' M' hR=>?_)<|br (aaO w 224 (Rz w (4*p.types.length*p.types.length*p.classes.length) (DK p m)))<|an (KP (rM _ _ _))<|an (fun u=>b1 (rM _ _ _) (fun _ _=>zM) (fun _ _ _=>Vo) (b:=24) (by kernel_rfl)) fun v w2 hR hb2 M2=>?_
  ·exact(Ib w' _ _ _ _ _ _ _ _ _ _ _ _ _ _ _ _ _ s p _ (hp.keep M'.below) hR (aty hS.bools (by decide)) hS.conds hS.types hS.classes hS.rules).mono fun _ _ ⟨u,h1,h2,h3⟩=>⟨u,h1,nL h2 hb'.size,h3⟩
  obtain⟨ur,gr,rfl,hW,hge,hne,hur⟩:=hR;have M3:=M.VK hb2 hW hge (r:=⟨ur,50,1,4*p.types.length*p.types.length*p.classes.length,(DK p m).flatMap nE⟩) hur hne;have huc:=zM hur;obtain⟨ua,uc,rfl,-⟩:=fI hur;have hp:∀ a:Rw,(a::T).Perm (T++[a]):=fun a=>by simpa using List.perm_append_comm (l₁:=[a]) (l₂:=T)
  refine ap 1 (fun _=>M3) rfl (M3.slice 0 rfl rfl rfl (by simp[maxLen])) ⟨by unfold maxLen;omega,by omega⟩ fun v2 w4 M=>an (by omega)<|bk (m+1,v2,T++[⟨.slice ua (4*p.types.length*p.types.length*p.classes.length) uc,50,1,4*p.types.length*p.types.length*p.classes.length,(DK p m).flatMap nE⟩]) ⟨rfl,rfl,trivial⟩ (fun M=>⟨((M.only (.cons _ (.refl _)) (.refl _)).perm ((List.Perm.swap _ _ _).trans (.cons _ (hp _)))).cast rfl ?_,?_⟩) (by dsimp only;omega)
  ·refine congrArg (fun x=>(⟨v2,224,1,m+1,x⟩:Rw)::(T++[_])) ?_;simp
  ·refine⟨by omega,by simp[SX],fun i r hr=>?_⟩;by_cases hi:i<m
   ·rw[atz (by omega)] at hr;exact hT i r hr
   ·have hlen:=(atA.1 hr).1;rw[atB,SX,List.length_singleton] at hlen;obtain rfl:i=m:=by omega
    rw[atC (by omega),SX,Nat.sub_self] at hr;obtain rfl:=atD hr;rfl
 ·simp only[decide_eq_false_iff_not] at h;obtain rfl:m=2^p.bools.length:=by omega
  have hml:(kX p).length=2^p.bools.length:=by simp[kX]
  have hs1:SliceAt w u 1 (2^p.bools.length) (T.map (·.v)):=SliceAt.bM (M.r 0 rfl) fun x hx=>by
   obtain⟨r,hr,rfl⟩:=List.mem_map.1 hx;obtain⟨a,c,e,-⟩:=fI (M.row r (atE _ hr));rw[e];rfl
  refine⟨_,rfl,⟨T.map (·.v),by rw[List.length_map,SX,hml],by rw[hml];exact hs1,fun i v row hv hrow=>?_⟩,M.below⟩
  ·rw[atF] at hv
   cases hr:T[i]? with
   | none=>rw[hr] at hv;cases hv
   | some r=>
    rw[hr] at hv;obtain rfl:=atD hv;have h1:=M.row r (atE _ (atG hr));rw[hT i r hr] at h1;have hi:i<2^p.bools.length:=SX▸(atA.1 hr).1
    have adh:row=DK p i:=by
     unfold kX at hrow;rw[atF,List.getElem?_range hi] at hrow;exact(atD hrow).symm
    rw[adh,hNl];exact SliceAt.bM h1 (U3 _)
theorem qh.get{w:World}{u:Value}{l:List (List Int)}(h:qh w u l):∃ a c,u=.slice a l.length c∧l.length≤9223372036854775807∧∀ (i:Nat) row,l[i]?=some row→∃ b off a' c',a=some ⟨b,off,none⟩∧w.cell? ⟨b,off+i*1,none⟩=some (.slice a' row.length c')∧row.length≤9223372036854775807 ∧
 ∀ (j:Nat) x,row[j]?=some x→∃ b' off',a'=some ⟨b',off',none⟩∧w.cell? ⟨b',off'+j*1,none⟩=some (.int .u32 x):=by
 obtain⟨vs,h1,h2,h3⟩:=h;obtain⟨a,c,rfl,-,hm,hc⟩:=h2.form (by decide);refine⟨a,c,rfl,hm,fun i row hi=>?_⟩;have hlt:=(atA.1 hi).1;obtain⟨b,off,rfl,hc'⟩:=hc i hlt;obtain⟨v,hv⟩:∃ v,vs[i]?=some v:=⟨_,atH (h1▸hlt)⟩;have h4:=h3 i v row hv hi;obtain⟨a',c',rfl,-,hm',-⟩:=h4.form (by decide);refine⟨b,off,a',c',rfl,hc' 0 _ (by simpa using hv),hm',fun j x hx=>?_⟩;obtain⟨b',off',e,h5⟩:=h4.elt (f:=nE) (fun _=>rfl) (by decide) hx (atA.1 hx).1;exact⟨b',off',e,h5 0 _ rfl⟩
theorem iW{α:Type}{a b:List α}{m:Nat}{x y:α}(h:a.take m=b.take m)(hx:a[m]?=some x)(hy:b[m]?=some y)(e:x=y):a.take (m+1)=b.take (m+1):=by
 rw[List.take_add_one,List.take_add_one,h,hx,hy,e]
theorem oW{α:Type}{a b:List α}{m:Nat}(h:a.take m=b.take m)(hl:a.length=b.length)(hm:a.length≤m):a=b:=by
 rwa [List.take_of_length_le hm,List.take_of_length_le (hl▸hm)] at h
theorem sV(w0:World)(v v':Value)(a b:List (List Int))(ha:qh w0 v a)(hb:qh w0 v' b):Calls Tryz.prog 69 #[v,v'] w0 fun r w'=>r=.returned (.bool (decide (a=b)))∧atv w0.heap.size w0 w':=by
 obtain⟨la,ka,rfl,hma,hca⟩:=ha.get;obtain⟨lb',kb',rfl,-,hcb⟩:=hb.get;have no:a≠b→Ending.returned (kR [Value.bool false])=.returned (.bool (decide (a=b))):=fun h=>by rw[decide_eq_false h];rfl
 refine fL [] (fn:=Tryz.f69) Tryz.func69 rfl Tryz.ntmps69 rfl<|an (fun h M=>⟨no fun e=>by rw[e] at h;simp at h,M.below⟩) fun h=>lr (ι:=Nat) (fun m=>[(5,.int .i64 (m:Int))]) (fun m _=>m≤a.length∧a.take m=b.take m) (fun m=>a.length-m) 0 (an ⟨⟨rfl,trivial⟩,fun M=>⟨M,atx _,rfl⟩⟩ ?_)
 have hll:a.length=b.length:=Int.ofNat_inj.1 (by simpa using h);intro m w M ⟨hm,ht⟩;refine an (fun h2=>?_) fun h2 M=>⟨?_,M.below⟩
 ·simp only[decide_eq_true_eq] at h2;obtain⟨x,hx⟩:∃ x,a[m]?=some x:=⟨_,atH (by omega)⟩;obtain⟨y,hy⟩:∃ y,b[m]?=some y:=⟨_,atH (by omega)⟩;obtain⟨b1,o1,a1,c1,rfl,hc1,hm1,hr1⟩:=hca m x hx;obtain⟨b2,o2,a2,c2,rfl,hc2,hm2,qB⟩:=hcb m y hy;refine dr (by kernel_rfl)<|ia<|an ⟨rfl,rfl,by omega⟩<|lc<|an (atJ M.below hc1)<|ia<|an ⟨rfl,rfl,by omega⟩<|lc<|an (atJ M.below hc2) fun w2 hb2 M2=>an (fun h3 M=>⟨no fun e=>?_,M.below⟩) fun h3=>?_
  ·subst e;rw[hx] at hy;obtain rfl:=atD hy;simp at h3
  have hxy:x.length=y.length:=Int.ofNat_inj.1 (by simpa using h3);refine lr (ι:=Nat) (fun k=>[(6,.int .i64 (k:Int))]) (fun k _=>k≤x.length∧x.take k=y.take k) (fun k=>x.length-k) 0 (an ⟨⟨rfl,trivial⟩,fun M=>⟨M,atx _,rfl⟩⟩ ?_);intro k w M ⟨hk,hkt⟩;refine ia<|an ⟨rfl,rfl,by omega⟩<|lc<|an (atJ M.below hc1)<|an (fun h4=>?_) fun h4=>?_
  ·simp only[decide_eq_true_eq] at h4;obtain⟨p,hp⟩:∃ p,x[k]?=some p:=⟨_,atH (by omega)⟩;obtain⟨q,hq⟩:∃ q,y[k]?=some q:=⟨_,atH (by omega)⟩;obtain⟨b3,o3,e3,hc3⟩:=hr1 k p hp;obtain⟨b4,o4,e4,yd⟩:=qB k q hq;refine dr (by kernel_rfl)<|ia<|an ⟨rfl,rfl,by omega⟩<|lc<|an (atJ M.below hc1)<|ia<|an ⟨e3,rfl,by omega⟩<|lc<|an (atJ M.below hc3)<|ia<|an ⟨rfl,rfl,by omega⟩<|lc<|an (atJ M.below hc2)<|ia<|an ⟨e4,rfl,by omega⟩<|lc<|an (atJ M.below yd) fun w3 Pw M=>an (fun h5 M=>⟨no fun e=>?_,M.below⟩) fun h5=>an (by omega)<|bk (k+1) ⟨rfl,trivial⟩ (fun M=>⟨M,by omega,iW hkt hp hq (by simpa using h5)⟩) (by dsimp only;omega)
   subst e;rw[hx] at hy;obtain rfl:=atD hy;rw[hp] at hq;obtain rfl:=atD hq;simp at h5
  ·simp only[decide_eq_false_iff_not] at h4;exact an (by omega)<|bk (m+1) ⟨rfl,trivial⟩ (fun M=>⟨M,by omega,iW ht hx hy (oW hkt hxy (by omega))⟩) (by dsimp only;omega)
 ·simp only[decide_eq_false_iff_not] at h2;rw[decide_eq_true (oW ht hll (by omega))];rfl
end Go.Proofs.YtdcofoaihmongaaGreat
namespace Go.Proofs.YtdcofoaihmongaaGreat
open Go Go.RowKit Go.WideMaps
theorem XW(d:Nat)(x0 y0:Int)(w:World):(Op.equalIn (d+1) 52 (.int .u64 x0) (.int .u64 y0)).run Tryz.prog w=.ok (decide (x0=y0)) w:=by
 by_cases h:x0=y0<;>simp[Op.equalIn,run_underlying Tryz.underlying52,h]
theorem lu(d:Nat)(x0 x1 x2 x3 y0 y1 y2 y3:Int)(w:World):(Op.equalIn (d+2) 54 (.agg #[.int .u64 x0,.int .u64 x1,.int .u64 x2,.int .u64 x3]) (.agg #[.int .u64 y0,.int .u64 y1,.int .u64 y2,.int .u64 y3])).run Tryz.prog w=.ok (decide (x0=y0∧x1=y1∧x2=y2∧x3=y3)) w:=by
 have hsz:=iM
 obtain⟨i0,hi,-⟩:∃ i,Tryz.prog.info? 52=some i∧True:=by
  cases h:Tryz.prog.info? 52 with
  | none=>rw[h] at hsz;cases hsz
  | some i=>exact⟨i,rfl,trivial⟩
 rw[show d+2=(d+1)+1 from rfl,run_equalIn_array w (d+1) _ _ Tryz.underlying54 hi,show Tryz.prog.cellsOf 52=1 from by kernel_rfl];have p0:∀ x0 x1 x2 x3:Int,(part 52 #[.int .u64 x0,.int .u64 x1,.int .u64 x2,.int .u64 x3] (0*1)).run Tryz.prog w=.ok (.int .u64 x0) w:=fun x0 x1 x2 x3=>by kernel_rfl
 have p1:∀ x0 x1 x2 x3:Int,(part 52 #[.int .u64 x0,.int .u64 x1,.int .u64 x2,.int .u64 x3] (1*1)).run Tryz.prog w=.ok (.int .u64 x1) w:=fun x0 x1 x2 x3=>by kernel_rfl
 have p2:∀ x0 x1 x2 x3:Int,(part 52 #[.int .u64 x0,.int .u64 x1,.int .u64 x2,.int .u64 x3] (2*1)).run Tryz.prog w=.ok (.int .u64 x2) w:=fun x0 x1 x2 x3=>by kernel_rfl
 have p3:∀ x0 x1 x2 x3:Int,(part 52 #[.int .u64 x0,.int .u64 x1,.int .u64 x2,.int .u64 x3] (3*1)).run Tryz.prog w=.ok (.int .u64 x3) w:=fun x0 x1 x2 x3=>by kernel_rfl
 have eq:=fun a b=>XW d a b w
 rw[show List.range 4=[0,1,2,3] from rfl];simp only[Op.eqItems,Sem.run_bind,p0,Result.andThen_ok,eq];by_cases h0:x0=y0<;>by_cases h1:x1=y1<;>by_cases h2:x2=y2<;>by_cases h3:x3=y3<;>simp[h0,h1,h2,h3,Sem.run_bind,p1,p2,p3,eq]
theorem qL(d:Nat)(x0 y0:Int)(w:World):(Op.equalIn (d+1) 3 (.int .i64 x0) (.int .i64 y0)).run Tryz.prog w=.ok (decide (x0=y0)) w:=by
 by_cases h:x0=y0<;>simp[Op.equalIn,run_underlying Tryz.underlying3,h]
theorem ad8(d:Nat)(x0 y0:Bool)(w:World):(Op.equalIn (d+1) 4 (.bool x0) (.bool y0)).run Tryz.prog w=.ok (decide (x0=y0)) w:=by
 by_cases h:x0=y0<;>simp[Op.equalIn,run_underlying Tryz.underlying4,h]
theorem ad7(d:Nat)(x0 y0:Int)(w:World):(Op.equalIn (d+1) 50 (.int .u32 x0) (.int .u32 y0)).run Tryz.prog w=.ok (decide (x0=y0)) w:=by
 by_cases h:x0=y0<;>simp[Op.equalIn,run_underlying Tryz.underlying50,h]
theorem ad6(d:Nat)(x0 x1 x2 x3 x4 x5 x6 x7 x8 x10 oF oD y0 y1 y2 y3 y4 y5 y6 y7 y8 uK Bt Bs:Int)(x9 y9:Bool)(w:World):(Op.equalIn (d+3) 56 (.agg #[.int .i64 x0,.int .u64 x1,.int .u64 x2,.int .u64 x3,.int .u64 x4,.int .u64 x5,.int .u64 x6,.int .u64 x7,.int .u64 x8,.bool x9,.int .i64 x10,.int .u32 oF,.int .i64 oD]) (.agg #[.int .i64 y0,.int .u64 y1,.int .u64 y2,.int .u64 y3,.int .u64 y4,.int .u64 y5,.int .u64 y6,.int .u64 y7,.int .u64 y8,.bool y9,.int .i64 uK,.int .u32 Bt,.int .i64 Bs])).run Tryz.prog w=.ok (decide (x0=y0∧x1=y1∧x2=y2∧x3=y3∧x4=y4∧x5=y5∧x6=y6∧x7=y7∧x8=y8∧x9=y9∧x10=uK∧oF=Bt∧oD=Bs)) w:=by
 have hf:(Tryz.prog.fieldsOf 56).toList.map (fun f=>(f.type,f.offset))=[(3,0),(54,1),(54,5),(4,9),(3,10),(50,11),(3,12)]:=by kernel_rfl
 have hq:(Op.eqFields (d+2) #[.int .i64 x0,.int .u64 x1,.int .u64 x2,.int .u64 x3,.int .u64 x4,.int .u64 x5,.int .u64 x6,.int .u64 x7,.int .u64 x8,.bool x9,.int .i64 x10,.int .u32 oF,.int .i64 oD] #[.int .i64 y0,.int .u64 y1,.int .u64 y2,.int .u64 y3,.int .u64 y4,.int .u64 y5,.int .u64 y6,.int .u64 y7,.int .u64 y8,.bool y9,.int .i64 uK,.int .u32 Bt,.int .i64 Bs] (Tryz.prog.fieldsOf 56).toList).run Tryz.prog w=.ok ([decide (x0=y0),decide (x1=y1∧x2=y2∧x3=y3∧x4=y4),decide (x5=y5∧x6=y6∧x7=y7∧x8=y8),decide (x9=y9),decide (x10=uK),decide (oF=Bt),decide (oD=Bs)].all id) w:=by
  refine dD _ _ (by kernel_rfl) (by kernel_rfl) fun i f r hi hr=>?_
  have hm:=congrArg (fun z:List (Nat×Nat)=>z[i]?) hf;simp only[atF,hi,Option.map_some] at hm;have hlt:i<7:=(atA.1 hr).1
  match i,hlt with
  | 0,_=>
   obtain⟨h1,h2⟩:=atK (atD hm);obtain rfl:=atD hr;rw[h1,h2];exact⟨.int .i64 x0,.int .i64 y0,by kernel_rfl,by kernel_rfl,qL (d+1) x0 y0 w⟩
  | 1,_=>
   obtain⟨h1,h2⟩:=atK (atD hm);obtain rfl:=atD hr;rw[h1,h2];exact⟨.agg #[.int .u64 x1,.int .u64 x2,.int .u64 x3,.int .u64 x4],.agg #[.int .u64 y1,.int .u64 y2,.int .u64 y3,.int .u64 y4],by kernel_rfl,by kernel_rfl,lu d x1 x2 x3 x4 y1 y2 y3 y4 w⟩
  | 2,_=>
   obtain⟨h1,h2⟩:=atK (atD hm);obtain rfl:=atD hr;rw[h1,h2];exact⟨.agg #[.int .u64 x5,.int .u64 x6,.int .u64 x7,.int .u64 x8],.agg #[.int .u64 y5,.int .u64 y6,.int .u64 y7,.int .u64 y8],by kernel_rfl,by kernel_rfl,lu d x5 x6 x7 x8 y5 y6 y7 y8 w⟩
  | 3,_=>
   obtain⟨h1,h2⟩:=atK (atD hm);obtain rfl:=atD hr;rw[h1,h2];exact⟨.bool x9,.bool y9,by kernel_rfl,by kernel_rfl,ad8 (d+1) x9 y9 w⟩
  | 4,_=>
   obtain⟨h1,h2⟩:=atK (atD hm);obtain rfl:=atD hr;rw[h1,h2];exact⟨.int .i64 x10,.int .i64 uK,by kernel_rfl,by kernel_rfl,qL (d+1) x10 uK w⟩
  | 5,_=>
   obtain⟨h1,h2⟩:=atK (atD hm);obtain rfl:=atD hr;rw[h1,h2];exact⟨.int .u32 oF,.int .u32 Bt,by kernel_rfl,by kernel_rfl,ad7 (d+1) oF Bt w⟩
  | 6,_=>
   obtain⟨h1,h2⟩:=atK (atD hm);obtain rfl:=atD hr;rw[h1,h2];exact⟨.int .i64 oD,.int .i64 Bs,by kernel_rfl,by kernel_rfl,qL (d+1) oD Bs w⟩
 rw[show d+3=(d+2)+1 from rfl,run_equalIn_agg w (d+2) 56 _ _ (by kernel_rfl) (by kernel_rfl),hq];congr 1;rw[atL];simp[and_assoc]
theorem Il(d:Nat)(x0 y0:ByteArray)(w:World):(Op.equalIn (d+1) 9 (.string x0) (.string y0)).run Tryz.prog w=.ok (decide (x0=y0)) w:=by
 have e:(x0 == y0)=decide (x0=y0):=by
  rw[atL,decide_eq_true_eq];constructor
  ·intro h;have h':(x0.data == y0.data)=true:=h;exact ByteArray.ext (by simpa using h')
  ·intro h;subst h;show(x0.data == x0.data)=true;simp
 simp[Op.equalIn,run_underlying Tryz.underlying9,e]
theorem ad5(d:Nat)(x0 x1 x2 x3 x4 x5 x6 x7 x8 x9 oF oD y0 y1 y2 y3 y4 y5 y6 y7 y8 y9 Bt Bs:Int)(x10 uK:ByteArray)(w:World):(Op.equalIn (d+3) 84 (.agg #[.int .i64 x0,.int .u64 x1,.int .u64 x2,.int .u64 x3,.int .u64 x4,.int .u64 x5,.int .u64 x6,.int .u64 x7,.int .u64 x8,.int .i64 x9,.string x10,.int .i64 oF,.int .i64 oD]) (.agg #[.int .i64 y0,.int .u64 y1,.int .u64 y2,.int .u64 y3,.int .u64 y4,.int .u64 y5,.int .u64 y6,.int .u64 y7,.int .u64 y8,.int .i64 y9,.string uK,.int .i64 Bt,.int .i64 Bs])).run Tryz.prog w=.ok (decide (x0=y0∧x1=y1∧x2=y2∧x3=y3∧x4=y4∧x5=y5∧x6=y6∧x7=y7∧x8=y8∧x9=y9∧x10=uK∧oF=Bt∧oD=Bs)) w:=by
 have hf:(Tryz.prog.fieldsOf 84).toList.map (fun f=>(f.type,f.offset))=[(3,0),(54,1),(54,5),(3,9),(9,10),(3,11),(3,12)]:=by kernel_rfl
 have hq:(Op.eqFields (d+2) #[.int .i64 x0,.int .u64 x1,.int .u64 x2,.int .u64 x3,.int .u64 x4,.int .u64 x5,.int .u64 x6,.int .u64 x7,.int .u64 x8,.int .i64 x9,.string x10,.int .i64 oF,.int .i64 oD] #[.int .i64 y0,.int .u64 y1,.int .u64 y2,.int .u64 y3,.int .u64 y4,.int .u64 y5,.int .u64 y6,.int .u64 y7,.int .u64 y8,.int .i64 y9,.string uK,.int .i64 Bt,.int .i64 Bs] (Tryz.prog.fieldsOf 84).toList).run Tryz.prog w=.ok ([decide (x0=y0),decide (x1=y1∧x2=y2∧x3=y3∧x4=y4),decide (x5=y5∧x6=y6∧x7=y7∧x8=y8),decide (x9=y9),decide (x10=uK),decide (oF=Bt),decide (oD=Bs)].all id) w:=by
  refine dD _ _ (by kernel_rfl) (by kernel_rfl) fun i f r hi hr=>?_
  have hm:=congrArg (fun z:List (Nat×Nat)=>z[i]?) hf;simp only[atF,hi,Option.map_some] at hm;have hlt:i<7:=(atA.1 hr).1
  match i,hlt with
  | 0,_=>
   obtain⟨h1,h2⟩:=atK (atD hm);obtain rfl:=atD hr;rw[h1,h2];exact⟨.int .i64 x0,.int .i64 y0,by kernel_rfl,by kernel_rfl,qL (d+1) x0 y0 w⟩
  | 1,_=>
   obtain⟨h1,h2⟩:=atK (atD hm);obtain rfl:=atD hr;rw[h1,h2];exact⟨.agg #[.int .u64 x1,.int .u64 x2,.int .u64 x3,.int .u64 x4],.agg #[.int .u64 y1,.int .u64 y2,.int .u64 y3,.int .u64 y4],by kernel_rfl,by kernel_rfl,lu d x1 x2 x3 x4 y1 y2 y3 y4 w⟩
  | 2,_=>
   obtain⟨h1,h2⟩:=atK (atD hm);obtain rfl:=atD hr;rw[h1,h2];exact⟨.agg #[.int .u64 x5,.int .u64 x6,.int .u64 x7,.int .u64 x8],.agg #[.int .u64 y5,.int .u64 y6,.int .u64 y7,.int .u64 y8],by kernel_rfl,by kernel_rfl,lu d x5 x6 x7 x8 y5 y6 y7 y8 w⟩
  | 3,_=>
   obtain⟨h1,h2⟩:=atK (atD hm);obtain rfl:=atD hr;rw[h1,h2];exact⟨.int .i64 x9,.int .i64 y9,by kernel_rfl,by kernel_rfl,qL (d+1) x9 y9 w⟩
  | 4,_=>
   obtain⟨h1,h2⟩:=atK (atD hm);obtain rfl:=atD hr;rw[h1,h2];exact⟨.string x10,.string uK,by kernel_rfl,by kernel_rfl,Il (d+1) x10 uK w⟩
  | 5,_=>
   obtain⟨h1,h2⟩:=atK (atD hm);obtain rfl:=atD hr;rw[h1,h2];exact⟨.int .i64 oF,.int .i64 Bt,by kernel_rfl,by kernel_rfl,qL (d+1) oF Bt w⟩
  | 6,_=>
   obtain⟨h1,h2⟩:=atK (atD hm);obtain rfl:=atD hr;rw[h1,h2];exact⟨.int .i64 oD,.int .i64 Bs,by kernel_rfl,by kernel_rfl,qL (d+1) oD Bs w⟩
 rw[show d+3=(d+2)+1 from rfl,run_equalIn_agg w (d+2) 84 _ _ (by kernel_rfl) (by kernel_rfl),hq];congr 1;rw[atL];simp[and_assoc]
theorem Ts(d:Nat)(x0 x1 y0 y1:Int)(w:World):(Op.equalIn (d+2) 70 (.agg #[.int .i64 x0,.int .u64 x1]) (.agg #[.int .i64 y0,.int .u64 y1])).run Tryz.prog w=.ok (decide (x0=y0∧x1=y1)) w:=by
 have hf:(Tryz.prog.fieldsOf 70).toList.map (fun f=>(f.type,f.offset))=[(3,0),(52,1)]:=by kernel_rfl
 have hq:(Op.eqFields (d+1) #[.int .i64 x0,.int .u64 x1] #[.int .i64 y0,.int .u64 y1] (Tryz.prog.fieldsOf 70).toList).run Tryz.prog w=.ok ([decide (x0=y0),decide (x1=y1)].all id) w:=by
  refine dD _ _ (by kernel_rfl) (by kernel_rfl) fun i f r hi hr=>?_
  have hm:=congrArg (fun z:List (Nat×Nat)=>z[i]?) hf;simp only[atF,hi,Option.map_some] at hm;have hlt:i<2:=(atA.1 hr).1
  match i,hlt with
  | 0,_=>
   obtain⟨h1,h2⟩:=atK (atD hm);obtain rfl:=atD hr;rw[h1,h2];exact⟨.int .i64 x0,.int .i64 y0,by kernel_rfl,by kernel_rfl,qL d x0 y0 w⟩
  | 1,_=>
   obtain⟨h1,h2⟩:=atK (atD hm);obtain rfl:=atD hr;rw[h1,h2];exact⟨.int .u64 x1,.int .u64 y1,by kernel_rfl,by kernel_rfl,XW d x1 y1 w⟩
 rw[show d+2=(d+1)+1 from rfl,run_equalIn_agg w (d+1) 70 _ _ (by kernel_rfl) (by kernel_rfl),hq];congr 1;rw[atL];simp
theorem Tq(d:Nat)(x0 x1 x2 x3 y0 y1 y2 y3:Int)(w:World):(Op.equalIn (d+3) 72 (.agg #[.int .i64 x0,.int .u64 x1,.int .i64 x2,.int .u64 x3]) (.agg #[.int .i64 y0,.int .u64 y1,.int .i64 y2,.int .u64 y3])).run Tryz.prog w=.ok (decide (x0=y0∧x1=y1∧x2=y2∧x3=y3)) w:=by
 have hf:(Tryz.prog.fieldsOf 72).toList.map (fun f=>(f.type,f.offset))=[(70,0),(70,2)]:=by kernel_rfl
 have hq:(Op.eqFields (d+2) #[.int .i64 x0,.int .u64 x1,.int .i64 x2,.int .u64 x3] #[.int .i64 y0,.int .u64 y1,.int .i64 y2,.int .u64 y3] (Tryz.prog.fieldsOf 72).toList).run Tryz.prog w=.ok ([decide (x0=y0∧x1=y1),decide (x2=y2∧x3=y3)].all id) w:=by
  refine dD _ _ (by kernel_rfl) (by kernel_rfl) fun i f r hi hr=>?_
  have hm:=congrArg (fun z:List (Nat×Nat)=>z[i]?) hf;simp only[atF,hi,Option.map_some] at hm;have hlt:i<2:=(atA.1 hr).1
  match i,hlt with
  | 0,_=>
   obtain⟨h1,h2⟩:=atK (atD hm);obtain rfl:=atD hr;rw[h1,h2];exact⟨.agg #[.int .i64 x0,.int .u64 x1],.agg #[.int .i64 y0,.int .u64 y1],by kernel_rfl,by kernel_rfl,Ts d x0 x1 y0 y1 w⟩
  | 1,_=>
   obtain⟨h1,h2⟩:=atK (atD hm);obtain rfl:=atD hr;rw[h1,h2];exact⟨.agg #[.int .i64 x2,.int .u64 x3],.agg #[.int .i64 y2,.int .u64 y3],by kernel_rfl,by kernel_rfl,Ts d x2 x3 y2 y3 w⟩
 rw[show d+3=(d+2)+1 from rfl,run_equalIn_agg w (d+2) 72 _ _ (by kernel_rfl) (by kernel_rfl),hq];congr 1;rw[atL];simp[and_assoc]
theorem XV(d:Nat)(x0 x1 x2 x3 x4 x5 x6 y0 y1 y2 y3 y4 y5 y6:Int)(w:World):(Op.equalIn (d+4) 74 (.agg #[.int .i64 x0,.int .i64 x1,.int .i64 x2,.int .i64 x3,.int .u64 x4,.int .i64 x5,.int .u64 x6]) (.agg #[.int .i64 y0,.int .i64 y1,.int .i64 y2,.int .i64 y3,.int .u64 y4,.int .i64 y5,.int .u64 y6])).run Tryz.prog w=.ok (decide (x0=y0∧x1=y1∧x2=y2∧x3=y3∧x4=y4∧x5=y5∧x6=y6)) w:=by
 have hf:(Tryz.prog.fieldsOf 74).toList.map (fun f=>(f.type,f.offset))=[(3,0),(3,1),(3,2),(72,3)]:=by kernel_rfl
 have hq:(Op.eqFields (d+3) #[.int .i64 x0,.int .i64 x1,.int .i64 x2,.int .i64 x3,.int .u64 x4,.int .i64 x5,.int .u64 x6] #[.int .i64 y0,.int .i64 y1,.int .i64 y2,.int .i64 y3,.int .u64 y4,.int .i64 y5,.int .u64 y6] (Tryz.prog.fieldsOf 74).toList).run Tryz.prog w=.ok ([decide (x0=y0),decide (x1=y1),decide (x2=y2),decide (x3=y3∧x4=y4∧x5=y5∧x6=y6)].all id) w:=by
  refine dD _ _ (by kernel_rfl) (by kernel_rfl) fun i f r hi hr=>?_
  have hm:=congrArg (fun z:List (Nat×Nat)=>z[i]?) hf;simp only[atF,hi,Option.map_some] at hm;have hlt:i<4:=(atA.1 hr).1
  match i,hlt with
  | 0,_=>
   obtain⟨h1,h2⟩:=atK (atD hm);obtain rfl:=atD hr;rw[h1,h2];exact⟨.int .i64 x0,.int .i64 y0,by kernel_rfl,by kernel_rfl,qL (d+2) x0 y0 w⟩
  | 1,_=>
   obtain⟨h1,h2⟩:=atK (atD hm);obtain rfl:=atD hr;rw[h1,h2];exact⟨.int .i64 x1,.int .i64 y1,by kernel_rfl,by kernel_rfl,qL (d+2) x1 y1 w⟩
  | 2,_=>
   obtain⟨h1,h2⟩:=atK (atD hm);obtain rfl:=atD hr;rw[h1,h2];exact⟨.int .i64 x2,.int .i64 y2,by kernel_rfl,by kernel_rfl,qL (d+2) x2 y2 w⟩
  | 3,_=>
   obtain⟨h1,h2⟩:=atK (atD hm);obtain rfl:=atD hr;rw[h1,h2];exact⟨.agg #[.int .i64 x3,.int .u64 x4,.int .i64 x5,.int .u64 x6],.agg #[.int .i64 y3,.int .u64 y4,.int .i64 y5,.int .u64 y6],by kernel_rfl,by kernel_rfl,Tq d x3 x4 x5 x6 y3 y4 y5 y6 w⟩
 rw[show d+4=(d+3)+1 from rfl,run_equalIn_agg w (d+3) 74 _ _ (by kernel_rfl) (by kernel_rfl),hq];congr 1;rw[atL];simp
theorem aag(d:Nat)(x1 x2 x3 x4 x5 x6 x7 y1 y2 y3 y4 y5 y6 y7:Int)(x0 y0:ByteArray)(w:World):(Op.equalIn (d+5) 125 (.agg #[.string x0,.int .i64 x1,.int .i64 x2,.int .i64 x3,.int .i64 x4,.int .u64 x5,.int .i64 x6,.int .u64 x7]) (.agg #[.string y0,.int .i64 y1,.int .i64 y2,.int .i64 y3,.int .i64 y4,.int .u64 y5,.int .i64 y6,.int .u64 y7])).run Tryz.prog w=.ok (decide (x0=y0∧x1=y1∧x2=y2∧x3=y3∧x4=y4∧x5=y5∧x6=y6∧x7=y7)) w:=by
 have hf:(Tryz.prog.fieldsOf 125).toList.map (fun f=>(f.type,f.offset))=[(9,0),(74,1)]:=by kernel_rfl
 have hq:(Op.eqFields (d+4) #[.string x0,.int .i64 x1,.int .i64 x2,.int .i64 x3,.int .i64 x4,.int .u64 x5,.int .i64 x6,.int .u64 x7] #[.string y0,.int .i64 y1,.int .i64 y2,.int .i64 y3,.int .i64 y4,.int .u64 y5,.int .i64 y6,.int .u64 y7] (Tryz.prog.fieldsOf 125).toList).run Tryz.prog w=.ok ([decide (x0=y0),decide (x1=y1∧x2=y2∧x3=y3∧x4=y4∧x5=y5∧x6=y6∧x7=y7)].all id) w:=by
  refine dD _ _ (by kernel_rfl) (by kernel_rfl) fun i f r hi hr=>?_
  have hm:=congrArg (fun z:List (Nat×Nat)=>z[i]?) hf;simp only[atF,hi,Option.map_some] at hm;have hlt:i<2:=(atA.1 hr).1
  match i,hlt with
  | 0,_=>
   obtain⟨h1,h2⟩:=atK (atD hm);obtain rfl:=atD hr;rw[h1,h2];exact⟨.string x0,.string y0,by kernel_rfl,by kernel_rfl,Il (d+3) x0 y0 w⟩
  | 1,_=>
   obtain⟨h1,h2⟩:=atK (atD hm);obtain rfl:=atD hr;rw[h1,h2];exact⟨.agg #[.int .i64 x1,.int .i64 x2,.int .i64 x3,.int .i64 x4,.int .u64 x5,.int .i64 x6,.int .u64 x7],.agg #[.int .i64 y1,.int .i64 y2,.int .i64 y3,.int .i64 y4,.int .u64 y5,.int .i64 y6,.int .u64 y7],by kernel_rfl,by kernel_rfl,XV d x1 x2 x3 x4 x5 x6 x7 y1 y2 y3 y4 y5 y6 y7 w⟩
 rw[show d+5=(d+4)+1 from rfl,run_equalIn_agg w (d+4) 125 _ _ (by kernel_rfl) (by kernel_rfl),hq];congr 1;rw[atL];simp
theorem aaf(d:Nat)(x1 x2 x3 x4 x5 x6 x7 x8 y1 y2 y3 y4 y5 y6 y7 y8:Int)(x0 y0:ByteArray)(w:World):(Op.equalIn (d+5) 127 (.agg #[.string x0,.int .i64 x1,.int .i64 x2,.int .i64 x3,.int .i64 x4,.int .i64 x5,.int .u64 x6,.int .i64 x7,.int .u64 x8]) (.agg #[.string y0,.int .i64 y1,.int .i64 y2,.int .i64 y3,.int .i64 y4,.int .i64 y5,.int .u64 y6,.int .i64 y7,.int .u64 y8])).run Tryz.prog w=.ok (decide (x0=y0∧x1=y1∧x2=y2∧x3=y3∧x4=y4∧x5=y5∧x6=y6∧x7=y7∧x8=y8)) w:=by
 have hf:(Tryz.prog.fieldsOf 127).toList.map (fun f=>(f.type,f.offset))=[(9,0),(3,1),(74,2)]:=by kernel_rfl
 have hq:(Op.eqFields (d+4) #[.string x0,.int .i64 x1,.int .i64 x2,.int .i64 x3,.int .i64 x4,.int .i64 x5,.int .u64 x6,.int .i64 x7,.int .u64 x8] #[.string y0,.int .i64 y1,.int .i64 y2,.int .i64 y3,.int .i64 y4,.int .i64 y5,.int .u64 y6,.int .i64 y7,.int .u64 y8] (Tryz.prog.fieldsOf 127).toList).run Tryz.prog w=.ok ([decide (x0=y0),decide (x1=y1),decide (x2=y2∧x3=y3∧x4=y4∧x5=y5∧x6=y6∧x7=y7∧x8=y8)].all id) w:=by
  refine dD _ _ (by kernel_rfl) (by kernel_rfl) fun i f r hi hr=>?_
  have hm:=congrArg (fun z:List (Nat×Nat)=>z[i]?) hf;simp only[atF,hi,Option.map_some] at hm;have hlt:i<3:=(atA.1 hr).1
  match i,hlt with
  | 0,_=>
   obtain⟨h1,h2⟩:=atK (atD hm);obtain rfl:=atD hr;rw[h1,h2];exact⟨.string x0,.string y0,by kernel_rfl,by kernel_rfl,Il (d+3) x0 y0 w⟩
  | 1,_=>
   obtain⟨h1,h2⟩:=atK (atD hm);obtain rfl:=atD hr;rw[h1,h2];exact⟨.int .i64 x1,.int .i64 y1,by kernel_rfl,by kernel_rfl,qL (d+3) x1 y1 w⟩
  | 2,_=>
   obtain⟨h1,h2⟩:=atK (atD hm);obtain rfl:=atD hr;rw[h1,h2];exact⟨.agg #[.int .i64 x2,.int .i64 x3,.int .i64 x4,.int .i64 x5,.int .u64 x6,.int .i64 x7,.int .u64 x8],.agg #[.int .i64 y2,.int .i64 y3,.int .i64 y4,.int .i64 y5,.int .u64 y6,.int .i64 y7,.int .u64 y8],by kernel_rfl,by kernel_rfl,XV d x2 x3 x4 x5 x6 x7 x8 y2 y3 y4 y5 y6 y7 y8 w⟩
 rw[show d+5=(d+4)+1 from rfl,run_equalIn_agg w (d+4) 127 _ _ (by kernel_rfl) (by kernel_rfl),hq];congr 1;rw[atL];simp
theorem aae(d:Nat)(x1 x2 x3 x4 x5 x6 x7 x8 x9 y1 y2 y3 y4 y5 y6 y7 y8 y9:Int)(x0 y0:ByteArray)(w:World):(Op.equalIn (d+3) 129 (.agg #[.string x0,.int .i64 x1,.int .u64 x2,.int .u64 x3,.int .u64 x4,.int .u64 x5,.int .u64 x6,.int .u64 x7,.int .u64 x8,.int .u64 x9]) (.agg #[.string y0,.int .i64 y1,.int .u64 y2,.int .u64 y3,.int .u64 y4,.int .u64 y5,.int .u64 y6,.int .u64 y7,.int .u64 y8,.int .u64 y9])).run Tryz.prog w=.ok (decide (x0=y0∧x1=y1∧x2=y2∧x3=y3∧x4=y4∧x5=y5∧x6=y6∧x7=y7∧x8=y8∧x9=y9)) w:=by
 have hf:(Tryz.prog.fieldsOf 129).toList.map (fun f=>(f.type,f.offset))=[(9,0),(3,1),(54,2),(54,6)]:=by kernel_rfl
 have hq:(Op.eqFields (d+2) #[.string x0,.int .i64 x1,.int .u64 x2,.int .u64 x3,.int .u64 x4,.int .u64 x5,.int .u64 x6,.int .u64 x7,.int .u64 x8,.int .u64 x9] #[.string y0,.int .i64 y1,.int .u64 y2,.int .u64 y3,.int .u64 y4,.int .u64 y5,.int .u64 y6,.int .u64 y7,.int .u64 y8,.int .u64 y9] (Tryz.prog.fieldsOf 129).toList).run Tryz.prog w=.ok ([decide (x0=y0),decide (x1=y1),decide (x2=y2∧x3=y3∧x4=y4∧x5=y5),decide (x6=y6∧x7=y7∧x8=y8∧x9=y9)].all id) w:=by
  refine dD _ _ (by kernel_rfl) (by kernel_rfl) fun i f r hi hr=>?_
  have hm:=congrArg (fun z:List (Nat×Nat)=>z[i]?) hf;simp only[atF,hi,Option.map_some] at hm;have hlt:i<4:=(atA.1 hr).1
  match i,hlt with
  | 0,_=>
   obtain⟨h1,h2⟩:=atK (atD hm);obtain rfl:=atD hr;rw[h1,h2];exact⟨.string x0,.string y0,by kernel_rfl,by kernel_rfl,Il (d+1) x0 y0 w⟩
  | 1,_=>
   obtain⟨h1,h2⟩:=atK (atD hm);obtain rfl:=atD hr;rw[h1,h2];exact⟨.int .i64 x1,.int .i64 y1,by kernel_rfl,by kernel_rfl,qL (d+1) x1 y1 w⟩
  | 2,_=>
   obtain⟨h1,h2⟩:=atK (atD hm);obtain rfl:=atD hr;rw[h1,h2];exact⟨.agg #[.int .u64 x2,.int .u64 x3,.int .u64 x4,.int .u64 x5],.agg #[.int .u64 y2,.int .u64 y3,.int .u64 y4,.int .u64 y5],by kernel_rfl,by kernel_rfl,lu d x2 x3 x4 x5 y2 y3 y4 y5 w⟩
  | 3,_=>
   obtain⟨h1,h2⟩:=atK (atD hm);obtain rfl:=atD hr;rw[h1,h2];exact⟨.agg #[.int .u64 x6,.int .u64 x7,.int .u64 x8,.int .u64 x9],.agg #[.int .u64 y6,.int .u64 y7,.int .u64 y8,.int .u64 y9],by kernel_rfl,by kernel_rfl,lu d x6 x7 x8 x9 y6 y7 y8 y9 w⟩
 rw[show d+3=(d+2)+1 from rfl,run_equalIn_agg w (d+2) 129 _ _ (by kernel_rfl) (by kernel_rfl),hq];congr 1;rw[atL];simp[and_assoc]
theorem aad(d:Nat)(x1 x2 x3 x4 y1 y2 y3 y4:Int)(x0 y0:ByteArray)(w:World):(Op.equalIn (d+3) 184 (.agg #[.string x0,.int .u64 x1,.int .u64 x2,.int .u64 x3,.int .u64 x4]) (.agg #[.string y0,.int .u64 y1,.int .u64 y2,.int .u64 y3,.int .u64 y4])).run Tryz.prog w=.ok (decide (x0=y0∧x1=y1∧x2=y2∧x3=y3∧x4=y4)) w:=by
 have hf:(Tryz.prog.fieldsOf 184).toList.map (fun f=>(f.type,f.offset))=[(9,0),(54,1)]:=by kernel_rfl
 have hq:(Op.eqFields (d+2) #[.string x0,.int .u64 x1,.int .u64 x2,.int .u64 x3,.int .u64 x4] #[.string y0,.int .u64 y1,.int .u64 y2,.int .u64 y3,.int .u64 y4] (Tryz.prog.fieldsOf 184).toList).run Tryz.prog w=.ok ([decide (x0=y0),decide (x1=y1∧x2=y2∧x3=y3∧x4=y4)].all id) w:=by
  refine dD _ _ (by kernel_rfl) (by kernel_rfl) fun i f r hi hr=>?_
  have hm:=congrArg (fun z:List (Nat×Nat)=>z[i]?) hf;simp only[atF,hi,Option.map_some] at hm;have hlt:i<2:=(atA.1 hr).1
  match i,hlt with
  | 0,_=>
   obtain⟨h1,h2⟩:=atK (atD hm);obtain rfl:=atD hr;rw[h1,h2];exact⟨.string x0,.string y0,by kernel_rfl,by kernel_rfl,Il (d+1) x0 y0 w⟩
  | 1,_=>
   obtain⟨h1,h2⟩:=atK (atD hm);obtain rfl:=atD hr;rw[h1,h2];exact⟨.agg #[.int .u64 x1,.int .u64 x2,.int .u64 x3,.int .u64 x4],.agg #[.int .u64 y1,.int .u64 y2,.int .u64 y3,.int .u64 y4],by kernel_rfl,by kernel_rfl,lu d x1 x2 x3 x4 y1 y2 y3 y4 w⟩
 rw[show d+3=(d+2)+1 from rfl,run_equalIn_agg w (d+2) 184 _ _ (by kernel_rfl) (by kernel_rfl),hq];congr 1;rw[atL];simp
theorem Tt(d:Nat)(x1 x2 x3 x4 x5 x6 x7 x8 y1 y2 y3 y4 y5 y6 y7 y8:Int)(x0 y0:ByteArray)(w:World):(Op.equalIn (d+3) 188 (.agg #[.string x0,.int .u64 x1,.int .u64 x2,.int .u64 x3,.int .u64 x4,.int .u64 x5,.int .u64 x6,.int .u64 x7,.int .u64 x8]) (.agg #[.string y0,.int .u64 y1,.int .u64 y2,.int .u64 y3,.int .u64 y4,.int .u64 y5,.int .u64 y6,.int .u64 y7,.int .u64 y8])).run Tryz.prog w=.ok (decide (x0=y0∧x1=y1∧x2=y2∧x3=y3∧x4=y4∧x5=y5∧x6=y6∧x7=y7∧x8=y8)) w:=by
 have hf:(Tryz.prog.fieldsOf 188).toList.map (fun f=>(f.type,f.offset))=[(9,0),(54,1),(54,5)]:=by kernel_rfl
 have hq:(Op.eqFields (d+2) #[.string x0,.int .u64 x1,.int .u64 x2,.int .u64 x3,.int .u64 x4,.int .u64 x5,.int .u64 x6,.int .u64 x7,.int .u64 x8] #[.string y0,.int .u64 y1,.int .u64 y2,.int .u64 y3,.int .u64 y4,.int .u64 y5,.int .u64 y6,.int .u64 y7,.int .u64 y8] (Tryz.prog.fieldsOf 188).toList).run Tryz.prog w=.ok ([decide (x0=y0),decide (x1=y1∧x2=y2∧x3=y3∧x4=y4),decide (x5=y5∧x6=y6∧x7=y7∧x8=y8)].all id) w:=by
  refine dD _ _ (by kernel_rfl) (by kernel_rfl) fun i f r hi hr=>?_
  have hm:=congrArg (fun z:List (Nat×Nat)=>z[i]?) hf;simp only[atF,hi,Option.map_some] at hm;have hlt:i<3:=(atA.1 hr).1
  match i,hlt with
  | 0,_=>
   obtain⟨h1,h2⟩:=atK (atD hm);obtain rfl:=atD hr;rw[h1,h2];exact⟨.string x0,.string y0,by kernel_rfl,by kernel_rfl,Il (d+1) x0 y0 w⟩
  | 1,_=>
   obtain⟨h1,h2⟩:=atK (atD hm);obtain rfl:=atD hr;rw[h1,h2];exact⟨.agg #[.int .u64 x1,.int .u64 x2,.int .u64 x3,.int .u64 x4],.agg #[.int .u64 y1,.int .u64 y2,.int .u64 y3,.int .u64 y4],by kernel_rfl,by kernel_rfl,lu d x1 x2 x3 x4 y1 y2 y3 y4 w⟩
  | 2,_=>
   obtain⟨h1,h2⟩:=atK (atD hm);obtain rfl:=atD hr;rw[h1,h2];exact⟨.agg #[.int .u64 x5,.int .u64 x6,.int .u64 x7,.int .u64 x8],.agg #[.int .u64 y5,.int .u64 y6,.int .u64 y7,.int .u64 y8],by kernel_rfl,by kernel_rfl,lu d x5 x6 x7 x8 y5 y6 y7 y8 w⟩
 rw[show d+3=(d+2)+1 from rfl,run_equalIn_agg w (d+2) 188 _ _ (by kernel_rfl) (by kernel_rfl),hq];congr 1;rw[atL];simp[and_assoc]
theorem aac(d:Nat)(x1 x2 x3 x4 x5 x6 x7 x8 x9 x10 y1 y2 y3 y4 y5 y6 y7 y8 y9 uK:Int)(x0 y0:ByteArray)(w:World):(Op.equalIn (d+4) 192 (.agg #[.string x0,.int .u64 x1,.int .u64 x2,.int .u64 x3,.int .u64 x4,.int .i64 x5,.int .u64 x6,.int .i64 x7,.int .u64 x8,.int .i64 x9,.int .u64 x10]) (.agg #[.string y0,.int .u64 y1,.int .u64 y2,.int .u64 y3,.int .u64 y4,.int .i64 y5,.int .u64 y6,.int .i64 y7,.int .u64 y8,.int .i64 y9,.int .u64 uK])).run Tryz.prog w=.ok (decide (x0=y0∧x1=y1∧x2=y2∧x3=y3∧x4=y4∧x5=y5∧x6=y6∧x7=y7∧x8=y8∧x9=y9∧x10=uK)) w:=by
 have hf:(Tryz.prog.fieldsOf 192).toList.map (fun f=>(f.type,f.offset))=[(9,0),(54,1),(70,5),(72,7)]:=by kernel_rfl
 have hq:(Op.eqFields (d+3) #[.string x0,.int .u64 x1,.int .u64 x2,.int .u64 x3,.int .u64 x4,.int .i64 x5,.int .u64 x6,.int .i64 x7,.int .u64 x8,.int .i64 x9,.int .u64 x10] #[.string y0,.int .u64 y1,.int .u64 y2,.int .u64 y3,.int .u64 y4,.int .i64 y5,.int .u64 y6,.int .i64 y7,.int .u64 y8,.int .i64 y9,.int .u64 uK] (Tryz.prog.fieldsOf 192).toList).run Tryz.prog w=.ok ([decide (x0=y0),decide (x1=y1∧x2=y2∧x3=y3∧x4=y4),decide (x5=y5∧x6=y6),decide (x7=y7∧x8=y8∧x9=y9∧x10=uK)].all id) w:=by
  refine dD _ _ (by kernel_rfl) (by kernel_rfl) fun i f r hi hr=>?_
  have hm:=congrArg (fun z:List (Nat×Nat)=>z[i]?) hf;simp only[atF,hi,Option.map_some] at hm;have hlt:i<4:=(atA.1 hr).1
  match i,hlt with
  | 0,_=>
   obtain⟨h1,h2⟩:=atK (atD hm);obtain rfl:=atD hr;rw[h1,h2];exact⟨.string x0,.string y0,by kernel_rfl,by kernel_rfl,Il (d+2) x0 y0 w⟩
  | 1,_=>
   obtain⟨h1,h2⟩:=atK (atD hm);obtain rfl:=atD hr;rw[h1,h2];exact⟨.agg #[.int .u64 x1,.int .u64 x2,.int .u64 x3,.int .u64 x4],.agg #[.int .u64 y1,.int .u64 y2,.int .u64 y3,.int .u64 y4],by kernel_rfl,by kernel_rfl,lu (d+1) x1 x2 x3 x4 y1 y2 y3 y4 w⟩
  | 2,_=>
   obtain⟨h1,h2⟩:=atK (atD hm);obtain rfl:=atD hr;rw[h1,h2];exact⟨.agg #[.int .i64 x5,.int .u64 x6],.agg #[.int .i64 y5,.int .u64 y6],by kernel_rfl,by kernel_rfl,Ts (d+1) x5 x6 y5 y6 w⟩
  | 3,_=>
   obtain⟨h1,h2⟩:=atK (atD hm);obtain rfl:=atD hr;rw[h1,h2];exact⟨.agg #[.int .i64 x7,.int .u64 x8,.int .i64 x9,.int .u64 x10],.agg #[.int .i64 y7,.int .u64 y8,.int .i64 y9,.int .u64 uK],by kernel_rfl,by kernel_rfl,Tq d x7 x8 x9 x10 y7 y8 y9 uK w⟩
 rw[show d+4=(d+3)+1 from rfl,run_equalIn_agg w (d+3) 192 _ _ (by kernel_rfl) (by kernel_rfl),hq];congr 1;rw[atL];simp[and_assoc]
theorem Z_(d:Nat)(x1 y1:Bool)(x0 y0:ByteArray)(w:World):(Op.equalIn (d+2) 197 (.agg #[.string x0,.bool x1]) (.agg #[.string y0,.bool y1])).run Tryz.prog w=.ok (decide (x0=y0∧x1=y1)) w:=by
 have hf:(Tryz.prog.fieldsOf 197).toList.map (fun f=>(f.type,f.offset))=[(9,0),(4,1)]:=by kernel_rfl
 have hq:(Op.eqFields (d+1) #[.string x0,.bool x1] #[.string y0,.bool y1] (Tryz.prog.fieldsOf 197).toList).run Tryz.prog w=.ok ([decide (x0=y0),decide (x1=y1)].all id) w:=by
  refine dD _ _ (by kernel_rfl) (by kernel_rfl) fun i f r hi hr=>?_
  have hm:=congrArg (fun z:List (Nat×Nat)=>z[i]?) hf;simp only[atF,hi,Option.map_some] at hm;have hlt:i<2:=(atA.1 hr).1
  match i,hlt with
  | 0,_=>
   obtain⟨h1,h2⟩:=atK (atD hm);obtain rfl:=atD hr;rw[h1,h2];exact⟨.string x0,.string y0,by kernel_rfl,by kernel_rfl,Il d x0 y0 w⟩
  | 1,_=>
   obtain⟨h1,h2⟩:=atK (atD hm);obtain rfl:=atD hr;rw[h1,h2];exact⟨.bool x1,.bool y1,by kernel_rfl,by kernel_rfl,ad8 d x1 y1 w⟩
 rw[show d+2=(d+1)+1 from rfl,run_equalIn_agg w (d+1) 197 _ _ (by kernel_rfl) (by kernel_rfl),hq];congr 1;rw[atL];simp
theorem Z9(d:Nat)(x0 x1 x2 x3 x4 x5 x6 x7 x8 x9 y0 y1 y2 y3 y4 y5 y6 y7 y8 y9:Int)(w:World):(Op.equalIn (d+3) 203 (.agg #[.int .u64 x0,.int .u64 x1,.int .u64 x2,.int .u64 x3,.int .u64 x4,.int .u64 x5,.int .u64 x6,.int .u64 x7,.int .i64 x8,.int .i64 x9]) (.agg #[.int .u64 y0,.int .u64 y1,.int .u64 y2,.int .u64 y3,.int .u64 y4,.int .u64 y5,.int .u64 y6,.int .u64 y7,.int .i64 y8,.int .i64 y9])).run Tryz.prog w=.ok (decide (x0=y0∧x1=y1∧x2=y2∧x3=y3∧x4=y4∧x5=y5∧x6=y6∧x7=y7∧x8=y8∧x9=y9)) w:=by
 have hf:(Tryz.prog.fieldsOf 203).toList.map (fun f=>(f.type,f.offset))=[(54,0),(54,4),(3,8),(3,9)]:=by kernel_rfl
 have hq:(Op.eqFields (d+2) #[.int .u64 x0,.int .u64 x1,.int .u64 x2,.int .u64 x3,.int .u64 x4,.int .u64 x5,.int .u64 x6,.int .u64 x7,.int .i64 x8,.int .i64 x9] #[.int .u64 y0,.int .u64 y1,.int .u64 y2,.int .u64 y3,.int .u64 y4,.int .u64 y5,.int .u64 y6,.int .u64 y7,.int .i64 y8,.int .i64 y9] (Tryz.prog.fieldsOf 203).toList).run Tryz.prog w=.ok ([decide (x0=y0∧x1=y1∧x2=y2∧x3=y3),decide (x4=y4∧x5=y5∧x6=y6∧x7=y7),decide (x8=y8),decide (x9=y9)].all id) w:=by
  refine dD _ _ (by kernel_rfl) (by kernel_rfl) fun i f r hi hr=>?_
  have hm:=congrArg (fun z:List (Nat×Nat)=>z[i]?) hf;simp only[atF,hi,Option.map_some] at hm;have hlt:i<4:=(atA.1 hr).1
  match i,hlt with
  | 0,_=>
   obtain⟨h1,h2⟩:=atK (atD hm);obtain rfl:=atD hr;rw[h1,h2];exact⟨.agg #[.int .u64 x0,.int .u64 x1,.int .u64 x2,.int .u64 x3],.agg #[.int .u64 y0,.int .u64 y1,.int .u64 y2,.int .u64 y3],by kernel_rfl,by kernel_rfl,lu d x0 x1 x2 x3 y0 y1 y2 y3 w⟩
  | 1,_=>
   obtain⟨h1,h2⟩:=atK (atD hm);obtain rfl:=atD hr;rw[h1,h2];exact⟨.agg #[.int .u64 x4,.int .u64 x5,.int .u64 x6,.int .u64 x7],.agg #[.int .u64 y4,.int .u64 y5,.int .u64 y6,.int .u64 y7],by kernel_rfl,by kernel_rfl,lu d x4 x5 x6 x7 y4 y5 y6 y7 w⟩
  | 2,_=>
   obtain⟨h1,h2⟩:=atK (atD hm);obtain rfl:=atD hr;rw[h1,h2];exact⟨.int .i64 x8,.int .i64 y8,by kernel_rfl,by kernel_rfl,qL (d+1) x8 y8 w⟩
  | 3,_=>
   obtain⟨h1,h2⟩:=atK (atD hm);obtain rfl:=atD hr;rw[h1,h2];exact⟨.int .i64 x9,.int .i64 y9,by kernel_rfl,by kernel_rfl,qL (d+1) x9 y9 w⟩
 rw[show d+3=(d+2)+1 from rfl,run_equalIn_agg w (d+2) 203 _ _ (by kernel_rfl) (by kernel_rfl),hq];congr 1;rw[atL];simp[and_assoc]
theorem Z8(d:Nat)(x0 x1 x2 x3 x4 x5 x6 x7 x8 x9 x10 oF oD y0 y1 y2 y3 y4 y5 y6 y7 y8 y9 uK Bt Bs:Int)(w:World):(Op.equalIn (d+4) 205 (.agg #[.int .u64 x0,.int .u64 x1,.int .u64 x2,.int .u64 x3,.int .u64 x4,.int .u64 x5,.int .u64 x6,.int .u64 x7,.int .i64 x8,.int .i64 x9,.int .u64 x10,.int .i64 oF,.int .u64 oD]) (.agg #[.int .u64 y0,.int .u64 y1,.int .u64 y2,.int .u64 y3,.int .u64 y4,.int .u64 y5,.int .u64 y6,.int .u64 y7,.int .i64 y8,.int .i64 y9,.int .u64 uK,.int .i64 Bt,.int .u64 Bs])).run Tryz.prog w=.ok (decide (x0=y0∧x1=y1∧x2=y2∧x3=y3∧x4=y4∧x5=y5∧x6=y6∧x7=y7∧x8=y8∧x9=y9∧x10=uK∧oF=Bt∧oD=Bs)) w:=by
 have hf:(Tryz.prog.fieldsOf 205).toList.map (fun f=>(f.type,f.offset))=[(54,0),(54,4),(3,8),(72,9)]:=by kernel_rfl
 have hq:(Op.eqFields (d+3) #[.int .u64 x0,.int .u64 x1,.int .u64 x2,.int .u64 x3,.int .u64 x4,.int .u64 x5,.int .u64 x6,.int .u64 x7,.int .i64 x8,.int .i64 x9,.int .u64 x10,.int .i64 oF,.int .u64 oD] #[.int .u64 y0,.int .u64 y1,.int .u64 y2,.int .u64 y3,.int .u64 y4,.int .u64 y5,.int .u64 y6,.int .u64 y7,.int .i64 y8,.int .i64 y9,.int .u64 uK,.int .i64 Bt,.int .u64 Bs] (Tryz.prog.fieldsOf 205).toList).run Tryz.prog w=.ok ([decide (x0=y0∧x1=y1∧x2=y2∧x3=y3),decide (x4=y4∧x5=y5∧x6=y6∧x7=y7),decide (x8=y8),decide (x9=y9∧x10=uK∧oF=Bt∧oD=Bs)].all id) w:=by
  refine dD _ _ (by kernel_rfl) (by kernel_rfl) fun i f r hi hr=>?_
  have hm:=congrArg (fun z:List (Nat×Nat)=>z[i]?) hf;simp only[atF,hi,Option.map_some] at hm;have hlt:i<4:=(atA.1 hr).1
  match i,hlt with
  | 0,_=>
   obtain⟨h1,h2⟩:=atK (atD hm);obtain rfl:=atD hr;rw[h1,h2];exact⟨.agg #[.int .u64 x0,.int .u64 x1,.int .u64 x2,.int .u64 x3],.agg #[.int .u64 y0,.int .u64 y1,.int .u64 y2,.int .u64 y3],by kernel_rfl,by kernel_rfl,lu (d+1) x0 x1 x2 x3 y0 y1 y2 y3 w⟩
  | 1,_=>
   obtain⟨h1,h2⟩:=atK (atD hm);obtain rfl:=atD hr;rw[h1,h2];exact⟨.agg #[.int .u64 x4,.int .u64 x5,.int .u64 x6,.int .u64 x7],.agg #[.int .u64 y4,.int .u64 y5,.int .u64 y6,.int .u64 y7],by kernel_rfl,by kernel_rfl,lu (d+1) x4 x5 x6 x7 y4 y5 y6 y7 w⟩
  | 2,_=>
   obtain⟨h1,h2⟩:=atK (atD hm);obtain rfl:=atD hr;rw[h1,h2];exact⟨.int .i64 x8,.int .i64 y8,by kernel_rfl,by kernel_rfl,qL (d+2) x8 y8 w⟩
  | 3,_=>
   obtain⟨h1,h2⟩:=atK (atD hm);obtain rfl:=atD hr;rw[h1,h2];exact⟨.agg #[.int .i64 x9,.int .u64 x10,.int .i64 oF,.int .u64 oD],.agg #[.int .i64 y9,.int .u64 uK,.int .i64 Bt,.int .u64 Bs],by kernel_rfl,by kernel_rfl,Tq d x9 x10 oF oD y9 uK Bt Bs w⟩
 rw[show d+4=(d+3)+1 from rfl,run_equalIn_agg w (d+3) 205 _ _ (by kernel_rfl) (by kernel_rfl),hq];congr 1;rw[atL];simp[and_assoc]
end Go.Proofs.YtdcofoaihmongaaGreat
namespace Go.Proofs.YtdcofoaihmongaaGreat
open Go Go.RowKit
def qD(e:aA):Bool:=
 if e.op=2∨e.op=3∨e.op=4 then (((((decide ((e.kids.length:Int)=qW e.op)&&decide (e.a=0))&&decide (e.rel=0))&&decide (e.b=0))&&decide ((e.names.length:Int)=0))&&decide (e.set=au.zero))
 else if e.op=8 then ((decide ((e.kids.length:Int)=0)&&decide ((e.names.length:Int)=0))&&decide (e.set=au.zero))
 else if e.op=9 then (((decide ((e.kids.length:Int)=0)&&decide (e.rel=0))&&decide (e.b=0))&&decide ((e.names.length:Int)=0))
 else false
theorem Ln(w0:World)(cs:List Value)(e:aA)(h:bB w0 cs e):Calls Tryz.prog 245 #[.agg cs.toArray] w0 (fun(r:Ending) (w':World)=>r=.returned (.bool (qD e))∧atv w0.heap.size w0 w'):=by
 obtain⟨nv,kv,rfl,Nb,hk⟩:=h.open;obtain⟨_,_,rfl,-⟩:=bp.get Nb;obtain⟨_,_,rfl,-,yT,-⟩:=aC.form hk (by decide);refine fL [] (fn:=Tryz.f245) Tryz.func245 rfl Tryz.ntmps245 rfl<|fun g1 w1 M1=>lb 0<|an rfl<|an (fun h=>an (fun _=>?_) fun h'=>by rw[h] at h';cases h') fun h1=>an (fun h=>an (fun _=>?_) fun h'=>by rw[h] at h';cases h') fun h2=>an (fun h=>?_) fun h3=>an (fun h4=>lb 0<|an rfl<|lb 0<|an (fun _=>rfl)<|lb 0<|an (fun _=>rfl)<|ei (x:=.agg #[.int .u64 0,.int .u64 0,.int .u64 0,.int .u64 0])<|an (fun _=>bd (by kernel_rfl))<|ei<|an (fun _=>⟨AJ,fun w=>kJ e.set w⟩)<|fun M=>⟨rb ?_,M.below⟩) fun h4=>an (fun h5=>lb 0<|an rfl<|lb 0<|an (fun _=>rfl)<|lb 0<|an (fun _=>rfl)<|lb 0<|an (fun _=>rfl)<|fun M=>⟨rb ?_,M.below⟩) fun h5 M=>⟨rb ?_,M.below⟩
 rotate_left 3
 ·simp only[decide_eq_true_eq,decide_eq_false_iff_not] at h1 h2 h3 h4;unfold qD;rw[if_neg (by omega),if_pos h4]
 ·simp only[decide_eq_true_eq,decide_eq_false_iff_not] at h1 h2 h3 h4 h5;unfold qD;rw[if_neg (by omega),if_neg h4,if_pos h5]
 ·simp only[decide_eq_false_iff_not] at h1 h2 h3 h4 h5;unfold qD;rw[if_neg (by omega),if_neg h4,if_neg h5]
 all_goals
  refine dr (by kernel_rfl)<|lb 0<|an rfl<|lb 0<|an rfl<|cl<|an (fun w' hb M=>(G_ _ _).mono fun _ _ ⟨h1,h2⟩=>⟨h1,h2▸Below.refl _ _⟩)<|lb 0<|an (fun _=>rfl)<|lb 0<|an (fun _=>rfl)<|lb 0<|an (fun _=>rfl)<|lb 0<|an (fun _=>rfl)<|lb 0<|an (fun _=>rfl)<|ei (x:=.agg #[.int .u64 0,.int .u64 0,.int .u64 0,.int .u64 0])<|an (fun _=>bd (by kernel_rfl))<|ei<|an (fun _=>⟨AJ,fun w=>kJ e.set w⟩)<|fun w2 hb2 M2 M=>⟨rb ?_,M.below⟩
  simp only[decide_eq_true_eq] at h;unfold qD;rw[if_pos (by omega)]
def kr(nU nR nT k:Nat):Int:=if k%5=0 then (nU:Int) else if k%5=1 then (nR:Int) else if k%5=2 then (nT:Int) else -1
theorem Ku(w:World)(c0 c1 c2 c3 c4 c5 c6 c7 c8 c9 aW aP aO aU aT aS aR:Value)(p:aG)(hp:aL w c0 c1 c2 c3 c4 c5 c6 c7 c8 c9 aW aP aO aU aT aS aR p)(k:Nat)(hk:k<1000):Calls Tryz.prog 247 #[.agg #[c0,c1,c2,c3,c4,c5,c6,c7,c8,c9,aW,aP,aO,aU,aT,aS,aR],.int .i64 (k:Int)] w fun e w'=>e=.returned (.int .i64 (kr p.users.length p.roles.length p.types.length k))∧atv w.heap.size w w':=by
 obtain⟨a1,k1,rfl,hk1,hm1⟩:=aL.f1 hp;obtain⟨n1,hn1⟩:∃ n,n=p.types.length:=⟨_,rfl⟩;have N1:=atN hn1;rw[← hn1] at hk1 hm1 ⊢;clear hn1;obtain⟨a3,k3,rfl,XG,hm3⟩:=aL.f3 hp;obtain⟨n3,hn3⟩:∃ n,n=p.roles.length:=⟨_,rfl⟩;have N3:=atN hn3;rw[← hn3] at XG hm3 ⊢;clear hn3;obtain⟨a4,k4,rfl,hk4,hm4⟩:=aL.f4 hp;obtain⟨n4,hn4⟩:∃ n,n=p.users.length:=⟨_,rfl⟩;have N4:=atN hn4;rw[← hn4] at hk4 hm4 ⊢;clear hn4;clear hp;unfold kr;obtain⟨wo,bS⟩:∃ wo,wo=(w).alloc (.cells #[c0,.slice a1 n1 k1,c2,.slice a3 n3 k3,.slice a4 n4 k4,c5,c6,c7,c8,c9,aW,aP,aO,aU,aT,aS,aR] 39):=⟨_,rfl⟩;have W0:=atN (show Whole wo w.heap.size 39 #[c0,.slice a1 n1 k1,c2,.slice a3 n3 k3,.slice a4 n4 k4,c5,c6,c7,c8,c9,aW,aP,aO,aU,aT,aS,aR] by rw[bS];exact(Whole.new w 39 _));have ef:=atN (show atv w.heap.size w wo by rw[bS];exact((Below.refl _ w).alloc (Nat.le_refl _) _));have kp1:wo.cell? ⟨w.heap.size,1,none⟩=some (.slice a1 n1 k1):=W0.out.cell 1;have kp3:wo.cell? ⟨w.heap.size,3,none⟩=some (.slice a3 n3 k3):=W0.out.cell 3;have kp4:wo.cell? ⟨w.heap.size,4,none⟩=some (.slice a4 n4 k4):=W0.out.cell 4;by_cases h0:k%5=0
 ·rw[if_pos h0]
  go_enter Tryz.func247,Tryz.ntmps247
  go_upto_region 1 with(fail)
  rw[← bS];clear bS
  go_wp2_with fail
  go_ret
  exact⟨rfl,ef.out⟩
 ·rw[if_neg h0];by_cases h1:k%5=1
  ·rw[if_pos h1]
   go_enter Tryz.func247,Tryz.ntmps247
   go_upto_region 1 with(fail)
   rw[← bS];clear bS
   go_wp2_with fail
   go_ret
   exact⟨rfl,ef.out⟩
  ·rw[if_neg h1];by_cases h2:k%5=2
   ·rw[if_pos h2]
    go_enter Tryz.func247,Tryz.ntmps247
    go_upto_region 1 with(fail)
    rw[← bS];clear bS
    go_wp2_with fail
    go_ret
    exact⟨rfl,ef.out⟩
   ·rw[if_neg h2];have g0:¬ ((k%5:Nat):Int)=0:=by omega
    have g1:¬ ((k%5:Nat):Int)=1:=by omega
    have g2:¬ ((k%5:Nat):Int)=2:=by omega
    go_enter Tryz.func247,Tryz.ntmps247
    go_upto_region 1 with(fail)
    rw[← bS];clear bS
    go_wp2_with fail
    go_ret
    exact⟨rfl,ef.out⟩
def AU(er:Int)(ka kb:Nat):Int:=if 3≤ka%5∧3≤kb%5 then 0 else if ¬ ka%5=kb%5 then 13 else if (1:Int)<er then 13 else 0
def ug(n:Nat)(e:aA):Int:=if bn e.a (n:Int)=false then 3 else if bn e.b (n:Int)=false then 3 else if bn e.rel 5=false then 3 else AU e.rel e.a.toNat e.b.toNat
theorem DP(w:World)(cs:List Value)(e:aA)(h:bB w cs e)(n:Nat):Calls Tryz.prog 246 #[.agg cs.toArray,.int .i64 (n:Int)] w fun r w'=>r=.returned (.int .i64 (ug n e))∧atv w.heap.size w w':=by
 obtain⟨nv,kv,rfl,-,-⟩:=h.open;obtain⟨z,hz⟩:∃ z,z=ug n e:=⟨_,rfl⟩;rw[← hz];unfold ug at hz;obtain⟨o,ea,er,eb,nm,s,kd⟩:=e
 change z=if bn ea (n:Int)=false then 3 else if bn eb (n:Int)=false then 3 else if bn er 5=false then 3 else AU er ea.toNat eb.toNat at hz
 show Calls Tryz.prog 246 #[.agg #[.int .i64 o,.int .i64 ea,.int .i64 er,.int .i64 eb,nv,.int .u64 s.a,.int .u64 s.b,.int .u64 s.c,.int .u64 s.d,kv],.int .i64 (n:Int)] w _;clear h;obtain⟨wo,bS⟩:∃ wo,wo=(w).alloc (.cells #[.int .i64 o,.int .i64 ea,.int .i64 er,.int .i64 eb,nv,.int .u64 s.a,.int .u64 s.b,.int .u64 s.c,.int .u64 s.d,kv] 89):=⟨_,rfl⟩;have W0:=atN (show Whole wo w.heap.size 89 #[.int .i64 o,.int .i64 ea,.int .i64 er,.int .i64 eb,nv,.int .u64 s.a,.int .u64 s.b,.int .u64 s.c,.int .u64 s.d,kv] by rw[bS];exact(Whole.new w 89 _));have ef:=atN (show atv w.heap.size w wo by rw[bS];exact((Below.refl _ w).alloc (Nat.le_refl _) _));have kx1:wo.cell? ⟨w.heap.size,1,none⟩=some (.int .i64 ea):=W0.out.cell 1;have kx2:wo.cell? ⟨w.heap.size,2,none⟩=some (.int .i64 er):=W0.out.cell 2;have kx3:wo.cell? ⟨w.heap.size,3,none⟩=some (.int .i64 eb):=W0.out.cell 3
 cases ha:bn ea (n:Int) with
 | false=>
  have HV:=atN (show z=3 by rw[hz,ha];rfl);have HA:=atN ha;clear hz ha
  go_enter Tryz.func246,Tryz.ntmps246
  go_upto_region 1 with(fail)
  rw[← bS];clear bS
  go_wp2_with (have hZ:=HA;clear hZ;go_at_call 113;go_must (refine(show Calls Tryz.prog 113 _ _ (fun e w'=>e=.returned (.bool false)∧wo=w') from by have h:=cC wo ea (n:Int);rw[HA.out] at h;exact h).mono ?_;rintro e w' ⟨rfl,rfl⟩;clear HA))
  go_ret
  exact⟨bE HV.out.symm,ef.out⟩
 | true=>
  rw[ha,if_neg (by decide)] at hz;have hra:0≤ea∧ea<(n:Int):=by unfold bn at ha;simpa using ha
  have HA:=atN ha;clear ha
  cases hb:bn eb (n:Int) with
  | false=>
   have HV:=atN (show z=3 by rw[hz,hb];rfl);have FM:=atN hb;clear hz hb
   go_enter Tryz.func246,Tryz.ntmps246
   go_upto_region 1 with(fail)
   rw[← bS];clear bS
   go_wp2_with (first|(have hZ:=HA;clear hZ;go_at_call 113;go_must (refine(show Calls Tryz.prog 113 _ _ (fun e w'=>e=.returned (.bool true)∧wo=w') from by have h:=cC wo ea (n:Int);rw[HA.out] at h;exact h).mono ?_;rintro e w' ⟨rfl,rfl⟩;clear HA))|(have hZ:=FM;clear hZ;go_at_call 113;go_must (refine(show Calls Tryz.prog 113 _ _ (fun e w'=>e=.returned (.bool false)∧wo=w') from by have h:=cC wo eb (n:Int);rw[FM.out] at h;exact h).mono ?_;rintro e w' ⟨rfl,rfl⟩;clear FM)))
   go_ret
   exact⟨bE HV.out.symm,ef.out⟩
  | true=>
   rw[hb,if_neg (by decide)] at hz;have hrb:0≤eb∧eb<(n:Int):=by unfold bn at hb;simpa using hb
   have FM:=atN hb;clear hb
   cases hr:bn er 5 with
   | false=>
    have HV:=atN (show z=3 by rw[hz,hr];rfl);have HR:=atN hr;clear hz hr
    go_enter Tryz.func246,Tryz.ntmps246
    go_upto_region 1 with(fail)
    rw[← bS];clear bS
    go_wp2_with (first|(have hZ:=HA;clear hZ;go_at_call 113;go_must (refine(show Calls Tryz.prog 113 _ _ (fun e w'=>e=.returned (.bool true)∧wo=w') from by have h:=cC wo ea (n:Int);rw[HA.out] at h;exact h).mono ?_;rintro e w' ⟨rfl,rfl⟩;clear HA))|(have hZ:=FM;clear hZ;go_at_call 113;go_must (refine(show Calls Tryz.prog 113 _ _ (fun e w'=>e=.returned (.bool true)∧wo=w') from by have h:=cC wo eb (n:Int);rw[FM.out] at h;exact h).mono ?_;rintro e w' ⟨rfl,rfl⟩;clear FM))|(have hZ:=HR;clear hZ;go_at_call 113;go_must (refine(show Calls Tryz.prog 113 _ _ (fun e w'=>e=.returned (.bool false)∧wo=w') from by have h:=cC wo er 5;rw[HR.out] at h;exact h).mono ?_;rintro e w' ⟨rfl,rfl⟩;clear HR)))
    go_ret
    exact⟨bE HV.out.symm,ef.out⟩
   | true=>
    rw[hr,if_neg (by decide)] at hz;have HR:=atN hr;clear hr;obtain⟨ka,rfl⟩:∃ k:Nat,ea=k:=⟨ea.toNat,by omega⟩;obtain⟨kb,rfl⟩:∃ k:Nat,eb=k:=⟨eb.toNat,by omega⟩;rw[Int.toNat_natCast,Int.toNat_natCast] at hz;unfold AU at hz;have HZ:=atN hz;clear hz
    go_enter Tryz.func246,Tryz.ntmps246
    go_upto_region 1 with(fail)
    rw[← bS];clear bS
    go_upto_region 3 with(first|(have hZ:=HA;clear hZ;go_at_call 113;go_must (refine(show Calls Tryz.prog 113 _ _ (fun e w'=>e=.returned (.bool true)∧wo=w') from by have h:=cC wo (ka:Int) (n:Int);rw[HA.out] at h;exact h).mono ?_;rintro e w' ⟨rfl,rfl⟩;clear HA))|(have hZ:=FM;clear hZ;go_at_call 113;go_must (refine(show Calls Tryz.prog 113 _ _ (fun e w'=>e=.returned (.bool true)∧wo=w') from by have h:=cC wo (kb:Int) (n:Int);rw[FM.out] at h;exact h).mono ?_;rintro e w' ⟨rfl,rfl⟩;clear FM))|(have hZ:=HR;clear hZ;go_at_call 113;go_must (refine(show Calls Tryz.prog 113 _ _ (fun e w'=>e=.returned (.bool true)∧wo=w') from by have h:=cC wo er 5;rw[HR.out] at h;exact h).mono ?_;rintro e w' ⟨rfl,rfl⟩;clear HR)))
    clear kx1 kx2 kx3;refine jX [some 25,some 26,some 27,some 28,some 29,some 30,some 5] [yR (.pointer (some ⟨w.heap.size,1,none⟩)),yR (.int .i64 (ka:Int)),yR (.int .i64 ((ka%5:Nat):Int)),yR (.pointer (some ⟨w.heap.size,3,none⟩)),yR (.int .i64 (kb:Int)),yR (.int .i64 ((kb%5:Nat):Int)),yR (.int .i64 ((ka%5:Nat):Int))] (fun _ w'=>atv wo.heap.size wo w') [] (by kernel_rfl) (by kernel_rfl) (by kernel_rfl) rfl (by decide) rfl rfl ((Below.refl _ _).drew) ⟨bI _,bI _,bI _,bI _,bI _,bI _,bI _,trivial⟩ ⟨?_,?_,?_,?_,?_,?_,?_,?_⟩
    ·intro L a wy Q' hL hi H F hK
     try dsimp only at hi
     have h2:a.tmps[2]?=some (.pointer (some ⟨w.heap.size,0,none⟩)):=F 2 rfl;have HI:=atN hi;clear H F hi hL
     go_wp2_with fail
     exact hK _ _ (Below.refl _ _) HI.out rfl
    ·intro L a wy Q' hL hi H F hK
     try dsimp only at hi
     obtain⟨_,h25,rfl⟩:=H 0 ⟨.data,by simp,rfl⟩ _ rfl;replace h25:=h25 _ rfl;have HI:=atN hi;clear H F hi hL;have kq0:wy.cell? ⟨w.heap.size,1,none⟩=some (.int .i64 (ka:Int)):=(Whole.under HI.out W0.out (Whole.lt W0.out)).cell 1
     go_wp2_with fail
     exact hK _ _ (Below.refl _ _) HI.out rfl
    ·intro L a wy Q' hL hi H F hK
     try dsimp only at hi
     obtain⟨_,h26,rfl⟩:=H 1 ⟨.data,by simp,rfl⟩ _ rfl;replace h26:=h26 _ rfl;have HI:=atN hi;clear H F hi hL
     go_wp2_with fail
     exact hK _ _ (Below.refl _ _) HI.out rfl
    ·intro L a wy Q' hL hi H F hK
     try dsimp only at hi
     have h2:a.tmps[2]?=some (.pointer (some ⟨w.heap.size,0,none⟩)):=F 2 rfl;have HI:=atN hi;clear H F hi hL
     go_wp2_with fail
     exact hK _ _ (Below.refl _ _) HI.out rfl
    ·intro L a wy Q' hL hi H F hK
     try dsimp only at hi
     obtain⟨_,h28,rfl⟩:=H 3 ⟨.data,by simp,rfl⟩ _ rfl;replace h28:=h28 _ rfl;have HI:=atN hi;clear H F hi hL;have kq0:wy.cell? ⟨w.heap.size,3,none⟩=some (.int .i64 (kb:Int)):=(Whole.under HI.out W0.out (Whole.lt W0.out)).cell 3
     go_wp2_with fail
     exact hK _ _ (Below.refl _ _) HI.out rfl
    ·intro L a wy Q' hL hi H F hK
     try dsimp only at hi
     obtain⟨_,h29,rfl⟩:=H 4 ⟨.data,by simp,rfl⟩ _ rfl;replace h29:=h29 _ rfl;have HI:=atN hi;clear H F hi hL
     go_wp2_with fail
     exact hK _ _ (Below.refl _ _) HI.out rfl
    ·intro L a wy Q' hL hi H F hK
     try dsimp only at hi
     obtain⟨_,h27,rfl⟩:=H 2 ⟨.data,by simp,rfl⟩ _ rfl;replace h27:=h27 _ rfl;have HI:=atN hi;clear H F hi hL
     go_wp2_with fail
     exact hK _ _ (Below.refl _ _) HI.out rfl
    ·intro a wy L hl hi hL Q' hK
     try dsimp only at hi
     have HB:=atN hi;clear hi hL;obtain⟨_,rfl,_,rfl,_,rfl,_,rfl,_,rfl,_,rfl,_,rfl,rfl⟩:=hl;simp only[List.setIfInBounds_toArray,List.set_cons_zero,List.set_cons_succ];have W1:=atN (Whole.under HB.out W0.out W0.out.lt);have m2:wy.cell? ⟨w.heap.size,2,none⟩=some (.int .i64 er):=W1.out.cell 2;by_cases g1:3≤ka%5
     ·have d1:decide ((3:Int)≤((ka%5:Nat):Int))=true:=by simp;omega
      have d1n:decide (3≤ka%5)=true:=by simp;omega
      by_cases g2:3≤kb%5
      ·have HV:=atN (show z=0 by rw[HZ.out,if_pos ⟨g1,g2⟩])
       go_wp2_with fail
       go_ret
       exact⟨bE HV.out.symm,ef.out.trans (HB.out.mono ef.out.size)⟩
      ·have hz2:=HZ.out.trans (if_neg fun h=>g2 h.2);have g3:¬ ka%5=kb%5:=by omega
       have HV:=atN (hz2.trans (if_pos g3));have d3:(((ka%5:Nat):Int) != ((kb%5:Nat):Int))=true:=by simp;omega
       clear hz2 HZ
       go_wp2_with fail
       go_ret
       exact⟨bE HV.out.symm,ef.out.trans (HB.out.mono ef.out.size)⟩
     ·have d1:decide ((3:Int)≤((ka%5:Nat):Int))=false:=by simp;omega
      have d1n:decide (3≤ka%5)=false:=by simp;omega
      have hz2:=HZ.out.trans (if_neg fun h=>g1 h.1);by_cases g3:ka%5=kb%5
      ·have HV2:=atN (hz2.trans (if_neg fun h=>h g3));have d3:(((ka%5:Nat):Int) != ((kb%5:Nat):Int))=false:=by simp[g3]
       by_cases g4:(1:Int)<er
       ·have HV:=atN (HV2.out.trans (if_pos g4));clear hz2 HV2 HZ
        go_wp2_with fail
        go_ret
        exact⟨bE HV.out.symm,ef.out.trans (HB.out.mono ef.out.size)⟩
       ·have HV:=atN (HV2.out.trans (if_neg g4));clear hz2 HV2 HZ
        go_wp2_with fail
        go_ret
        exact⟨bE HV.out.symm,ef.out.trans (HB.out.mono ef.out.size)⟩
      ·have HV:=atN (hz2.trans (if_pos g3));have d3:(((ka%5:Nat):Int) != ((kb%5:Nat):Int))=true:=by simp;omega
       clear hz2 HZ
       go_wp2_with fail
       go_ret
       exact⟨bE HV.out.symm,ef.out.trans (HB.out.mono ef.out.size)⟩
theorem aA.Ok.set'{e:aA}(h:e.Ok):e.set.Ok:=by cases h;assumption
theorem aA.Ok.acY{e:aA}(h:e.Ok):∀ k∈e.kids,k.Ok:=by cases h;assumption
def mZ(nU nR nT N:Nat)(e:aA):Option Int:=
 if qD e=false then some 2
 else if e.op=8 then some (ug N e)
 else if e.op=9 then
  (if bn e.a (N:Int)=false then some 3
   else if kr nU nR nT e.a.toNat<0 then some 13
   else if e.set.within (au.all (kr nU nR nT e.a.toNat).toNat)=false then some 3
   else if eA e.set=false then some 2 else none)
 else none
mutual
def m_(nU nR nT N:Nat):aA→Int
 | .node op a rel b names set kids=>match mZ nU nR nT N (.node op a rel b names set kids) with
  | some r=>r
  | none=>tT nU nR nT N kids
def tT(nU nR nT N:Nat):List aA→Int
 | []=>0
 | k::l=>if m_ nU nR nT N k=0 then tT nU nR nT N l else m_ nU nR nT N k
end
theorem Lp{nU nR nT N:Nat}{e:aA}{r:Int}(h:mZ nU nR nT N e=some r):m_ nU nR nT N e=r:=by
 cases e;rw[m_,h]
theorem Lq{nU nR nT N:Nat}{e:aA}(h:mZ nU nR nT N e=none):m_ nU nR nT N e=tT nU nR nT N e.kids:=by
 cases e;rw[m_,h];rfl
theorem AA{nU nR nT N:Nat}{l:List aA}{k:Nat}{y:aA}(h:l[k]?=some y):tT nU nR nT N (l.drop k)=if m_ nU nR nT N y=0 then tT nU nR nT N (l.drop (k+1)) else m_ nU nR nT N y:=by
 obtain⟨hk,rfl⟩:=atA.1 h;rw[List.drop_eq_getElem_cons hk,tT]
theorem OU{nU nR nT:Nat}(k:Nat){B:Nat}(h1:nU≤B)(h2:nR≤B)(h3:nT≤B):kr nU nR nT k≤(B:Int):=by
 unfold kr;split
 ·omega
 ·split
  ·omega
  ·split<;>omega
theorem pV(N:Nat)(hN:N≤100):∀ e:aA,e.Ok→∀ (w0:World) (cs:List Value) (c0 c1 c2 c3 c4 c5 c6 c7 c8 c9 aW aP aO aU aT aS aR:Value) (p:aG),aL w0 c0 c1 c2 c3 c4 c5 c6 c7 c8 c9 aW aP aO aU aT aS aR p→p.Ok→bB w0 cs e→Calls Tryz.prog 197 #[.agg #[c0,c1,c2,c3,c4,c5,c6,c7,c8,c9,aW,aP,aO,aU,aT,aS,aR],.agg cs.toArray,.int .i64 (N:Int)] w0 (RI w0 (m_ p.users.length p.roles.length p.types.length N e)):=by
 refine aA.ind fun e ih=>?_
 intro he w0 cs c0 c1 c2 c3 c4 c5 c6 c7 c8 c9 aW aP aO aU aT aS aR p hp hok h;have hU:=hok.Yt;have hR:=hok.RA;have hT:=hok.u_;obtain⟨_,_,_,_,_,_,_,_,_,_,_,_,_,_,_,_,_,_,_,_,_,_,_,_,_,_,_,_,_,_,_,_,_,_,rfl,rfl,rfl,rfl,rfl,rfl,rfl,rfl,rfl,rfl,rfl,rfl,rfl,rfl,rfl,rfl,rfl⟩:=hp.open;obtain⟨nv,kv,rfl,Nb,hk⟩:=h.open;obtain⟨_,_,rfl,-⟩:=bp.get Nb;obtain⟨_,_,rfl,-,yT,-⟩:=aC.form hk (by decide);have out:∀ r:Int,mZ p.users.length p.roles.length p.types.length N e=some r→m_ p.users.length p.roles.length p.types.length N e=r:=fun r h=>Lp h
 have hs:mZ p.users.length p.roles.length p.types.length N e=none→m_ p.users.length p.roles.length p.types.length N e=tT p.users.length p.roles.length p.types.length N e.kids:=Lq;unfold mZ at out hs;refine fL [] (fn:=Tryz.f197) Tryz.func197 rfl Tryz.ntmps197 rfl<|fun g1 w1 M1=>fun g2 w2 M2=>lb 0<|an rfl<|cl<|an (Ln _ _ e (h.keep M2.below)) fun w3 M3=>an (fun h1 M=>⟨ri (out _ (if_pos (by simpa using h1))),M.below⟩) fun h1=>?_
 rw[if_neg (by simpa using h1)] at out hs;refine lb 0<|an rfl<|an (fun h2=>lb 0<|an rfl<|cl<|an (DP _ _ e (h.keep M3.below) N) fun w4 M4 M=>⟨ri (out _ (if_pos (by simpa using h2))),M.below⟩) fun h2=>?_
 rw[if_neg (by simpa using h2)] at out hs;refine lb 0<|an rfl<|an (fun h3=>?_) fun h3=>?_
 focus
  rw[if_pos (by simpa using h3)] at out hs;refine lb 0<|an rfl<|cl<|an ((cC _ _ _).mono fun _ _ ⟨h1,h2⟩=>⟨h1,h2▸Below.refl _ _⟩) fun w5 M5=>an (fun h4 M=>⟨ri (out _ (if_pos (by simpa using h4))),M.below⟩) fun h4=>?_
  rw[if_neg (by simpa using h4)] at out hs;have hb:0≤e.a∧e.a<(N:Int):=by simpa[bn] using h4
  have hea:((e.a.toNat:Nat):Int)=e.a:=by omega
  have hle:=OU (nU:=p.users.length) (nR:=p.roles.length) (nT:=p.types.length) e.a.toNat (B:=140737488355328) hU hR hT;refine lb 1<|an rfl<|lb 0<|an rfl<|cl<|an (hea▸Ku _ _ _ _ _ _ _ _ _ _ _ _ _ _ _ _ _ _ p (hp.keep M5.below) e.a.toNat (by omega) :) fun w6 M6=>an (fun h5 M=>⟨ri (out _ (if_pos (by simpa using h5))),M.below⟩) fun h5=>?_
  rw[if_neg (by simpa using h5)] at out hs;have hnn:((kr p.users.length p.roles.length p.types.length e.a.toNat).toNat:Int)=kr p.users.length p.roles.length p.types.length e.a.toNat:=by simp at h5;omega
  refine lb 0<|an rfl<|cl<|an (hnn▸fW _ e.set he.set' (kr p.users.length p.roles.length p.types.length e.a.toNat).toNat (by omega) :) fun w7 M7=>an (fun h6 M=>⟨ri (out _ (if_pos (by simpa using h6))),M.below⟩) fun h6=>?_
  rw[if_neg (by simpa using h6)] at out hs;refine an (fun h7 M=>⟨ri (out _ (if_pos (by simpa using h7))),M.below⟩) fun h7=>?_
  rw[if_neg (by simpa using h7)] at out hs;replace hs:=hs rfl
 rotate_left 1
 focus
  replace hs:=hs (if_neg (by simpa using h3))
 all_goals
  refine lr (ι:=Nat) (fun m=>[(10,.int .i64 (m:Int))]) (fun m _=>m≤e.kids.length∧tT p.users.length p.roles.length p.types.length N e.kids=tT p.users.length p.roles.length p.types.length N (e.kids.drop m)) (fun m=>e.kids.length-m) 0 (an ⟨⟨rfl,trivial⟩,fun M=>⟨M,atx _,rfl⟩⟩ ?_);rintro m w M ⟨hm,hinv⟩;refine lb 0<|an rfl<|an (fun h9=>?_) fun h9 M=>⟨ri (by rw[hs,hinv,show m=e.kids.length by simp at h9;omega,List.drop_length];rfl),M.below⟩
  have hlt:m<e.kids.length:=by simp at h9;omega
  obtain⟨y,hy⟩:∃ y,e.kids[m]?=some y:=⟨_,atH hlt⟩;obtain⟨b,o,_,e1,hE,hc⟩:=aC.elt hk (by decide) hy;obtain⟨nv',kv',rfl,hn',hk'⟩:=hE.open;obtain⟨_,_,rfl,-⟩:=bp.get hn';obtain⟨_,_,rfl,-⟩:=aC.form hk' (by decide);exact dr (by kernel_rfl)<|lb 1<|an rfl<|lb 0<|an rfl<|ia<|an ⟨e1,rfl,hlt⟩<|lc<|an (dJ M.below hc)<|cl<|an (fun w' hb M'=>ih y (atG hy) (he.acY y (atG hy)) w' _ _ _ _ _ _ _ _ _ _ _ _ _ _ _ _ _ _ p (hp.keep M'.below) hok (hE.keep M'.below)) fun w5 hb5 M5=>an (fun h4 M=>⟨ri (by rw[hs,hinv,AA hy,if_neg (by simpa using h4)]),M.below⟩) fun h4=>an (by omega)<|bk (m+1) ⟨rfl,trivial⟩ (fun M=>⟨M,by omega,by rw[hinv,AA hy,if_pos (by simpa using h4)]⟩) (by dsimp only;omega)
def iK(nU nR nT:Nat)(v:Bool)(e:aA):Int:=if (12:Int)<dY 13 e then 4 else if v=true then m_ nU nR nT 15 e else m_ nU nR nT 10 e
theorem Bj(e:aA)(he:e.Ok)(w0:World)(cs:List Value)(c0 c1 c2 c3 c4 c5 c6 c7 c8 c9 aW aP aO aU aT aS aR:Value)(p:aG)(hp:aL w0 c0 c1 c2 c3 c4 c5 c6 c7 c8 c9 aW aP aO aU aT aS aR p)(hok:p.Ok)(h:bB w0 cs e)(v:Bool):Calls Tryz.prog 115 #[.agg #[c0,c1,c2,c3,c4,c5,c6,c7,c8,c9,aW,aP,aO,aU,aT,aS,aR],.agg cs.toArray,.bool v] w0 (RI w0 (iK p.users.length p.roles.length p.types.length v e)):=by
 obtain⟨nv,kv,rfl,-,-⟩:=h.open;have aM:=hr1 Tryz.prog Tryz.f115 (RI w0 (iK p.users.length p.roles.length p.types.length v e)) 17 6 rfl;refine en Tryz.func115 rfl Tryz.ntmps115 rfl (vs:=[.agg #[c0,c1,c2,c3,c4,c5,c6,c7,c8,c9,aW,aP,aO,aU,aT,aS,aR],.agg #[.int .i64 e.op,.int .i64 e.a,.int .i64 e.rel,.int .i64 e.b,nv,.int .u64 e.set.a,.int .u64 e.set.b,.int .u64 e.set.c,.int .u64 e.set.d,kv],.bool v]) rfl fun _ F=>?_
 have M:=Mm.start w0;refine atO fun K1 dw=>ah<|oG (on rfl) rfl (F.u rf) rfl F rfl M fun g1 _ _ F M=>oG (on rfl) rfl (F.u rf) rfl F rfl M fun g2 _ _ F M=>xA (v:=.int .i64 0) F rf rf rf fun _ F=>atP<|dw _ _ ?_
 refine atO fun K2 cQ=>atO fun K3 fJ=>ah<|xW F (M.b 0 rfl) rf rf rf j9 rf eG rf fun _ F=>xC F M rf rf q39 (args1 (F.u rf)) (n_ _ _ e (bB.keep M.below h)) fun _ _ F M=>kz F rf (CX rfl (F.u rf) rfl) fun _ F=>atP<|fJ _ _ ?_
 refine atQ (F.e 9 rfl) (fun hc3=>?_) (fun hc3=>?_)
 ·have BH:=of_decide_eq_true hc3;refine atO fun K4 fQ=>ah<|xA (v:=.int .i64 4) F rf rf rf fun _ F=>atP<|fQ _ _ ?_
  refine wp_ret<|aM _ _ _ _ F rfl ?_;exact⟨bE (by unfold iK;refine Eq.symm ?_;repeat (first|with_reducible rfl|assumption|(with_reducible refine Eq.trans (if_pos ?_) ?_;focus (first|assumption|(refine cO ?_;assumption)|(refine cN ?_;assumption)|omega|(simp[BH];done)))|(with_reducible refine Eq.trans (if_neg ?_) ?_;focus (first|assumption|(refine cO ?_;assumption)|(refine cN ?_;assumption)|omega|(simp[BH];done)))|omega)),M.below⟩
 ·have Ao:=of_decide_eq_false hc3;refine wp_skip<|cQ _ _ ?_;refine atO fun K5 gL=>atO fun K6 iC=>ah<|xM F rf rf rf fun _ F=>atP<|iC _ _ ?_
  refine atQ (F.e 10 rfl) (fun je=>?_) (fun je=>?_)
  ·refine atO fun K7 iO=>ah<|xW F (M.b 1 rfl) rf rf rf iU rf kS rf fun _ F=>xW F (M.b 0 rfl) rf rf rf j9 rf eG rf fun _ F=>
    xC F M rf rf ab6 (A8 (F.u rf) (F.u rf) rfl) (pV 15 (by decide) e he _ _ _ _ _ _ _ _ _ _ _ _ _ _ _ _ _ _ _ p (hp.keep M.below) hok (bB.keep M.below h)) fun _ _ F M=>
    xA F rf rf rf fun _ F=>
    atP<|
    iO _ _ ?_
   refine wp_ret<|aM _ _ _ _ F rfl ?_;exact⟨bE (by unfold iK;refine Eq.symm ?_;repeat (first|with_reducible rfl|assumption|(with_reducible refine Eq.trans (if_pos ?_) ?_;focus (first|assumption|(refine cO ?_;assumption)|(refine cN ?_;assumption)|omega|(simp[Ao];done)))|(with_reducible refine Eq.trans (if_neg ?_) ?_;focus (first|assumption|(refine cO ?_;assumption)|(refine cN ?_;assumption)|omega|(simp[Ao,je];done)))|omega)),M.below⟩
  ·refine wp_skip<|gL _ _ ?_
   refine atO fun K8 jf=>ah<|xW F (M.b 1 rfl) rf rf rf iU rf kS rf fun _ F=>xW F (M.b 0 rfl) rf rf rf j9 rf eG rf fun _ F=>
    xC F M rf rf ab6 (A8 (F.u rf) (F.u rf) rfl) (pV 10 (by decide) e he _ _ _ _ _ _ _ _ _ _ _ _ _ _ _ _ _ _ _ p (hp.keep M.below) hok (bB.keep M.below h)) fun _ _ F M=>
    xA F rf rf rf fun _ F=>
    atP<|
    jf _ _ ?_
   refine wp_ret<|aM _ _ _ _ F rfl ?_;exact⟨bE (by unfold iK;refine Eq.symm ?_;repeat (first|with_reducible rfl|assumption|(with_reducible refine Eq.trans (if_pos ?_) ?_;focus (first|assumption|(refine cO ?_;assumption)|(refine cN ?_;assumption)|omega|(simp[Ao,je];done)))|(with_reducible refine Eq.trans (if_neg ?_) ?_;focus (first|assumption|(refine cO ?_;assumption)|(refine cN ?_;assumption)|omega|(simp[Ao,je];done)))|omega)),M.below⟩
def yJ(ok ig vc cd:Bool):Bool:=!ok||!ig||!vc||!cd
def DJ(sa sb:Bool)(r:ak):Bool:=!sa||(!sb&&!r.self)||decide (r.perms=0)||(decide (r.kind=4)&&!(decide (r.cond=0)))
def Ct(nT nC:Nat)(cl:List lG)(r:ak):Int:=
 if r.kind<1 then 13 else if 4<r.kind then 13
 else if yJ (r.src.within (au.all nT)) (r.tgt.within (au.all nT)) (kq cl r.cls r.perms) (uf nC r.cond)=true then 3
 else if DJ (eA r.src) (eA r.tgt) r=true then 2 else 0
def ni(p:aG)(i:Nat):Int:=match p.conds[i]? with
 | some e=>gB p.bools.length e
 | none=>0
def wT(p:aG)(i:Nat):Int:=match p.rules[i]? with
 | some r=>Ct p.types.length p.conds.length p.classes r
 | none=>0
def jZ(p:aG):Int:=if 64<p.conds.length then 4 else if aH (ni p) p.conds.length 0=0 then (if 4096<p.rules.length then 4 else aH (wT p) p.rules.length 0) else aH (ni p) p.conds.length 0
theorem GD{p:aG}(h1:¬ 64<p.conds.length)(h2:¬ aH (ni p) p.conds.length 0=0):jZ p=aH (ni p) p.conds.length 0:=by
 unfold jZ;rw[if_neg h1,if_neg h2]
theorem GA{p:aG}(h1:¬ 64<p.conds.length)(h2:aH (ni p) p.conds.length 0=0)(h3:4096<p.rules.length):jZ p=4:=by
 unfold jZ;rw[if_neg h1,if_pos h2,if_pos h3]
theorem Gz{p:aG}(h1:¬ 64<p.conds.length)(h2:aH (ni p) p.conds.length 0=0)(h3:¬ 4096<p.rules.length):jZ p=aH (wT p) p.rules.length 0:=by
 unfold jZ;rw[if_neg h1,if_pos h2,if_neg h3]
theorem OD(w:World)(c0 c1 c2 c3 c4 c5 c6 c7 c8 c9 aW aP aO aU aT aS aR:Value)(p:aG)(hp:aL w c0 c1 c2 c3 c4 c5 c6 c7 c8 c9 aW aP aO aU aT aS aR p)(hok:p.Ok):Calls Tryz.prog 46 #[.agg #[c0,c1,c2,c3,c4,c5,c6,c7,c8,c9,aW,aP,aO,aU,aT,aS,aR]] w fun e w'=>e=.returned (.int .i64 (jZ p))∧atv w.heap.size w w':=by
 obtain⟨_,_,_,_,_,_,_,_,_,_,_,_,_,_,_,_,_,_,_,_,_,_,_,_,_,_,_,_,_,_,_,_,_,_,rfl,rfl,rfl,rfl,rfl,rfl,rfl,rfl,rfl,rfl,rfl,rfl,rfl,rfl,rfl,rfl,rfl⟩:=hp.open;have Bo:=hok.u_;refine fL [] (fn:=Tryz.f46) Tryz.func46 rfl Tryz.ntmps46 rfl<|fun g1 w1 M1=>lb 0<|an rfl<|an (fun h M=>⟨ri (if_pos (by simp at h;omega)),M.below⟩) fun h=>?_
 have h1:¬ 64<p.conds.length:=by simp at h;omega
 refine lr (ι:=Nat) (fun m=>[(3,.int .i64 (m:Int))]) (fun m _=>m≤p.conds.length∧aH (ni p) p.conds.length 0=aH (ni p) (p.conds.length-m) m) (fun m=>p.conds.length-m) 0 (an ⟨⟨rfl,trivial⟩,fun M=>⟨M,atx _,by rw[Nat.sub_zero]⟩⟩ ?_);rintro m w2 M ⟨hm,hinv⟩;refine lb 0<|an rfl<|an (fun h2=>?_) fun h2=>?_
 ·have hlt:m<p.conds.length:=by simp at h2;omega
  obtain⟨y,hy⟩:∃ y,p.conds[m]?=some y:=⟨_,atH hlt⟩;obtain⟨b,o,_,e,hE,hc⟩:=aC.elt hp.conds (by decide) hy;obtain⟨nv,kv,rfl,hn,hk⟩:=hE.open;obtain⟨_,_,rfl,-⟩:=bp.get hn;obtain⟨_,_,rfl,-⟩:=aC.form hk (by decide);have hcf:ni p m=gB p.bools.length y:=by unfold ni;rw[hy]
  exact dr (by kernel_rfl)<|lb 0<|an rfl<|lb 0<|an rfl<|ia<|an ⟨e,rfl,hlt⟩<|lc<|an (dJ M.below hc)<|cl<|an (fun w' hb' M'=>B_ y _ _ _ _ _ _ _ _ _ _ _ _ _ _ _ _ _ _ _ p (hp.keep M'.below) (hE.keep M'.below)) fun w2 hb2 M2=>an (fun h3 M=>⟨ri (by
   have h3:ni p m≠0:=by rw[hcf];simpa using h3
   rw[GD h1 (by rw[hinv,cJ hlt h3];exact h3),hinv,cJ hlt h3,hcf]),M.below⟩) fun h3=>an (by omega)<|bk (m+1) ⟨rfl,trivial⟩ (fun M=>⟨M,by omega,hinv.trans (bQ hlt (by rw[hcf];simpa using h3))⟩) (by dsimp only;omega)
 have hz:aH (ni p) p.conds.length 0=0:=by rw[hinv,show m=p.conds.length by simp at h2;omega,cI]
 clear hinv h2 hm h;refine lb 0<|an rfl<|an (fun h M=>⟨ri (GA h1 hz (by simp at h;omega)),M.below⟩) fun h=>?_
 rw[Gz h1 hz (by simp at h;omega)];have hr:¬ 4096<p.rules.length:=by simp at h;omega
 clear h M;refine lr (ι:=Nat) (fun m=>[(5,.int .i64 (m:Int))]) (fun i _=>i≤p.rules.length∧aH (wT p) p.rules.length 0=aH (wT p) (p.rules.length-i) i) (fun i=>p.rules.length-i) 0 (an ⟨⟨rfl,trivial⟩,fun M=>⟨M,atx _,by rw[Nat.sub_zero]⟩⟩ ?_);rintro i w M ⟨hi,hinv⟩;refine lb 0<|an rfl<|an (fun h2=>?_) fun h2 M=>⟨ri (by rw[hinv,show i=p.rules.length by simp at h2;omega,cI]),M.below⟩
 have hlt:i<p.rules.length:=by simp at h2;omega
 obtain⟨r,hy⟩:∃ y,p.rules[i]?=some y:=⟨_,atH hlt⟩;have okr:=hok.rules r (atG hy);obtain⟨b,o,e,hc⟩:=SliceAt.elt hp.rules (fun _=>rfl) (by decide) hy hlt;have hcf:wT p i=Ct p.types.length p.conds.length p.classes r:=by unfold wT;rw[hy]
 have out:∀ v:Int,Ct p.types.length p.conds.length p.classes r=v→v≠0→aH (wT p) p.rules.length 0=v:=fun v h1 h2=>by rw[hinv,cJ hlt (by rw[hcf,h1];exact h2),hcf,h1]
 unfold Ct at hcf out;refine lb 0<|an rfl<|ia<|an ⟨e,rfl,hlt⟩<|lc<|an (dJ M.below hc)<|ei<|an oy fun g2 w3 M3=>lb 0<|an ⟨rfl,rfl⟩ fun w4 M4=>lb 0<|an rfl<|lb 0<|an (fun _=>rfl)<|an (fun h M=>⟨ri (out 13 ?_ (by decide)),M.below⟩) fun h=>?_
 ·by_cases h5:r.kind<1
  ·rw[if_pos h5]
  ·rw[if_neg h5,if_pos (by simp at h;omega)]
 rw[if_neg (by simp at h;omega),if_neg (by simp at h;omega)] at hcf out;refine lb 0<|an rfl<|lb 1<|an rfl<|cl<|an (fW _ r.src okr.src _ Bo) fun w5 M5=>lb 0<|an rfl<|lb 1<|an rfl<|cl<|an (fW _ r.tgt okr.tgt _ Bo) fun w6 M6=>lb 1<|an (fun _=>rfl)<|lb 0<|an (fun _=>rfl)<|lb 0<|an (fun _=>rfl)<|cl<|an (fun _=>zo _ _ _ _ _ _ _ _ _ _ _ _ _ _ _ _ _ _ p (hp.keep M6.below) r.cls r.perms okr.perms) fun w7 M7=>lb 1<|an (fun _=>rfl)<|lb 0<|an (fun _=>rfl)<|cl<|an (fun _=>Ix _ _ _ _ _ _ _ _ _ _ _ _ _ _ _ _ _ _ p (hp.keep M7.below) _) fun w8 M8=>an (fun h3 M=>⟨ri (out 3 ?_ (by decide)),M.below⟩) fun h3=>?_
 ·clear out hcf;cases h6:r.src.within (au.all p.types.length)<;>cases h7:r.tgt.within (au.all p.types.length)<;>cases h8:kq p.classes r.cls r.perms<;>cases h9:uf p.conds.length r.cond<;>simp_all [yJ]
 rw[if_neg (by clear out hcf;cases h6:r.src.within (au.all p.types.length)<;>cases h7:r.tgt.within (au.all p.types.length)<;>cases h8:kq p.classes r.cls r.perms<;>cases h9:uf p.conds.length r.cond<;>simp_all [yJ])] at hcf out;exact lb 0<|an (fun _=>rfl)<|lb 0<|an (fun _=>rfl)<|lb 0<|an (fun _=>rfl)<|lb 0<|an (fun _=>rfl)<|an (fun h4 M=>⟨ri (out 2 (if_pos h4) (by decide)),M.below⟩) fun h4=>an (by omega)<|bk (i+1) ⟨rfl,trivial⟩ (fun M=>⟨M.only (.cons _ (.refl _)) (.refl _),by omega,hinv.trans (bQ hlt (by rw[hcf,if_neg (fun e=>by rw[show DJ (eA r.src) (eA r.tgt) r=false from h4] at e;cases e)]))⟩) (by dsimp only;omega)
def atI(l:List Int)(i:Nat):Int:=match l[i]? with
 | some x=>x
 | none=>0
def nV(l:List Int):Int:=aH (atI l) l.length 0
theorem Ih{l:List Int}:nV l=0↔∀ x∈l,x=0:=by
 unfold nV;rw[lS];constructor
 ·intro h x hx;obtain⟨i,hi⟩:=List.getElem?_of_mem hx;have:=h i (atx _) (by have:=(atA.1 hi).1;omega);unfold atI at this;rw[hi] at this;exact this
 ·intro h i _ hi;unfold atI;rw[atH (by omega:i<l.length)];exact h _ (List.getElem_mem _)
theorem PJ(w:World)(v:Value)(l:List Int)(h:SliceAt w v 1 l.length (l.map jT)):Calls Tryz.prog 40 #[v] w fun e w'=>e=.returned (.int .i64 (nV l))∧w=w':=by
 obtain⟨a,c,rfl,hac,yT,HA⟩:=h.form (by decide);have H1:=atN HA;clear HA h;unfold nV;obtain⟨n,hn⟩:∃ n,n=l.length:=⟨_,rfl⟩;have HN:=atN hn;rw[← hn] at H1 hac yT ⊢;clear hn
 go_enter Tryz.func40,Tryz.ntmps40
 go_wp2_with fail
 go_loopw [3] (fun i wr=>wr=w∧∃ k:Nat,k≤n∧i=.int .i64 k∧Hid (aH (atI l) n 0=aH (atI l) (n-k) k)) (fun i _=>n-(intOf i).toNat)
 case atStart=>exact⟨rfl,0,atx _,rfl,atN (by rw[Nat.sub_zero])⟩
 case round=>
  obtain⟨rfl,k,hk,rfl,hinv⟩:=hrel;by_cases hlt:k<n
  ·obtain⟨x,hx⟩:∃ x,l[k]?=some x:=⟨_,atH (by rw[← HN.out];exact hlt)⟩;obtain⟨b,off,rfl,hc⟩:=H1.out k hlt
   have k0:wr.cell? ⟨b,off+k,none⟩=some (.int .i64 x):=by
    have h:=hc 0 (.int .i64 x) (by simp[hx,jT])
    rwa [Nat.mul_one] at h
   have HF:=atN (show atI l k=x by unfold atI;rw[hx]);clear hx hc;by_cases hx0:x=0
   ·subst hx0
    go_wp2_with fail
    go_roundw
    case rel=>exact⟨by first|trivial|rfl,k+1,by omega,by go_num,atN (hinv.out.trans (bQ hlt HF.out))⟩
    case measure=>simp[intOf];omega
   ·have d0:(x != 0)=true:=by simp[hx0]
    have HX0:=atN hx0;clear hx0
    go_wp2_with fail
    go_ret
    exact⟨bE (by rw[hinv.out,cJ hlt (by rw[HF.out];exact HX0.out),HF.out]),rfl⟩
  ·obtain rfl:n=k:=by omega
   go_wp2_with fail
   go_ret
   exact⟨bE (by rw[hinv.out,cI]),rfl⟩
def ah1(w:World)(base:Nat)(v:Value)(l:List ByteArray):Prop:=w.ownsRow base 9 1 v l.length (l.flatMap aN)
theorem Gq(l:List ByteArray):∀ u∈l.flatMap aN,u.oneCell'=true:=by
 intro u hu;obtain⟨s,-,hs⟩:=List.mem_flatMap.1 hu;rw[atw.1 hs];rfl
theorem SliceAt.zQ{w:World}{g:Nat}{t:TypeId}{cs:Array Value}{k n:Nat}(h:Whole w g t cs)(hl:cs.toList.length=n*k)(h1:cs.toList.all (·.oneCell')=true)(hn:n≤maxLen):
 SliceAt w (.slice (some ⟨g,0,none⟩) n n) k n cs.toList:=
 ⟨hl,hn,fun u hu=>List.all_eq_true.1 h1 u hu,.inr ⟨_,n,rfl,Nat.le_refl _,fun j u hu=>by rw[Addr.add_lit,Nat.zero_add,h.cell];simpa using hu⟩⟩
def ze(nT:Nat)(before:List ByteArray)(y:kI):Int:=
 if bY [y.name] before=0 then
  (if y.kind<1 then 13 else if 3<y.kind then 13
   else if (!(y.src.within (au.all nT))||!(y.tgt.within (au.all nT)))=true then 3
   else if (!(eA y.src)||!(eA y.tgt))=true then 2 else 0)
 else bY [y.name] before
def nY(p:aG)(i:Nat):Int:=match p.asserts[i]? with
 | some y=>ze p.types.length ((p.asserts.take i).map (·.name)) y
 | none=>0
def p8(p:aG):Int:=if 64<p.asserts.length then 4 else aH (nY p) p.asserts.length 0
theorem IW(w:World)(c0 c1 c2 c3 c4 c5 c6 c7 c8 c9 aW aP aO aU aT aS aR:Value)(p:aG)(hp:aL w c0 c1 c2 c3 c4 c5 c6 c7 c8 c9 aW aP aO aU aT aS aR p)(hok:p.Ok):Calls Tryz.prog 51 #[.agg #[c0,c1,c2,c3,c4,c5,c6,c7,c8,c9,aW,aP,aO,aU,aT,aS,aR]] w fun e w'=>e=.returned (.int .i64 (p8 p))∧atv w.heap.size w w':=by
 obtain⟨_,_,_,_,_,_,_,_,_,_,_,_,_,_,_,_,_,_,_,_,_,_,_,_,_,_,_,_,_,_,_,_,_,_,rfl,rfl,rfl,rfl,rfl,rfl,rfl,rfl,rfl,rfl,rfl,rfl,rfl,rfl,rfl,rfl,rfl⟩:=hp.open;have Bo:=hok.u_;refine fL [] (fn:=Tryz.f51) Tryz.func51 rfl Tryz.ntmps51 rfl<|fun g1 w1 M1=>lb 0<|an rfl<|an (fun h M=>⟨ri (if_pos (by simp at h;omega)),M.below⟩) fun h=>?_
 have hr:¬ 64<p.asserts.length:=by simp at h;omega
 rw[show p8 p=aH (nY p) p.asserts.length 0 from if_neg hr];refine lq (ι:=Nat×Value) (fun(m,u)=>[(3,u),(4,.int .i64 (m:Int))]) (fun(m,u)=>[⟨u,9,1,m,((p.asserts.take m).map (·.name)).flatMap aN⟩]) (fun(m,u) _=>m≤p.asserts.length∧aH (nY p) p.asserts.length 0=aH (nY p) (p.asserts.length-m) m) (fun(m,u)=>p.asserts.length-m) (0,.slice none 0 0) (an ⟨⟨rfl,rfl,trivial⟩,fun M=>⟨M.bX 9 1,atx _,by rw[Nat.sub_zero]⟩⟩ ?_);rintro⟨m,u⟩ w M ⟨hm,hinv⟩;refine lb 0<|an rfl<|an (fun h2=>?_) fun h2 M=>⟨ri (by rw[hinv,show m=p.asserts.length by simp at h2;omega,cI]),M.below⟩
 have hlt:m<p.asserts.length:=by simp at h2;omega
 obtain⟨y,hy⟩:∃ y,p.asserts[m]?=some y:=⟨_,atH hlt⟩;have pN:=hok.asserts y (atG hy);obtain⟨b,o,e,hc⟩:=SliceAt.elt hp.asserts (fun _=>rfl) (by decide) hy hlt;have hcf:nY p m=ze p.types.length ((p.asserts.take m).map (·.name)) y:=by unfold nY;rw[hy]
 have out:∀ v:Int,ze p.types.length ((p.asserts.take m).map (·.name)) y=v→v≠0→aH (nY p) p.asserts.length 0=v:=fun v h1 h2=>by rw[hinv,cJ hlt (by rw[hcf,h1];exact h2),hcf,h1]
 unfold ze at hcf out;refine lb 0<|an rfl<|ia<|an ⟨e,rfl,hlt⟩<|lc<|an (dJ M.below hc)<|ei<|an abp fun g2 w2 M2=>lb 0<|an ⟨rfl,rfl⟩ fun w3 M3=>lb 0<|an rfl<|fun g3 w4 M4=>cl<|an (eW _ _ _ [y.name] ((p.asserts.take m).map (·.name)) (M4.slice 0 rfl rfl rfl (by simp[maxLen])) (iX (M4.r 0 rfl) (by simp;omega) rfl) (by simpa using pN.name)) fun w5 M5=>an (fun h3 M=>⟨ri (out _ (if_neg (by simpa using h3)) (by simpa using h3)),M.below⟩) fun h3=>?_
 replace h3:bY [y.name] ((p.asserts.take m).map (·.name))=0:=by simpa using h3
 rw[if_pos h3] at hcf out;refine lb 1<|an rfl<|fun g4 w6 M6=>ap 0 id rfl (M6.slice 0 rfl rfl rfl (by simp[maxLen])) ⟨by unfold maxLen;omega,by omega⟩ fun v5 w7 M7=>lb 2<|an rfl<|lb 2<|an (fun _=>rfl)<|an (fun h M=>⟨ri (out 13 ?_ (by decide)),M.below⟩) fun h=>?_
 ·by_cases h5:y.kind<1
  ·rw[if_pos h5]
  ·rw[if_neg h5,if_pos (by simp at h;omega)]
 rw[if_neg (by simp at h;omega),if_neg (by simp at h;omega)] at hcf out;refine lb 2<|an rfl<|lb 3<|an rfl<|cl<|an (fW _ y.src pN.src _ Bo) fun w8 M8=>lb 2<|an rfl<|lb 3<|an rfl<|cl<|an (fW _ y.tgt pN.tgt _ Bo) fun w9 M9=>an (fun h4 M=>⟨ri (out 3 (if_pos h4) (by decide)),M.below⟩) fun h4=>?_
 rw[if_neg (fun e=>by rw[h4] at e;cases e)] at hcf out;exact an (fun h5 M=>⟨ri (out 2 (if_pos h5) (by decide)),M.below⟩) fun h5=>an (by omega)<|bk (m+1,v5) ⟨rfl,rfl,trivial⟩ (fun M=>⟨(M.only (.cons _ (.cons _ (.cons _ (.refl _)))) (.refl _)).cast rfl (by dsimp only;rw[qy hy]),by omega,hinv.trans (bQ hlt (by rw[hcf,if_neg (fun e=>by rw[h5] at e;cases e)]))⟩) (by dsimp only;omega)
deriving instance DecidableEq for ak
def Mj(x:Int):List Value:=[.int .u64 x]
theorem nG(x y:ByteArray):(x.toList == y.toList)=decide (x=y):=by
 rw[atL,decide_eq_true_eq,beq_iff_eq];exact⟨fun h=>by rw[ByteArray.toList_eq,ByteArray.toList_eq] at h;exact ByteArray.ext (Array.toList_inj.1 h),fun h=>by rw[h]⟩
section
variable {α:Type} [DecidableEq α] {l1 l2:List α} {m:Nat} {x y:α}
theorem gH(h:¬ l1.length=l2.length):false=decide (l1=l2):=(decide_eq_false fun e=>h (by rw[e])).symm
theorem jw(hx:l1[m]?=some x)(hy:l2[m]?=some y)(h:decide (x=y)=false):false=decide (l1=l2):=by
 refine(decide_eq_false fun e=>?_).symm;rw[e,hy] at hx;exact of_decide_eq_false h (atD hx).symm
theorem jv(hx:l1[m]?=some x)(hy:l2[m]?=some y)(h:l1.take m=l2.take m)(hq:decide (x=y)=true):l1.take (m+1)=l2.take (m+1):=by
 rw[bD hx,bD hy,h,of_decide_eq_true hq]
theorem gI(hm:m=l1.length)(hl:l1.length=l2.length)(h:l1.take m=l2.take m):true=decide (l1=l2):=by
 subst hm;rw[atS,hl,atS] at h;exact(decide_eq_true h).symm
end
theorem Tv(x y:bJ)(w:World):(Op.equalIn 10000 84 (.agg #[.int .i64 x.kind,.int .u64 x.src.a,.int .u64 x.src.b,.int .u64 x.src.c,.int .u64 x.src.d,.int .u64 x.tgt.a,.int .u64 x.tgt.b,.int .u64 x.tgt.c,.int .u64 x.tgt.d,.int .i64 x.cls,.string x.name,.int .i64 x.res,.int .i64 x.cond]) (.agg #[.int .i64 y.kind,.int .u64 y.src.a,.int .u64 y.src.b,.int .u64 y.src.c,.int .u64 y.src.d,.int .u64 y.tgt.a,.int .u64 y.tgt.b,.int .u64 y.tgt.c,.int .u64 y.tgt.d,.int .i64 y.cls,.string y.name,.int .i64 y.res,.int .i64 y.cond])).run Tryz.prog w=.ok (decide (x=y)) w:=by
 rw[show(10000:Nat)=9997+3 from rfl,ad5];congr 1;rw[atL];obtain⟨JC,⟨JB,JA,Jz,Jy⟩,⟨Jx,Jw,Jv,Ju⟩,QZ,uT,abu,Yk⟩:=x;obtain⟨Jt,⟨Js,Jr,Jq,Jp⟩,⟨Jo,Jl,Jk,Jj⟩,QT,uQ,abt,Yh⟩:=y;simp only[decide_eq_true_eq,au.mk.injEq,bJ.mk.injEq,Int.natCast_inj,and_assoc]
theorem w_(w0:World)(v1 v2:Value)(l1 l2:List bJ)(h1:SliceAt w0 v1 13 l1.length (l1.flatMap bJ.cells))(h2:SliceAt w0 v2 13 l2.length (l2.flatMap bJ.cells)):Calls Tryz.prog 74 #[v1,v2] w0 (fun(r:Ending) (w':World)=>r=.returned (.bool (decide (l1=l2)))∧atv w0.heap.size w0 w'):=by
 obtain⟨_,_,rfl,-,hm1,-⟩:=h1.form (by decide);obtain⟨_,_,rfl,-⟩:=h2.form (by decide);refine fL [] (fn:=Tryz.f74) Tryz.func74 rfl Tryz.ntmps74 rfl<|an (fun h M=>⟨ay (gH (by simp at h;omega)),M.below⟩) fun h=>lr (ι:=Nat) (fun m=>[(13,.int .i64 (m:Int))]) (fun m _=>m≤l1.length∧l1.take m=l2.take m) (fun m=>l1.length-m) 0 (an ⟨⟨rfl,trivial⟩,fun M=>⟨M,atx _,rfl⟩⟩ ?_)
 have hl:l1.length=l2.length:=by simp at h;omega
 rintro m w M ⟨hm,ht⟩;refine an (fun h3=>?_) fun h3 M=>⟨ay (gI (by simp at h3;omega) hl ht),M.below⟩
 have hlt:m<l1.length:=by simp at h3;omega
 obtain⟨x,y,_,_,_,_,hx,hy,e1,e2⟩:=dL (f:=bJ.cells) (k:=13) (fun _=>rfl) (by decide) h1 h2 rfl rfl hlt hl M.below;exact dr (by kernel_rfl)<|ia<|an ⟨e1.1,rfl,hlt⟩<|lc<|an e1.2<|ia<|an ⟨e2.1,rfl,hl▸hlt⟩<|lc<|an e2.2<|ei<|an ⟨aaj,Tv x y⟩<|fun w hb M=>an (fun h M=>⟨ay (jw hx hy (by simpa using h)),M.below⟩) fun h=>an (by omega)<|bk (m+1) ⟨rfl,trivial⟩ (fun M=>⟨M,by omega,jv hx hy ht (by simpa using h)⟩) (by dsimp only;omega)
theorem pW(w0:World)(v1 v2:Value)(l1 l2:List Int)(h1:SliceAt w0 v1 1 l1.length (l1.flatMap Mj))(h2:SliceAt w0 v2 1 l2.length (l2.flatMap Mj)):Calls Tryz.prog 77 #[v1,v2] w0 (fun(r:Ending) (w':World)=>r=.returned (.bool (decide (l1=l2)))∧atv w0.heap.size w0 w'):=by
 obtain⟨_,_,rfl,-,hm1,-⟩:=h1.form (by decide);obtain⟨_,_,rfl,-⟩:=h2.form (by decide);refine fL [] (fn:=Tryz.f77) Tryz.func77 rfl Tryz.ntmps77 rfl<|an (fun h M=>⟨ay (gH (by simp at h;omega)),M.below⟩) fun h=>lr (ι:=Nat) (fun m=>[(13,.int .i64 (m:Int))]) (fun m _=>m≤l1.length∧l1.take m=l2.take m) (fun m=>l1.length-m) 0 (an ⟨⟨rfl,trivial⟩,fun M=>⟨M,atx _,rfl⟩⟩ ?_)
 have hl:l1.length=l2.length:=by simp at h;omega
 rintro m w M ⟨hm,ht⟩;refine an (fun h3=>?_) fun h3 M=>⟨ay (gI (by simp at h3;omega) hl ht),M.below⟩
 have hlt:m<l1.length:=by simp at h3;omega
 obtain⟨x,y,_,_,_,_,hx,hy,e1,e2⟩:=dL (f:=Mj) (k:=1) (fun _=>rfl) (by decide) h1 h2 rfl rfl hlt hl M.below;exact dr (by kernel_rfl)<|ia<|an ⟨e1.1,rfl,hlt⟩<|lc (x:=.int .u64 x)<|an (e1.2 0 _ rfl)<|ia<|an ⟨e2.1,rfl,hl▸hlt⟩<|lc (x:=.int .u64 y)<|an (e2.2 0 _ rfl)<|fun w hb M=>an (fun h M=>⟨ay (jw hx hy (by simpa using h)),M.below⟩) fun h=>an (by omega)<|bk (m+1) ⟨rfl,trivial⟩ (fun M=>⟨M,by omega,jv hx hy ht (by simpa using h)⟩) (by dsimp only;omega)
theorem Tw(x y:ak)(w:World):(Op.equalIn 10000 56 (.agg #[.int .i64 x.kind,.int .u64 x.src.a,.int .u64 x.src.b,.int .u64 x.src.c,.int .u64 x.src.d,.int .u64 x.tgt.a,.int .u64 x.tgt.b,.int .u64 x.tgt.c,.int .u64 x.tgt.d,.bool x.self,.int .i64 x.cls,.int .u32 x.perms,.int .i64 x.cond]) (.agg #[.int .i64 y.kind,.int .u64 y.src.a,.int .u64 y.src.b,.int .u64 y.src.c,.int .u64 y.src.d,.int .u64 y.tgt.a,.int .u64 y.tgt.b,.int .u64 y.tgt.c,.int .u64 y.tgt.d,.bool y.self,.int .i64 y.cls,.int .u32 y.perms,.int .i64 y.cond])).run Tryz.prog w=.ok (decide (x=y)) w:=by
 rw[show(10000:Nat)=9997+3 from rfl,ad6];congr 1;rw[atL];obtain⟨JC,⟨JB,JA,Jz,Jy⟩,⟨Jx,Jw,Jv,Ju⟩,afq,QZ,aeD,Yk⟩:=x;obtain⟨Jt,⟨Js,Jr,Jq,Jp⟩,⟨Jo,Jl,Jk,Jj⟩,afn,QT,aey,Yh⟩:=y;simp only[decide_eq_true_eq,ak.mk.injEq,au.mk.injEq,Int.natCast_inj,and_assoc]
theorem Et(w0:World)(v1 v2:Value)(l1 l2:List ak)(h1:SliceAt w0 v1 13 l1.length (l1.flatMap ak.cells))(h2:SliceAt w0 v2 13 l2.length (l2.flatMap ak.cells)):Calls Tryz.prog 141 #[v1,v2] w0 (fun(r:Ending) (w':World)=>r=.returned (.bool (decide (l1=l2)))∧atv w0.heap.size w0 w'):=by
 obtain⟨_,_,rfl,-,hm1,-⟩:=h1.form (by decide);obtain⟨_,_,rfl,-⟩:=h2.form (by decide);refine fL [] (fn:=Tryz.f141) Tryz.func141 rfl Tryz.ntmps141 rfl<|an (fun h M=>⟨ay (gH (by simp at h;omega)),M.below⟩) fun h=>lr (ι:=Nat) (fun m=>[(13,.int .i64 (m:Int))]) (fun m _=>m≤l1.length∧l1.take m=l2.take m) (fun m=>l1.length-m) 0 (an ⟨⟨rfl,trivial⟩,fun M=>⟨M,atx _,rfl⟩⟩ ?_)
 have hl:l1.length=l2.length:=by simp at h;omega
 rintro m w M ⟨hm,ht⟩;refine an (fun h3=>?_) fun h3 M=>⟨ay (gI (by simp at h3;omega) hl ht),M.below⟩
 have hlt:m<l1.length:=by simp at h3;omega
 obtain⟨x,y,_,_,_,_,hx,hy,e1,e2⟩:=dL (f:=ak.cells) (k:=13) (fun _=>rfl) (by decide) h1 h2 rfl rfl hlt hl M.below;exact dr (by kernel_rfl)<|ia<|an ⟨e1.1,rfl,hlt⟩<|lc<|an e1.2<|ia<|an ⟨e2.1,rfl,hl▸hlt⟩<|lc<|an e2.2<|ei<|an ⟨aak,Tw x y⟩<|fun w hb M=>an (fun h M=>⟨ay (jw hx hy (by simpa using h)),M.below⟩) fun h=>an (by omega)<|bk (m+1) ⟨rfl,trivial⟩ (fun M=>⟨M,by omega,jv hx hy ht (by simpa using h)⟩) (by dsimp only;omega)
theorem Tz(x y:kE)(w:World):(Op.equalIn 10000 203 (.agg #[.int .u64 x.roles.a,.int .u64 x.roles.b,.int .u64 x.roles.c,.int .u64 x.roles.d,.int .u64 x.types.a,.int .u64 x.types.b,.int .u64 x.types.c,.int .u64 x.types.d,.int .i64 x.cls,.int .i64 x.res]) (.agg #[.int .u64 y.roles.a,.int .u64 y.roles.b,.int .u64 y.roles.c,.int .u64 y.roles.d,.int .u64 y.types.a,.int .u64 y.types.b,.int .u64 y.types.c,.int .u64 y.types.d,.int .i64 y.cls,.int .i64 y.res])).run Tryz.prog w=.ok (decide (x=y)) w:=by
 rw[show(10000:Nat)=9997+3 from rfl,Z9];congr 1;rw[atL];obtain⟨⟨QX,QW,QV,QU⟩,⟨FX,FW,FV,FU⟩,QZ,abu⟩:=x;obtain⟨⟨QO,QN,QM,QL⟩,⟨FT,FR,FQ,FP⟩,QT,abt⟩:=y;simp only[decide_eq_true_eq,kE.mk.injEq,au.mk.injEq,Int.natCast_inj,and_assoc]
theorem Es(w0:World)(v1 v2:Value)(l1 l2:List kE)(h1:SliceAt w0 v1 10 l1.length (l1.flatMap kE.cells))(h2:SliceAt w0 v2 10 l2.length (l2.flatMap kE.cells)):Calls Tryz.prog 142 #[v1,v2] w0 (fun(r:Ending) (w':World)=>r=.returned (.bool (decide (l1=l2)))∧atv w0.heap.size w0 w'):=by
 obtain⟨_,_,rfl,-,hm1,-⟩:=h1.form (by decide);obtain⟨_,_,rfl,-⟩:=h2.form (by decide);refine fL [] (fn:=Tryz.f142) Tryz.func142 rfl Tryz.ntmps142 rfl<|an (fun h M=>⟨ay (gH (by simp at h;omega)),M.below⟩) fun h=>lr (ι:=Nat) (fun m=>[(13,.int .i64 (m:Int))]) (fun m _=>m≤l1.length∧l1.take m=l2.take m) (fun m=>l1.length-m) 0 (an ⟨⟨rfl,trivial⟩,fun M=>⟨M,atx _,rfl⟩⟩ ?_)
 have hl:l1.length=l2.length:=by simp at h;omega
 rintro m w M ⟨hm,ht⟩;refine an (fun h3=>?_) fun h3 M=>⟨ay (gI (by simp at h3;omega) hl ht),M.below⟩
 have hlt:m<l1.length:=by simp at h3;omega
 obtain⟨x,y,_,_,_,_,hx,hy,e1,e2⟩:=dL (f:=kE.cells) (k:=10) (fun _=>rfl) (by decide) h1 h2 rfl rfl hlt hl M.below;exact dr (by kernel_rfl)<|ia<|an ⟨e1.1,rfl,hlt⟩<|lc<|an e1.2<|ia<|an ⟨e2.1,rfl,hl▸hlt⟩<|lc<|an e2.2<|ei<|an ⟨XZ,Tz x y⟩<|fun w hb M=>an (fun h M=>⟨ay (jw hx hy (by simpa using h)),M.below⟩) fun h=>an (by omega)<|bk (m+1) ⟨rfl,trivial⟩ (fun M=>⟨M,by omega,jv hx hy ht (by simpa using h)⟩) (by dsimp only;omega)
theorem Tx(x y:kF)(w:World):(Op.equalIn 10000 205 (.agg #[.int .u64 x.src.a,.int .u64 x.src.b,.int .u64 x.src.c,.int .u64 x.src.d,.int .u64 x.tgt.a,.int .u64 x.tgt.b,.int .u64 x.tgt.c,.int .u64 x.tgt.d,.int .i64 x.cls,.int .i64 x.rng.low.aV,.int .u64 x.rng.low.cats,.int .i64 x.rng.high.aV,.int .u64 x.rng.high.cats]) (.agg #[.int .u64 y.src.a,.int .u64 y.src.b,.int .u64 y.src.c,.int .u64 y.src.d,.int .u64 y.tgt.a,.int .u64 y.tgt.b,.int .u64 y.tgt.c,.int .u64 y.tgt.d,.int .i64 y.cls,.int .i64 y.rng.low.aV,.int .u64 y.rng.low.cats,.int .i64 y.rng.high.aV,.int .u64 y.rng.high.cats])).run Tryz.prog w=.ok (decide (x=y)) w:=by
 rw[show(10000:Nat)=9996+4 from rfl,Z8];congr 1;rw[atL];obtain⟨⟨JB,JA,Jz,Jy⟩,⟨Jx,Jw,Jv,Ju⟩,QZ,⟨⟨Dh,Di⟩,⟨Bu,Bv⟩⟩⟩:=x;obtain⟨⟨Js,Jr,Jq,Jp⟩,⟨Jo,Jl,Jk,Jj⟩,QT,⟨⟨Df,Dg⟩,⟨Bq,Br⟩⟩⟩:=y;simp only[decide_eq_true_eq,qO.mk.injEq,kF.mk.injEq,uJ.mk.injEq,au.mk.injEq,Int.natCast_inj,and_assoc]
theorem Er(w0:World)(v1 v2:Value)(l1 l2:List kF)(h1:SliceAt w0 v1 13 l1.length (l1.flatMap kF.cells))(h2:SliceAt w0 v2 13 l2.length (l2.flatMap kF.cells)):Calls Tryz.prog 143 #[v1,v2] w0 (fun(r:Ending) (w':World)=>r=.returned (.bool (decide (l1=l2)))∧atv w0.heap.size w0 w'):=by
 obtain⟨_,_,rfl,-,hm1,-⟩:=h1.form (by decide);obtain⟨_,_,rfl,-⟩:=h2.form (by decide);refine fL [] (fn:=Tryz.f143) Tryz.func143 rfl Tryz.ntmps143 rfl<|an (fun h M=>⟨ay (gH (by simp at h;omega)),M.below⟩) fun h=>lr (ι:=Nat) (fun m=>[(13,.int .i64 (m:Int))]) (fun m _=>m≤l1.length∧l1.take m=l2.take m) (fun m=>l1.length-m) 0 (an ⟨⟨rfl,trivial⟩,fun M=>⟨M,atx _,rfl⟩⟩ ?_)
 have hl:l1.length=l2.length:=by simp at h;omega
 rintro m w M ⟨hm,ht⟩;refine an (fun h3=>?_) fun h3 M=>⟨ay (gI (by simp at h3;omega) hl ht),M.below⟩
 have hlt:m<l1.length:=by simp at h3;omega
 obtain⟨x,y,_,_,_,_,hx,hy,e1,e2⟩:=dL (f:=kF.cells) (k:=13) (fun _=>rfl) (by decide) h1 h2 rfl rfl hlt hl M.below;exact dr (by kernel_rfl)<|ia<|an ⟨e1.1,rfl,hlt⟩<|lc<|an e1.2<|ia<|an ⟨e2.1,rfl,hl▸hlt⟩<|lc<|an e2.2<|ei<|an ⟨XY,Tx x y⟩<|fun w hb M=>an (fun h M=>⟨ay (jw hx hy (by simpa using h)),M.below⟩) fun h=>an (by omega)<|bk (m+1) ⟨rfl,trivial⟩ (fun M=>⟨M,by omega,jv hx hy ht (by simpa using h)⟩) (by dsimp only;omega)
theorem TK(x y:kD)(w:World):(Op.equalIn 10000 125 (.agg #[.string x.name,.int .i64 x.ctx.user,.int .i64 x.ctx.role,.int .i64 x.ctx.typ,.int .i64 x.ctx.rng.low.aV,.int .u64 x.ctx.rng.low.cats,.int .i64 x.ctx.rng.high.aV,.int .u64 x.ctx.rng.high.cats]) (.agg #[.string y.name,.int .i64 y.ctx.user,.int .i64 y.ctx.role,.int .i64 y.ctx.typ,.int .i64 y.ctx.rng.low.aV,.int .u64 y.ctx.rng.low.cats,.int .i64 y.ctx.rng.high.aV,.int .u64 y.ctx.rng.high.cats])).run Tryz.prog w=.ok (decide (x=y)) w:=by
 rw[show(10000:Nat)=9995+5 from rfl,aag];congr 1;rw[atL];obtain⟨uT,⟨NW,NX,QY,⟨⟨xK,xO⟩,⟨uU,uV⟩⟩⟩⟩:=x;obtain⟨uQ,⟨NU,NV,QS,⟨⟨xI,xJ⟩,⟨uR,uS⟩⟩⟩⟩:=y;simp only[decide_eq_true_eq,wG.mk.injEq,qO.mk.injEq,uJ.mk.injEq,kD.mk.injEq,Int.natCast_inj,and_assoc]
theorem Ep(w0:World)(v1 v2:Value)(l1 l2:List kD)(h1:SliceAt w0 v1 8 l1.length (l1.flatMap kD.cells))(h2:SliceAt w0 v2 8 l2.length (l2.flatMap kD.cells)):Calls Tryz.prog 145 #[v1,v2] w0 (fun(r:Ending) (w':World)=>r=.returned (.bool (decide (l1=l2)))∧atv w0.heap.size w0 w'):=by
 obtain⟨_,_,rfl,-,hm1,-⟩:=h1.form (by decide);obtain⟨_,_,rfl,-⟩:=h2.form (by decide);refine fL [] (fn:=Tryz.f145) Tryz.func145 rfl Tryz.ntmps145 rfl<|an (fun h M=>⟨ay (gH (by simp at h;omega)),M.below⟩) fun h=>lr (ι:=Nat) (fun m=>[(13,.int .i64 (m:Int))]) (fun m _=>m≤l1.length∧l1.take m=l2.take m) (fun m=>l1.length-m) 0 (an ⟨⟨rfl,trivial⟩,fun M=>⟨M,atx _,rfl⟩⟩ ?_)
 have hl:l1.length=l2.length:=by simp at h;omega
 rintro m w M ⟨hm,ht⟩;refine an (fun h3=>?_) fun h3 M=>⟨ay (gI (by simp at h3;omega) hl ht),M.below⟩
 have hlt:m<l1.length:=by simp at h3;omega
 obtain⟨x,y,_,_,_,_,hx,hy,e1,e2⟩:=dL (f:=kD.cells) (k:=8) (fun _=>rfl) (by decide) h1 h2 rfl rfl hlt hl M.below;exact dr (by kernel_rfl)<|ia<|an ⟨e1.1,rfl,hlt⟩<|lc<|an e1.2<|ia<|an ⟨e2.1,rfl,hl▸hlt⟩<|lc<|an e2.2<|ei<|an ⟨X5,TK x y⟩<|fun w hb M=>an (fun h M=>⟨ay (jw hx hy (by simpa using h)),M.below⟩) fun h=>an (by omega)<|bk (m+1) ⟨rfl,trivial⟩ (fun M=>⟨M,by omega,jv hx hy ht (by simpa using h)⟩) (by dsimp only;omega)
theorem TJ(x y:kG)(w:World):(Op.equalIn 10000 127 (.agg #[.string x.pat,.int .i64 x.kind,.int .i64 x.ctx.user,.int .i64 x.ctx.role,.int .i64 x.ctx.typ,.int .i64 x.ctx.rng.low.aV,.int .u64 x.ctx.rng.low.cats,.int .i64 x.ctx.rng.high.aV,.int .u64 x.ctx.rng.high.cats]) (.agg #[.string y.pat,.int .i64 y.kind,.int .i64 y.ctx.user,.int .i64 y.ctx.role,.int .i64 y.ctx.typ,.int .i64 y.ctx.rng.low.aV,.int .u64 y.ctx.rng.low.cats,.int .i64 y.ctx.rng.high.aV,.int .u64 y.ctx.rng.high.cats])).run Tryz.prog w=.ok (decide (x=y)) w:=by
 rw[show(10000:Nat)=9995+5 from rfl,aaf];congr 1;rw[atL];obtain⟨aiq,JC,⟨NW,NX,QY,⟨⟨xK,xO⟩,⟨uU,uV⟩⟩⟩⟩:=x;obtain⟨aio,Jt,⟨NU,NV,QS,⟨⟨xI,xJ⟩,⟨uR,uS⟩⟩⟩⟩:=y;simp only[decide_eq_true_eq,wG.mk.injEq,kG.mk.injEq,qO.mk.injEq,uJ.mk.injEq,Int.natCast_inj,and_assoc]
theorem Eo(w0:World)(v1 v2:Value)(l1 l2:List kG)(h1:SliceAt w0 v1 9 l1.length (l1.flatMap kG.cells))(h2:SliceAt w0 v2 9 l2.length (l2.flatMap kG.cells)):Calls Tryz.prog 146 #[v1,v2] w0 (fun(r:Ending) (w':World)=>r=.returned (.bool (decide (l1=l2)))∧atv w0.heap.size w0 w'):=by
 obtain⟨_,_,rfl,-,hm1,-⟩:=h1.form (by decide);obtain⟨_,_,rfl,-⟩:=h2.form (by decide);refine fL [] (fn:=Tryz.f146) Tryz.func146 rfl Tryz.ntmps146 rfl<|an (fun h M=>⟨ay (gH (by simp at h;omega)),M.below⟩) fun h=>lr (ι:=Nat) (fun m=>[(13,.int .i64 (m:Int))]) (fun m _=>m≤l1.length∧l1.take m=l2.take m) (fun m=>l1.length-m) 0 (an ⟨⟨rfl,trivial⟩,fun M=>⟨M,atx _,rfl⟩⟩ ?_)
 have hl:l1.length=l2.length:=by simp at h;omega
 rintro m w M ⟨hm,ht⟩;refine an (fun h3=>?_) fun h3 M=>⟨ay (gI (by simp at h3;omega) hl ht),M.below⟩
 have hlt:m<l1.length:=by simp at h3;omega
 obtain⟨x,y,_,_,_,_,hx,hy,e1,e2⟩:=dL (f:=kG.cells) (k:=9) (fun _=>rfl) (by decide) h1 h2 rfl rfl hlt hl M.below;exact dr (by kernel_rfl)<|ia<|an ⟨e1.1,rfl,hlt⟩<|lc<|an e1.2<|ia<|an ⟨e2.1,rfl,hl▸hlt⟩<|lc<|an e2.2<|ei<|an ⟨X4,TJ x y⟩<|fun w hb M=>an (fun h M=>⟨ay (jw hx hy (by simpa using h)),M.below⟩) fun h=>an (by omega)<|bk (m+1) ⟨rfl,trivial⟩ (fun M=>⟨M,by omega,jv hx hy ht (by simpa using h)⟩) (by dsimp only;omega)
theorem TH(x y:kI)(w:World):(Op.equalIn 10000 129 (.agg #[.string x.name,.int .i64 x.kind,.int .u64 x.src.a,.int .u64 x.src.b,.int .u64 x.src.c,.int .u64 x.src.d,.int .u64 x.tgt.a,.int .u64 x.tgt.b,.int .u64 x.tgt.c,.int .u64 x.tgt.d]) (.agg #[.string y.name,.int .i64 y.kind,.int .u64 y.src.a,.int .u64 y.src.b,.int .u64 y.src.c,.int .u64 y.src.d,.int .u64 y.tgt.a,.int .u64 y.tgt.b,.int .u64 y.tgt.c,.int .u64 y.tgt.d])).run Tryz.prog w=.ok (decide (x=y)) w:=by
 rw[show(10000:Nat)=9997+3 from rfl,aae];congr 1;rw[atL];obtain⟨uT,JC,⟨JB,JA,Jz,Jy⟩,⟨Jx,Jw,Jv,Ju⟩⟩:=x;obtain⟨uQ,Jt,⟨Js,Jr,Jq,Jp⟩,⟨Jo,Jl,Jk,Jj⟩⟩:=y;simp only[decide_eq_true_eq,kI.mk.injEq,au.mk.injEq,Int.natCast_inj,and_assoc]
theorem En(w0:World)(v1 v2:Value)(l1 l2:List kI)(h1:SliceAt w0 v1 10 l1.length (l1.flatMap kI.cells))(h2:SliceAt w0 v2 10 l2.length (l2.flatMap kI.cells)):Calls Tryz.prog 147 #[v1,v2] w0 (fun(r:Ending) (w':World)=>r=.returned (.bool (decide (l1=l2)))∧atv w0.heap.size w0 w'):=by
 obtain⟨_,_,rfl,-,hm1,-⟩:=h1.form (by decide);obtain⟨_,_,rfl,-⟩:=h2.form (by decide);refine fL [] (fn:=Tryz.f147) Tryz.func147 rfl Tryz.ntmps147 rfl<|an (fun h M=>⟨ay (gH (by simp at h;omega)),M.below⟩) fun h=>lr (ι:=Nat) (fun m=>[(13,.int .i64 (m:Int))]) (fun m _=>m≤l1.length∧l1.take m=l2.take m) (fun m=>l1.length-m) 0 (an ⟨⟨rfl,trivial⟩,fun M=>⟨M,atx _,rfl⟩⟩ ?_)
 have hl:l1.length=l2.length:=by simp at h;omega
 rintro m w M ⟨hm,ht⟩;refine an (fun h3=>?_) fun h3 M=>⟨ay (gI (by simp at h3;omega) hl ht),M.below⟩
 have hlt:m<l1.length:=by simp at h3;omega
 obtain⟨x,y,_,_,_,_,hx,hy,e1,e2⟩:=dL (f:=kI.cells) (k:=10) (fun _=>rfl) (by decide) h1 h2 rfl rfl hlt hl M.below;exact dr (by kernel_rfl)<|ia<|an ⟨e1.1,rfl,hlt⟩<|lc<|an e1.2<|ia<|an ⟨e2.1,rfl,hl▸hlt⟩<|lc<|an e2.2<|ei<|an ⟨X3,TH x y⟩<|fun w hb M=>an (fun h M=>⟨ay (jw hx hy (by simpa using h)),M.below⟩) fun h=>an (by omega)<|bk (m+1) ⟨rfl,trivial⟩ (fun M=>⟨M,by omega,jv hx hy ht (by simpa using h)⟩) (by dsimp only;omega)
theorem jh(w0:World)(v1 v2:Value)(l1 l2:List ByteArray)(h1:SliceAt w0 v1 1 l1.length (l1.flatMap aN))(h2:SliceAt w0 v2 1 l2.length (l2.flatMap aN)):Calls Tryz.prog 213 #[v1,v2] w0 (fun(r:Ending) (w':World)=>r=.returned (.bool (decide (l1=l2)))∧atv w0.heap.size w0 w'):=by
 obtain⟨_,_,rfl,-,hm1,-⟩:=h1.form (by decide);obtain⟨_,_,rfl,-⟩:=h2.form (by decide);refine fL [] (fn:=Tryz.f213) Tryz.func213 rfl Tryz.ntmps213 rfl<|an (fun h M=>⟨ay (gH (by simp at h;omega)),M.below⟩) fun h=>lr (ι:=Nat) (fun m=>[(13,.int .i64 (m:Int))]) (fun m _=>m≤l1.length∧l1.take m=l2.take m) (fun m=>l1.length-m) 0 (an ⟨⟨rfl,trivial⟩,fun M=>⟨M,atx _,rfl⟩⟩ ?_)
 have hl:l1.length=l2.length:=by simp at h;omega
 rintro m w M ⟨hm,ht⟩;refine an (fun h3=>?_) fun h3 M=>⟨ay (gI (by simp at h3;omega) hl ht),M.below⟩
 have hlt:m<l1.length:=by simp at h3;omega
 obtain⟨x,y,_,_,_,_,hx,hy,e1,e2⟩:=dL (f:=aN) (k:=1) (fun _=>rfl) (by decide) h1 h2 rfl rfl hlt hl M.below;exact dr (by kernel_rfl)<|ia<|an ⟨e1.1,rfl,hlt⟩<|lc (x:=.string x)<|an (e1.2 0 _ rfl)<|ia<|an ⟨e2.1,rfl,hl▸hlt⟩<|lc (x:=.string y)<|an (e2.2 0 _ rfl)<|fun w hb M=>an (fun h M=>⟨ay (jw hx hy (by rw[← nG];simpa using h)),M.below⟩) fun h=>an (by omega)<|bk (m+1) ⟨rfl,trivial⟩ (fun M=>⟨M,by omega,jv hx hy ht (by rw[← nG];simpa using h)⟩) (by dsimp only;omega)
theorem TG(x y:kH)(w:World):(Op.equalIn 10000 184 (.agg #[.string x.name,.int .u64 x.types.a,.int .u64 x.types.b,.int .u64 x.types.c,.int .u64 x.types.d]) (.agg #[.string y.name,.int .u64 y.types.a,.int .u64 y.types.b,.int .u64 y.types.c,.int .u64 y.types.d])).run Tryz.prog w=.ok (decide (x=y)) w:=by
 rw[show(10000:Nat)=9997+3 from rfl,aad];congr 1;rw[atL];obtain⟨uT,⟨FX,FW,FV,FU⟩⟩:=x;obtain⟨uQ,⟨FT,FR,FQ,FP⟩⟩:=y;simp only[decide_eq_true_eq,kH.mk.injEq,au.mk.injEq,Int.natCast_inj]
theorem Em(w0:World)(v1 v2:Value)(l1 l2:List kH)(h1:SliceAt w0 v1 5 l1.length (l1.flatMap kH.cells))(h2:SliceAt w0 v2 5 l2.length (l2.flatMap kH.cells)):Calls Tryz.prog 218 #[v1,v2] w0 (fun(r:Ending) (w':World)=>r=.returned (.bool (decide (l1=l2)))∧atv w0.heap.size w0 w'):=by
 obtain⟨_,_,rfl,-,hm1,-⟩:=h1.form (by decide);obtain⟨_,_,rfl,-⟩:=h2.form (by decide);refine fL [] (fn:=Tryz.f218) Tryz.func218 rfl Tryz.ntmps218 rfl<|an (fun h M=>⟨ay (gH (by simp at h;omega)),M.below⟩) fun h=>lr (ι:=Nat) (fun m=>[(13,.int .i64 (m:Int))]) (fun m _=>m≤l1.length∧l1.take m=l2.take m) (fun m=>l1.length-m) 0 (an ⟨⟨rfl,trivial⟩,fun M=>⟨M,atx _,rfl⟩⟩ ?_)
 have hl:l1.length=l2.length:=by simp at h;omega
 rintro m w M ⟨hm,ht⟩;refine an (fun h3=>?_) fun h3 M=>⟨ay (gI (by simp at h3;omega) hl ht),M.below⟩
 have hlt:m<l1.length:=by simp at h3;omega
 obtain⟨x,y,_,_,_,_,hx,hy,e1,e2⟩:=dL (f:=kH.cells) (k:=5) (fun _=>rfl) (by decide) h1 h2 rfl rfl hlt hl M.below;exact dr (by kernel_rfl)<|ia<|an ⟨e1.1,rfl,hlt⟩<|lc<|an e1.2<|ia<|an ⟨e2.1,rfl,hl▸hlt⟩<|lc<|an e2.2<|ei<|an ⟨X2,TG x y⟩<|fun w hb M=>an (fun h M=>⟨ay (jw hx hy (by simpa using h)),M.below⟩) fun h=>an (by omega)<|bk (m+1) ⟨rfl,trivial⟩ (fun M=>⟨M,by omega,jv hx hy ht (by simpa using h)⟩) (by dsimp only;omega)
theorem TF(x y:iw)(w:World):(Op.equalIn 10000 188 (.agg #[.string x.name,.int .u64 x.types.a,.int .u64 x.types.b,.int .u64 x.types.c,.int .u64 x.types.d,.int .u64 x.next.a,.int .u64 x.next.b,.int .u64 x.next.c,.int .u64 x.next.d]) (.agg #[.string y.name,.int .u64 y.types.a,.int .u64 y.types.b,.int .u64 y.types.c,.int .u64 y.types.d,.int .u64 y.next.a,.int .u64 y.next.b,.int .u64 y.next.c,.int .u64 y.next.d])).run Tryz.prog w=.ok (decide (x=y)) w:=by
 rw[show(10000:Nat)=9997+3 from rfl,Tt];congr 1;rw[atL];obtain⟨uT,⟨FX,FW,FV,FU⟩,⟨aeH,aeG,aeF,aeE⟩⟩:=x;obtain⟨uQ,⟨FT,FR,FQ,FP⟩,⟨aeC,aeB,aeA,aez⟩⟩:=y;simp only[decide_eq_true_eq,iw.mk.injEq,au.mk.injEq,Int.natCast_inj,and_assoc]
theorem El(w0:World)(v1 v2:Value)(l1 l2:List iw)(h1:SliceAt w0 v1 9 l1.length (l1.flatMap iw.cells))(h2:SliceAt w0 v2 9 l2.length (l2.flatMap iw.cells)):Calls Tryz.prog 219 #[v1,v2] w0 (fun(r:Ending) (w':World)=>r=.returned (.bool (decide (l1=l2)))∧atv w0.heap.size w0 w'):=by
 obtain⟨_,_,rfl,-,hm1,-⟩:=h1.form (by decide);obtain⟨_,_,rfl,-⟩:=h2.form (by decide);refine fL [] (fn:=Tryz.f219) Tryz.func219 rfl Tryz.ntmps219 rfl<|an (fun h M=>⟨ay (gH (by simp at h;omega)),M.below⟩) fun h=>lr (ι:=Nat) (fun m=>[(13,.int .i64 (m:Int))]) (fun m _=>m≤l1.length∧l1.take m=l2.take m) (fun m=>l1.length-m) 0 (an ⟨⟨rfl,trivial⟩,fun M=>⟨M,atx _,rfl⟩⟩ ?_)
 have hl:l1.length=l2.length:=by simp at h;omega
 rintro m w M ⟨hm,ht⟩;refine an (fun h3=>?_) fun h3 M=>⟨ay (gI (by simp at h3;omega) hl ht),M.below⟩
 have hlt:m<l1.length:=by simp at h3;omega
 obtain⟨x,y,_,_,_,_,hx,hy,e1,e2⟩:=dL (f:=iw.cells) (k:=9) (fun _=>rfl) (by decide) h1 h2 rfl rfl hlt hl M.below;exact dr (by kernel_rfl)<|ia<|an ⟨e1.1,rfl,hlt⟩<|lc<|an e1.2<|ia<|an ⟨e2.1,rfl,hl▸hlt⟩<|lc<|an e2.2<|ei<|an ⟨TM,TF x y⟩<|fun w hb M=>an (fun h M=>⟨ay (jw hx hy (by simpa using h)),M.below⟩) fun h=>an (by omega)<|bk (m+1) ⟨rfl,trivial⟩ (fun M=>⟨M,by omega,jv hx hy ht (by simpa using h)⟩) (by dsimp only;omega)
theorem TB(x y:j6)(w:World):(Op.equalIn 10000 192 (.agg #[.string x.name,.int .u64 x.roles.a,.int .u64 x.roles.b,.int .u64 x.roles.c,.int .u64 x.roles.d,.int .i64 x.dflt.aV,.int .u64 x.dflt.cats,.int .i64 x.rng.low.aV,.int .u64 x.rng.low.cats,.int .i64 x.rng.high.aV,.int .u64 x.rng.high.cats]) (.agg #[.string y.name,.int .u64 y.roles.a,.int .u64 y.roles.b,.int .u64 y.roles.c,.int .u64 y.roles.d,.int .i64 y.dflt.aV,.int .u64 y.dflt.cats,.int .i64 y.rng.low.aV,.int .u64 y.rng.low.cats,.int .i64 y.rng.high.aV,.int .u64 y.rng.high.cats])).run Tryz.prog w=.ok (decide (x=y)) w:=by
 rw[show(10000:Nat)=9996+4 from rfl,aac];congr 1;rw[atL];obtain⟨uT,⟨QX,QW,QV,QU⟩,⟨Yi,Yj⟩,⟨⟨Dh,Di⟩,⟨Bu,Bv⟩⟩⟩:=x;obtain⟨uQ,⟨QO,QN,QM,QL⟩,⟨Yf,Yg⟩,⟨⟨Df,Dg⟩,⟨Bq,Br⟩⟩⟩:=y;simp only[decide_eq_true_eq,qO.mk.injEq,uJ.mk.injEq,au.mk.injEq,j6.mk.injEq,Int.natCast_inj,and_assoc]
theorem Ek(w0:World)(v1 v2:Value)(l1 l2:List j6)(h1:SliceAt w0 v1 11 l1.length (l1.flatMap j6.cells))(h2:SliceAt w0 v2 11 l2.length (l2.flatMap j6.cells)):Calls Tryz.prog 220 #[v1,v2] w0 (fun(r:Ending) (w':World)=>r=.returned (.bool (decide (l1=l2)))∧atv w0.heap.size w0 w'):=by
 obtain⟨_,_,rfl,-,hm1,-⟩:=h1.form (by decide);obtain⟨_,_,rfl,-⟩:=h2.form (by decide);refine fL [] (fn:=Tryz.f220) Tryz.func220 rfl Tryz.ntmps220 rfl<|an (fun h M=>⟨ay (gH (by simp at h;omega)),M.below⟩) fun h=>lr (ι:=Nat) (fun m=>[(13,.int .i64 (m:Int))]) (fun m _=>m≤l1.length∧l1.take m=l2.take m) (fun m=>l1.length-m) 0 (an ⟨⟨rfl,trivial⟩,fun M=>⟨M,atx _,rfl⟩⟩ ?_)
 have hl:l1.length=l2.length:=by simp at h;omega
 rintro m w M ⟨hm,ht⟩;refine an (fun h3=>?_) fun h3 M=>⟨ay (gI (by simp at h3;omega) hl ht),M.below⟩
 have hlt:m<l1.length:=by simp at h3;omega
 obtain⟨x,y,_,_,_,_,hx,hy,e1,e2⟩:=dL (f:=j6.cells) (k:=11) (fun _=>rfl) (by decide) h1 h2 rfl rfl hlt hl M.below;exact dr (by kernel_rfl)<|ia<|an ⟨e1.1,rfl,hlt⟩<|lc<|an e1.2<|ia<|an ⟨e2.1,rfl,hl▸hlt⟩<|lc<|an e2.2<|ei<|an ⟨X1,TB x y⟩<|fun w hb M=>an (fun h M=>⟨ay (jw hx hy (by simpa using h)),M.below⟩) fun h=>an (by omega)<|bk (m+1) ⟨rfl,trivial⟩ (fun M=>⟨M,by omega,jv hx hy ht (by simpa using h)⟩) (by dsimp only;omega)
theorem TA(x y:iP)(w:World):(Op.equalIn 10000 197 (.agg #[.string x.name,.bool x.val]) (.agg #[.string y.name,.bool y.val])).run Tryz.prog w=.ok (decide (x=y)) w:=by
 rw[show(10000:Nat)=9998+2 from rfl,Z_];congr 1;rw[atL];obtain⟨uT,aip⟩:=x;obtain⟨uQ,ain⟩:=y;simp only[decide_eq_true_eq,iP.mk.injEq]
theorem Ej(w0:World)(v1 v2:Value)(l1 l2:List iP)(h1:SliceAt w0 v1 2 l1.length (l1.flatMap iP.cells))(h2:SliceAt w0 v2 2 l2.length (l2.flatMap iP.cells)):Calls Tryz.prog 221 #[v1,v2] w0 (fun(r:Ending) (w':World)=>r=.returned (.bool (decide (l1=l2)))∧atv w0.heap.size w0 w'):=by
 obtain⟨_,_,rfl,-,hm1,-⟩:=h1.form (by decide);obtain⟨_,_,rfl,-⟩:=h2.form (by decide);refine fL [] (fn:=Tryz.f221) Tryz.func221 rfl Tryz.ntmps221 rfl<|an (fun h M=>⟨ay (gH (by simp at h;omega)),M.below⟩) fun h=>lr (ι:=Nat) (fun m=>[(13,.int .i64 (m:Int))]) (fun m _=>m≤l1.length∧l1.take m=l2.take m) (fun m=>l1.length-m) 0 (an ⟨⟨rfl,trivial⟩,fun M=>⟨M,atx _,rfl⟩⟩ ?_)
 have hl:l1.length=l2.length:=by simp at h;omega
 rintro m w M ⟨hm,ht⟩;refine an (fun h3=>?_) fun h3 M=>⟨ay (gI (by simp at h3;omega) hl ht),M.below⟩
 have hlt:m<l1.length:=by simp at h3;omega
 obtain⟨x,y,_,_,_,_,hx,hy,e1,e2⟩:=dL (f:=iP.cells) (k:=2) (fun _=>rfl) (by decide) h1 h2 rfl rfl hlt hl M.below;exact dr (by kernel_rfl)<|ia<|an ⟨e1.1,rfl,hlt⟩<|lc<|an e1.2<|ia<|an ⟨e2.1,rfl,hl▸hlt⟩<|lc<|an e2.2<|ei<|an ⟨X0,TA x y⟩<|fun w hb M=>an (fun h M=>⟨ay (jw hx hy (by simpa using h)),M.below⟩) fun h=>an (by omega)<|bk (m+1) ⟨rfl,trivial⟩ (fun M=>⟨M,by omega,jv hx hy ht (by simpa using h)⟩) (by dsimp only;omega)
def j7(p:aG)(k:Int):List Bool:=(List.range (2^p.bools.length)).map fun i=>kU p.bools.length p.conds (rJ p.bools.length i) k
def wN(p:aG)(y:bJ):Option (bJ×List Bool):=if (j7 p y.cond).any id=true then some ({ y with cond:=0 },j7 p y.cond) else none
def gV(p:aG):List (bJ×List Bool):=p.trans.filterMap (wN p)
def Oj(z:bJ×List Bool):List Value:=z.1.cells
structure lZ (w:World) (u1 u2:Value) (L:List (bJ×List Bool)):Prop where
 tr:SliceAt w u1 13 L.length (L.flatMap Oj)
 wh:∃ vs:List Value,vs.length=L.length∧SliceAt w u2 1 L.length vs∧∀ (i:Nat) v z,vs[i]?=some v→L[i]?=some z→fS w v z.2
theorem lZ.keep{w w':World}{u1 u2:Value}{L:List (bJ×List Bool)}(h:lZ w u1 u2 L)(hb:atv w.heap.size w w'):lZ w' u1 u2 L:=by
 obtain⟨vs,h1,h2,h3⟩:=h.wh;exact⟨h.tr.keep hb,vs,h1,h2.keep hb,fun i v row a b=>(h3 i v row a b).keep hb⟩
theorem Rj(L:List (bJ×List Bool)):∀ u∈L.flatMap Oj,u.oneCell'=true:=fun u hu=>by
 obtain⟨x,-,hx⟩:=List.mem_flatMap.1 hu;simp only[Oj,bJ.cells,List.mem_cons,List.not_mem_nil,or_false] at hx;rcases hx with rfl|rfl|rfl|rfl|rfl|rfl|rfl|rfl|rfl|rfl|rfl|rfl|rfl<;>rfl
theorem wM(w0:World)(c0 c1 c2 c3 c4 c5 c6 c7 c8 c9 aW aP aO aU aT aS aR:Value)(p:aG)(hp:aL w0 c0 c1 c2 c3 c4 c5 c6 c7 c8 c9 aW aP aO aU aT aS aR p)(hS:LN p)(ht:p.trans.length≤1000)(hk:∀ y∈p.trans,jq y.cond):
 Calls Tryz.prog 135 #[.agg #[c0,c1,c2,c3,c4,c5,c6,c7,c8,c9,aW,aP,aO,aU,aT,aS,aR]] w0 fun x w'=>∃ v,x=.returned v∧((∃ u1 u2,v=.tuple #[u1,u2]∧lZ w' u1 u2 (gV p))∧atv w0.heap.size w0 w'):=by
 obtain⟨gh,f_,rfl,-⟩:=SliceAt.form hp.bools (by decide);obtain⟨O_,O4,rfl,-⟩:=SliceAt.form hp.trans (by decide);have adn:=abN _ hS.bools;have hwl:∀ k,(j7 p k).length=2^p.bools.length:=fun k=>by simp[j7]
 have agE:∀ (a:Act) (w:World) (o:Oper) (x y:Operand) (ty yt:TypeId),o.op=.binOp .shl ty x y yt→a.eval x=.int .i64 1→a.eval y=.int .i64 (p.bools.length:Int)→(execOp a.eval o).run Tryz.prog w=.ok (.value (.int .i64 ((2^p.bools.length:Nat):Int))) w:=fun a w o x y ty yt ho hx hy=>by
  have:=lU (P:=Tryz.prog) (w:=w) ho hx hy (by omega) (by simp[IntKind.bits];have:=hS.bools;omega);rw[this]
  have hw:IntKind.i64.wrap (1*2^(p.bools.length:Int).toNat)=((2^p.bools.length:Nat):Int):=by
   have e:(2:Int)^p.bools.length=((2^p.bools.length:Nat):Int):=by simp
   rw[Int.toNat_natCast,Int.one_mul,e];generalize 2^p.bools.length=P2 at adn;exact wrap_i64 ⟨by omega,by omega⟩
  rw[hw]
 refine fL [] (fn:=Tryz.f135) Tryz.func135 rfl Tryz.ntmps135 rfl fun g w1 M1=>lq (ι:=Nat×Value×Value×List Rw×List (bJ×List Bool)) (fun(m,u1,u2,T,L)=>[(4,u1),(5,u2),(6,.int .i64 (m:Int))]) (fun(m,u1,u2,T,L)=>⟨u1,84,13,L.length,L.flatMap Oj⟩::⟨u2,40,1,L.length,T.map (·.v)⟩::T)
  (fun(m,u1,u2,T,L) _=>m≤p.trans.length∧(p.trans.take m).filterMap (wN p)=L∧T.length=L.length∧∀ (i:Nat) r z,T[i]?=some r→L[i]?=some z→r=⟨r.v,4,1,z.2.length,z.2.map Value.bool⟩) (fun(m,u1,u2,T,L)=>p.trans.length-m) (0,.slice none 0 0,.slice none 0 0,[],[])
  (an ⟨⟨rfl,rfl,rfl,trivial⟩,fun M=>⟨(M.bX 40 1).bX 84 13,atx _,rfl,rfl,fun i r z h=>by simp at h⟩⟩ ?_)
 rintro⟨m,u1,u2,T,L⟩ w M ⟨hm,hLd,SX,hT⟩;have hL:L.length≤m:=by rw[← hLd];exact aty (List.length_filterMap_le ..) (by simp;omega)
 refine lb 0<|an rfl<|an (fun h=>?_) fun h M=>?_
 ·simp only[decide_eq_true_eq] at h;obtain⟨y,hy⟩:∃ y,p.trans[m]?=some y:=⟨_,atH (by omega)⟩;have hky:=hk y (atG hy);obtain⟨b0,o0,rfl,hcell⟩:=SliceAt.elt hp.trans (f:=bJ.cells) (fun _=>rfl) (by decide) hy (by omega)
  have hnext:(p.trans.take (m+1)).filterMap (wN p)=L++(wN p y).toList:=by
   rw[List.take_add_one,hy,List.filterMap_append,hLd];cases hq:wN p y<;>simp[hq]
  refine lq (ι:=Nat×Value) (fun(k,v7)=>[(7,v7),(8,.bool (((j7 p y.cond).take k).any id)),(9,.int .i64 (k:Int))]) (fun(k,v7)=>⟨v7,4,1,k,((j7 p y.cond).take k).map Value.bool⟩::⟨u1,84,13,L.length,L.flatMap Oj⟩::⟨u2,40,1,L.length,T.map (·.v)⟩::T) (fun(k,v7) _=>k≤2^p.bools.length) (fun(k,v7)=>2^p.bools.length-k) (0,.slice none 0 0)
   (an ⟨⟨rfl,rfl,rfl,trivial⟩,fun M=>⟨M.bX 4 1,atx _⟩⟩ ?_)
  rintro⟨k,v7⟩ w M hk2;refine lb 0<|an rfl<|ei<|an (fun a w o ho hv=>agE a w o _ _ _ _ ho (qN hv) (yx hv))<|an (fun h2=>?_) fun h2=>?_
  ·simp only[decide_eq_true_eq] at h2;have hlt:k<2^p.bools.length:=by omega
   have hwk:(j7 p y.cond)[k]?=some (kU p.bools.length p.conds (rJ p.bools.length k) y.cond):=by
    unfold j7;rw[atF,List.getElem?_range hlt];rfl
   refine dr (by kernel_rfl)<|lb 0<|an rfl<|lb 0<|an rfl<|cr (fun u w=>fS w u (rJ p.bools.length k))<|an (vR _)<|an (fun w' hb' M'=>GW _ _ _ _ _ _ _ _ _ _ _ _ _ _ _ _ _ _ p k (hp.keep M'.below) (aty hS.bools (by decide)))<|lb 0<|an rfl<|ia<|an ⟨rfl,rfl,by omega⟩<|lc<|an (atJ M.below (hcell 12 _ rfl))<|cu<|an (fun u _ w' hb' M' hR=>uy w' _ _ _ _ _ _ _ _ _ _ _ _ _ _ _ _ _ u p _ y.cond (hp.keep M'.below) hR (aty hS.bools (by decide)) hS.conds hky) fun w2 hb2 M=>?_
   refine fun g3 w3 M=>ap 0 id rfl (M.slice 0 rfl rfl rfl (by simp[maxLen])) ⟨by unfold maxLen;omega,by omega⟩ fun v3 w4 M=>an (by omega)<|bk (k+1,v3) ⟨rfl,congrArg (fun b=>some (Value.bool b)) ?_,rfl,trivial⟩ (fun M=>⟨(M.only (.cons _ (.refl _)) (.refl _)).cast rfl ?_,by omega⟩) (by dsimp only;omega)
   ·rw[List.take_add_one,hwk];simp
   ·show _=(⟨v3,4,1,k+1,((j7 p y.cond).take (k+1)).map Value.bool⟩:Rw)::_;rw[List.take_add_one,hwk];simp
  ·simp only[decide_eq_false_iff_not] at h2;obtain rfl:k=2^p.bools.length:=by omega
   have htk:(j7 p y.cond).take (2^p.bools.length)=j7 p y.cond:=List.take_of_length_le (by rw[hwl];exact Nat.le_refl _);refine an (fun h3=>?_) fun h3=>?_
   ·rw[htk] at h3;have hO:wN p y=some ({ y with cond:=0 },j7 p y.cond):=if_pos h3;obtain⟨a7,k7,rfl,-⟩:=M.shape 0 rfl;refine lb 0<|an rfl<|ia<|an ⟨rfl,rfl,by omega⟩<|lc<|an (dJ M.below hcell)<|ei<|an NT fun g4 w5 M=>lb 0<|an ⟨rfl,rfl⟩ fun w6 M=>lb 0<|an ⟨rfl,rfl⟩ fun w7 M=>lb 0<|an rfl fun g5 w8 M=>ap 1 id rfl (M.slice 0 rfl rfl rfl (by simp[maxLen])) ⟨by unfold maxLen;omega,by omega⟩ fun u1' w9 M=>fun g6 xR M=>ap 2 id rfl (M.slice 0 rfl rfl rfl (by simp[maxLen])) ⟨by unfold maxLen;omega,by omega⟩ fun u2' JJ M=>an (by omega)<|bk (m+1,u1',u2',T++[⟨.slice a7 (2^p.bools.length) k7,4,1,2^p.bools.length,(j7 p y.cond).map Value.bool⟩],L++[({ y with cond:=0 },j7 p y.cond)]) ⟨rfl,rfl,rfl,trivial⟩ (fun M=>?_) (by dsimp only;omega)
    have hp:∀ a b c:Rw,(a::b::c::T).Perm (b::c::(T++[a])):=fun a b c=>by
     have h1:(a::(b::c::T)).Perm ((b::c::T)++[a]):=by simpa using List.perm_append_comm (l₁:=[a]) (l₂:=b::c::T)
     simpa using h1
    refine⟨((M.only (.cons _ (.cons _ (.cons _ (.refl _)))) (.refl _)).perm (hp _ _ _)).cast rfl ?_,by omega,by rw[hnext,hO];rfl,by simp[SX],fun i r z hr hz=>?_⟩
    ·simp only[List.flatMap_append,List.map_append,atB,List.length_singleton,htk];rfl
    ·by_cases hi:i<T.length
     ·rw[atz hi] at hr;rw[atz (SX▸hi)] at hz;exact hT i r z hr hz
     ·have hlen:=(atA.1 hr).1;rw[atB,List.length_singleton] at hlen;obtain rfl:i=T.length:=by omega
      rw[atC (Nat.le_refl _),Nat.sub_self] at hr;rw[SX,atC (Nat.le_refl _),Nat.sub_self] at hz;obtain rfl:=atD hr;obtain rfl:=atD hz;rw[hwl]
   ·rw[htk] at h3;have hO:wN p y=none:=if_neg (by rw[h3];decide);refine an (by omega)<|bk (m+1,u1,u2,T,L) ⟨rfl,rfl,rfl,trivial⟩ (fun M=>?_) (by dsimp only;omega);exact⟨M.only (.refl _) (.cons _ (.refl _)),by omega,by rw[hnext,hO];simp,SX,hT⟩
 ·simp only[decide_eq_false_iff_not] at h;obtain rfl:m=p.trans.length:=by omega
  rw[atS] at hLd;have hLt:L=gV p:=hLd.symm;rw[← hLt];refine⟨_,rfl,⟨_,_,rfl,⟨SliceAt.bM (M.r 0 rfl) (Rj _),T.map (·.v),by rw[List.length_map,SX],SliceAt.bM (M.r 1 rfl) ?_,fun i v z hv hz=>?_⟩⟩,M.below⟩
  ·intro x hx;obtain⟨r,hr,rfl⟩:=List.mem_map.1 hx;obtain⟨a,c,e,-⟩:=fI (M.row r (atE _ (atE _ hr)));rw[e];rfl
  ·rw[atF] at hv
   cases hr:T[i]? with
   | none=>rw[hr] at hv;cases hv
   | some r=>
    rw[hr] at hv;obtain rfl:=atD hv;have h1:=M.row r (atE _ (atE _ (atG hr)));rw[hT i r z hr hz] at h1;exact yY h1 rfl rfl
theorem lZ.get{w:World}{u1 u2:Value}{L:List (bJ×List Bool)}(h:lZ w u1 u2 L):∃ a c a' c',u1=.slice a L.length c∧u2=.slice a' L.length c'∧L.length≤9223372036854775807∧∀ (i:Nat) z,L[i]?=some z→∃ b off b' off' v,a=some ⟨b,off,none⟩∧(∀ j u,z.1.cells[j]?=some u→w.cell? ⟨b,off+i*13+j,none⟩=some u) ∧
 a'=some ⟨b',off',none⟩∧w.cell? ⟨b',off'+i*1,none⟩=some v∧fS w v z.2:=by
 obtain⟨vs,h1,h2,h3⟩:=h.wh;obtain⟨a,c,rfl,-,hm,-⟩:=h.tr.form (by decide);obtain⟨a',c',rfl,-,-,hc⟩:=h2.form (by decide);refine⟨a,c,a',c',rfl,rfl,hm,fun i z hz=>?_⟩;have hlt:=(atA.1 hz).1;obtain⟨b,off,rfl,hcz⟩:=h.tr.elt (f:=Oj) (fun _=>rfl) (by decide) hz hlt;obtain⟨b',off',rfl,hc'⟩:=hc i hlt;obtain⟨v,hv⟩:∃ v,vs[i]?=some v:=⟨_,atH (h1▸hlt)⟩;exact⟨b,off,b',off',v,rfl,hcz,rfl,hc' 0 _ (by simpa using hv),h3 i v z hv hz⟩
theorem xV(w0:World)(c0 c1 c2 c3 c4 c5 c6 c7 c8 c9 aW aP aO aU aT aS aR d0 d1 d2 d3 d4 d5 d6 d7 d8 d9 ru q_ q8 q7 q6 q5 qZ:Value)(p q:aG)(hp:aL w0 c0 c1 c2 c3 c4 c5 c6 c7 c8 c9 aW aP aO aU aT aS aR p)(hq:aL w0 d0 d1 d2 d3 d4 d5 d6 d7 d8 d9 ru q_ q8 q7 q6 q5 qZ q)(hS:LN p)(hS':LN q)(ht:p.trans.length≤1000)(ht':q.trans.length≤1000)(hk:∀ y∈p.trans,jq y.cond)(hk':∀ y∈q.trans,jq y.cond):
 Calls Tryz.prog 71 #[.agg #[c0,c1,c2,c3,c4,c5,c6,c7,c8,c9,aW,aP,aO,aU,aT,aS,aR],.agg #[d0,d1,d2,d3,d4,d5,d6,d7,d8,d9,ru,q_,q8,q7,q6,q5,qZ]] w0 fun x w'=>x=.returned (.bool (decide (gV p=gV q)))∧atv w0.heap.size w0 w':=by
 have no:gV p≠gV q→Ending.returned (kR [Value.bool false])=.returned (.bool (decide (gV p=gV q))):=fun h=>by rw[decide_eq_false h];rfl
 refine fL [] (fn:=Tryz.f71) Tryz.func71 rfl Tryz.ntmps71 rfl fun g1 w1 M1=>fun g2 w2 M2=>lb 1<|an rfl<|cg<|an (wM w2 _ _ _ _ _ _ _ _ _ _ _ _ _ _ _ _ _ p (hp.keep M2.below) hS ht hk) fun v w3 hR=>?_
 obtain⟨⟨u1,u2,rfl,hT⟩,Pw⟩:=hR;refine⟨_,_,M2.keep Pw,lb 0<|an rfl<|cg<|an (wM w3 _ _ _ _ _ _ _ _ _ _ _ _ _ _ _ _ _ q (hq.keep (M2.keep Pw).below) hS' ht' hk') fun v w4 hR=>?_⟩;obtain⟨⟨u3,u4,rfl,Wm⟩,hb4⟩:=hR;have hT:=hT.keep hb4;generalize gV p=a at *;generalize gV q=b at *;obtain⟨a1,k1,a2,k2,rfl,rfl,hml,-⟩:=hT.get;obtain⟨a3,k3,a4,k4,rfl,rfl,-,-⟩:=Wm.get;refine⟨_,_,(M2.keep Pw).keep hb4,an (fun h M=>⟨no fun e=>by rw[e] at h;simp at h,M.below⟩) fun h=>lr (ι:=Nat) (fun m=>[(9,.int .i64 (m:Int))]) (fun m w=>m≤a.length∧a.take m=b.take m∧lZ w (.slice a1 a.length k1) (.slice a2 a.length k2) a∧lZ w (.slice a3 b.length k3) (.slice a4 b.length k4) b) (fun m=>a.length-m) 0 (an ⟨⟨rfl,trivial⟩,fun M=>⟨M,atx _,rfl,hT,Wm⟩⟩ ?_)⟩;have hll:a.length=b.length:=Int.ofNat_inj.1 (by simpa using h);rintro m w M ⟨hm,ht,hT,Wm⟩;refine an (fun h2=>?_) fun h2 M=>⟨?_,M.below⟩
 ·simp only[decide_eq_true_eq] at h2;obtain⟨x,hx⟩:∃ x,a[m]?=some x:=⟨_,atH (by omega)⟩;obtain⟨y,hy⟩:∃ y,b[m]?=some y:=⟨_,atH (by omega)⟩
  obtain⟨b1,o1,b2,o2,v1,e1,hc1,e2,hv1,hs1⟩:∃ b off b' off' v,a1=some ⟨b,off,none⟩∧(∀ j u,x.1.cells[j]?=some u→w.cell? ⟨b,off+m*13+j,none⟩=some u)∧a2=some ⟨b',off',none⟩∧w.cell? ⟨b',off'+m*1,none⟩=some v∧fS w v x.2:=by
   obtain⟨_,_,_,_,e1,e2,-,hg⟩:=hT.get;injection e1 with e1;injection e2 with e2;subst e1 e2;exact hg m x hx
  obtain⟨b3,o3,b4,o4,v2,e3,hc2,e4,hv2,hs2⟩:∃ b off b' off' v,a3=some ⟨b,off,none⟩∧(∀ j u,y.1.cells[j]?=some u→w.cell? ⟨b,off+m*13+j,none⟩=some u)∧a4=some ⟨b',off',none⟩∧w.cell? ⟨b',off'+m*1,none⟩=some v∧fS w v y.2:=by
   obtain⟨_,_,_,_,e1,e2,-,hg⟩:=Wm.get;injection e1 with e1;injection e2 with e2;subst e1 e2;exact hg m y hy
  refine dr (by kernel_rfl)<|ia<|an ⟨e1,rfl,by omega⟩<|lc<|an hc1<|ia<|an ⟨e3,rfl,by omega⟩<|lc<|an hc2<|ei<|an ⟨aaj,fun w=>Tv x.1 y.1 w⟩<|ia<|an (fun _=>⟨e2,rfl,by omega⟩)<|lc (x:=v1)<|an (fun _=>hv1)<|ia<|an (fun _=>⟨e4,rfl,by omega⟩)<|lc (x:=v2)<|an (fun _=>hv2)<|cl<|an (fun _ w' hb' M'=>J6 w' v1 v2 _ _ (hs1.keep hb') (hs2.keep hb')) fun w5 hb5 M=>an (fun h3 M=>⟨no fun e=>?_,M.below⟩) fun h3=>an (by omega)<|bk (m+1) ⟨rfl,trivial⟩ (fun M=>⟨M,by omega,iW ht hx hy ?_,hT.keep hb5,Wm.keep hb5⟩) (by dsimp only;omega)
  ·subst e;rw[hx] at hy;obtain rfl:=atD hy;simp at h3
  ·have h4:x.1=y.1∧x.2=y.2:=by simpa using h3
   exact Prod.ext h4.1 h4.2
 ·simp only[decide_eq_false_iff_not] at h2;rw[decide_eq_true (oW ht hll (by omega))];rfl
def aq{α:Type}(p:α→α→Bool):List α→List α→Bool
 | [],[]=>true
 | x::l,y::r=>p x y&&aq p l r
 | _,_=>false
section
variable {α:Type} {p:α→α→Bool} {l1 l2:List α} {m:Nat} {x y:α}
theorem rY(h:¬ l1.length=l2.length):false=aq p l1 l2:=by
 induction l1 generalizing l2 with
 | nil=>cases l2 with
  | nil=>exact absurd rfl h
  | cons y r=>rfl
 | cons x l ih=>cases l2 with
  | nil=>rfl
  | cons y r=>rw[aq,← ih (fun e=>h (by rw[List.length_cons,List.length_cons,e])),Bool.and_false]
theorem NH(hx:l1[m]?=some x)(hy:l2[m]?=some y):aq p (l1.drop m) (l2.drop m)=(p x y&&aq p (l1.drop (m+1)) (l2.drop (m+1))):=by
 rw[List.drop_eq_getElem_cons (atA.1 hx).1,(atA.1 hx).2,List.drop_eq_getElem_cons (atA.1 hy).1,(atA.1 hy).2,aq]
theorem IY(hx:l1[m]?=some x)(hy:l2[m]?=some y)(h:aq p l1 l2=aq p (l1.drop m) (l2.drop m))(hq:p x y=false):false=aq p l1 l2:=by
 rw[h,NH hx hy,hq];rfl
theorem IX(hx:l1[m]?=some x)(hy:l2[m]?=some y)(h:aq p l1 l2=aq p (l1.drop m) (l2.drop m))(hq:p x y=true):aq p l1 l2=aq p (l1.drop (m+1)) (l2.drop (m+1)):=by
 rw[h,NH hx hy,hq];rfl
theorem A0(hm:m=l1.length)(hl:l1.length=l2.length)(h:aq p l1 l2=aq p (l1.drop m) (l2.drop m)):true=aq p l1 l2:=by
 subst hm;rw[h,List.drop_length,hl,List.drop_length];rfl
end
mutual
def dI:aA→aA→Bool
 | .node op a rel b names set kids,y=>(((((decide (op=y.op)&&decide (a=y.a))&&decide (rel=y.rel))&&decide (b=y.b))&&decide (set=y.set))&&decide (names=y.names))&&mo kids y.kids
def mo:List aA→List aA→Bool
 | [],[]=>true
 | x::l,y::r=>dI x y&&mo l r
 | [],_::_=>false
 | _::_,[]=>false
end
theorem Cq:∀ l r:List aA,mo l r=aq dI l r
 | [],[]=>by rw[mo];rfl
 | x::l,y::r=>by rw[mo,Cq l r];rfl
 | [],_::_=>by rw[mo];rfl
 | _::_,[]=>by rw[mo];rfl
theorem zJ(x y:aA):dI x y=((((((decide (x.op=y.op)&&decide (x.a=y.a))&&decide (x.rel=y.rel))&&decide (x.b=y.b))&&decide (x.set=y.set))&&decide (x.names=y.names))&&aq dI x.kids y.kids):=by
 cases x;rw[dI,Cq];rfl
theorem AB(x y:au)(w:World):(Op.equalIn 10000 54 (.agg #[.int .u64 x.a,.int .u64 x.b,.int .u64 x.c,.int .u64 x.d]) (.agg #[.int .u64 y.a,.int .u64 y.b,.int .u64 y.c,.int .u64 y.d])).run Tryz.prog w=.ok (decide (x=y)) w:=by
 rw[show(10000:Nat)=9998+2 from rfl,lu];congr 1;rw[atL];obtain⟨x_a,x_b,x_c,x_d⟩:=x;obtain⟨y_a,y_b,y_c,y_d⟩:=y;simp only[decide_eq_true_eq,au.mk.injEq,Int.natCast_inj]
theorem qX(w0:World)(v1 v2:Value)(l1 l2:List aA)(h1:lF w0 v1 l1)(h2:lF w0 v2 l2)(hF:∀ x∈l1,∀ (y:aA) (w:World) (cx cy:List Value),bB w cx x→bB w cy y→Calls Tryz.prog 138 #[.agg cx.toArray,.agg cy.toArray] w fun r w'=>r=.returned (.bool (dI x y))∧atv w.heap.size w w'):Calls Tryz.prog 140 #[v1,v2,.func (.func 138) #[] #[]] w0 (fun(r:Ending) (w':World)=>r=.returned (.bool (aq dI l1 l2))∧atv w0.heap.size w0 w'):=by
 obtain⟨Jc,Jb,rfl,hk1,hm1,nP⟩:=aC.form h1 (by decide);obtain⟨KR,KI,rfl,hk2,hm2,nO⟩:=aC.form h2 (by decide);have aM:=hr1 Tryz.prog Tryz.f140 (fun(r:Ending) (w':World)=>r=.returned (.bool (aq dI l1 l2))∧atv w0.heap.size w0 w') 32 6 rfl;refine en Tryz.func140 rfl Tryz.ntmps140 rfl (vs:=[.slice Jc l1.length Jb,.slice KR l2.length KI,.func (.func 138) #[] #[]]) rfl fun _ F=>?_
 have M:=Mm.start w0;refine atO fun K1 dw=>ah<|xA (v:=.bool false) F rf rf rf fun _ F=>atP<|dw _ _ ?_
 refine atO fun K2 cQ=>atO fun K3 fJ=>ah<|xM F rf rf rf fun _ F=>kz F rf (bA rfl (F.u rf) sM) fun _ F=>xM F rf rf rf fun _ F=>kz F rf (bA rfl (F.u rf) sM) fun _ F=>kz F rf (qY rfl (F.u rf) (F.u rf)) fun _ F=>atP<|fJ _ _ ?_
 refine atQ (F.e 14 rfl) (fun hc1=>?_) (fun hc1=>?_)
 ·have hd2:=of_decide_eq_false (show decide ((l1.length:Int)=(l2.length:Int))=false by simpa using hc1);have XG:(decide ((l1.length:Int)=(l2.length:Int)))=false:=by simpa using hc1
  refine atO fun K4 fQ=>ah<|xA (v:=.bool false) F rf rf rf fun _ F=>atP<|fQ _ _ ?_
  refine wp_ret<|aM _ _ _ _ F rfl ?_;exact⟨ay (rY (by have h:=hc1;simp at h;omega)),M.below⟩
 ·have BH:=of_decide_eq_true (show decide ((l1.length:Int)=(l2.length:Int))=true by simpa using hc1);have Uy:(decide ((l1.length:Int)=(l2.length:Int)))=true:=by simpa using hc1
  refine wp_skip<|cQ _ _ ?_;refine atO fun K5 gL=>atO fun K6 iC=>?_
  have hll:l1.length=l2.length:=by have h:=hc1;simp at h;omega
  refine ah<|xM F rf rf rf fun _ F=>kz F rf (bA rfl (F.u rf) sM) fun _ F=>xM (v:=.int .i64 0) F rf rf rf fun _ F=>atP<|iC _ _ ?_
  refine atT<|?_;refine bV (ι:=Nat) (fun m a w=>Fs a 32 [(1,.slice KR l2.length KI),(2,.func (.func 138) #[] #[]),(15,.slice Jc l1.length Jb),(16,.int .i64 (l1.length:Int)),(17,.int .i64 (m:Int))]∧Mm w0 w [] []∧m≤l1.length∧aq dI l1 l2=aq dI (l1.drop m) (l2.drop m)) (fun m=>l1.length-m) 0 ⟨F.sub ⟨rfl,rfl,rfl,rfl,rfl,trivial⟩,M,atx _,rfl⟩ ?_
  (repeat clear F);(repeat clear M)
  rintro m _ _ ⟨F,M,hm,hI⟩;refine atO fun K7 iO=>ah<|kz F rf (d_ rfl (F.u rf) (F.u rf)) fun _ F=>atP<|iO _ _ ?_
  refine atO fun K8 jf=>?_
  refine atQ (F.e 18 rfl) (fun je=>?_) (fun je=>?_)
  ·have QA:=of_decide_eq_true je;refine wp_skip<|jf _ _ ?_;refine atO fun K9 jW=>atT<|atO fun Bh dU=>?_
   have BF:m<l1.length:=by omega
   have hlt2:m<l2.length:=by omega
   obtain⟨x,hx⟩:∃ x,l1[m]?=some x:=⟨_,atH BF⟩;obtain⟨b1,o1,cs1,rfl,D_,-,hr1⟩:=nP m x hx;have hE1:=D_;obtain⟨_,_,rfl,D9,Zx⟩:=D_.open;obtain⟨KE,Ky,rfl,-⟩:=SliceAt.form D9 (by decide);obtain⟨VR,Y8,rfl,-⟩:=aC.form Zx (by decide);have hr1:∀ j uu,[.int .i64 x.op,.int .i64 x.a,.int .i64 x.rel,.int .i64 x.b,.slice KE x.names.length Ky,.int .u64 x.set.a,.int .u64 x.set.b,.int .u64 x.set.c,.int .u64 x.set.d,.slice VR x.kids.length Y8][j]?=some uu→w0.cell? ⟨b1,o1+m*10+j,none⟩=some uu:=hr1;obtain⟨y,hy⟩:∃ y,l2[m]?=some y:=⟨_,atH hlt2⟩;obtain⟨b2,o2,cs2,rfl,he2,-,qB⟩:=nO m y hy;have hE2:=he2;obtain⟨_,_,rfl,D8,Zw⟩:=he2.open;obtain⟨KD,Kx,rfl,-⟩:=SliceAt.form D8 (by decide);obtain⟨Zb,Y7,rfl,-⟩:=aC.form Zw (by decide);have qB:∀ j uu,[.int .i64 y.op,.int .i64 y.a,.int .i64 y.rel,.int .i64 y.b,.slice KD y.names.length Kx,.int .u64 y.set.a,.int .u64 y.set.b,.int .u64 y.set.c,.int .u64 y.set.d,.slice Zb y.kids.length Y7][j]?=some uu→w0.cell? ⟨b2,o2+m*10+j,none⟩=some uu:=qB
   refine ah<|xM F rf rf rf fun _ F=>
    kz F rf (aK (i:=m) rfl (F.u rf) (F.u rf) (by omega) sM eG) fun _ F=>
    kz F rf (bT [.int .i64 x.op,.int .i64 x.a,.int .i64 x.rel,.int .i64 x.b,.slice KE x.names.length Ky,.int .u64 x.set.a,.int .u64 x.set.b,.int .u64 x.set.c,.int .u64 x.set.d,.slice VR x.kids.length Y8] rfl (F.u rf) j9 rfl eG (dJ M.below hr1)) fun _ F=>
    sF (on rfl) rfl xH rfl F rfl M fun g8 _ _ F M=>
    xA F rf rf rf fun _ F=>
    sE (on rfl) rfl (F.u rf) (F.u rf) F M 0 rfl eG rfl rfl rfl fun _ M=>
    atP<|
    dU _ _ ?_
   refine atO fun I8 gj=>ah<|xM F rf rf rf fun _ F=>xM F rf rf rf fun _ F=>
    kz F rf (aK (i:=m) rfl (F.u rf) (F.u rf) (by omega) sM eG) fun _ F=>
    kz F rf (bT [.int .i64 y.op,.int .i64 y.a,.int .i64 y.rel,.int .i64 y.b,.slice KD y.names.length Kx,.int .u64 y.set.a,.int .u64 y.set.b,.int .u64 y.set.c,.int .u64 y.set.d,.slice Zb y.kids.length Y7] rfl (F.u rf) j9 rfl eG (dJ M.below qB)) fun _ F=>
    sF (on rfl) rfl xH rfl F rfl M fun g9 _ _ F M=>
    sE (on rfl) rfl (F.u rf) (F.u rf) F M 0 rfl eG rfl rfl rfl fun _ M=>
    atP<|
    gj _ _ ?_
   refine atO fun I7 fT=>ah<|xM F rf rf rf fun _ F=>xW F (M.b 1 rfl) rf rf rf j9 rf eG rf fun _ F=>xW F (M.b 0 rfl) rf rf rf j9 rf eG rf fun _ F=>
    kc (on rfl) (lW rfl (F.u rf) Tryz.func138 (by kernel_rfl) rfl (args:=#[.agg #[.int .i64 x.op,.int .i64 x.a,.int .i64 x.rel,.int .i64 x.b,.slice KE x.names.length Ky,.int .u64 x.set.a,.int .u64 x.set.b,.int .u64 x.set.c,.int .u64 x.set.d,.slice VR x.kids.length Y8],.agg #[.int .i64 y.op,.int .i64 y.a,.int .i64 y.rel,.int .i64 y.b,.slice KD y.names.length Kx,.int .u64 y.set.a,.int .u64 y.set.b,.int .u64 y.set.c,.int .u64 y.set.d,.slice Zb y.kids.length Y7]]) (by simp[(F.e 27 rfl),(F.e 28 rfl)])) (hF x (atG hx) y _ _ _ (hE1.keep M.below) (hE2.keep M.below)) rfl F rfl M fun _ _ F M=>
    kz F rf (jS rfl (F.u rf)) fun _ F=>
    atP<|
    fT _ _ ?_
   refine atQ (F.e 30 rfl) (fun jt=>?_) (fun jt=>?_)
   ·have Hx:(dI x y)=false:=by simpa using jt
    have tP:dI x y=false:=by
     have h:=jt;simpa using h
    refine atO fun Jh gM=>ah<|xA (v:=.bool false) F rf rf rf fun _ F=>atP<|gM _ _ ?_
    refine wp_ret<|aM _ _ _ _ F rfl ?_;exact⟨ay (IY hx hy hI tP),M.below⟩
   ·have vV:(dI x y)=true:=by simpa using jt
    have tP:dI x y=true:=by
     have h:=jt;simpa using h
    refine wp_skip<|jW _ _ ?_
    refine ah<|
     ke (on rfl) (cL rfl (F.u rf) rfl) rfl F rfl (congrArg (Value.int .i64) (wrap_i64 (by omega))) fun _ F=>
     xM F rf rf rf fun _ F=>
     atP<|?_
    exact⟨m+1,⟨F.sub ⟨rfl,rfl,rfl,rfl,rfl,trivial⟩,(M.only (.cons _ (.cons _ .slnil)) .slnil),by omega,IX hx hy hI tP⟩,by show l1.length-(m+1)<l1.length-m;omega⟩
  ·have Pt:=of_decide_eq_false je;refine wp_exit<|gL _ _ ?_;refine atO fun NR jg=>ah<|xA (v:=.bool true) F rf rf rf fun _ F=>atP<|jg _ _ ?_
   refine wp_ret<|aM _ _ _ _ F rfl ?_;exact⟨ay (A0 (by omega) hll hI),M.below⟩
theorem sW:∀ (x y:aA) (w0:World) (cx cy:List Value),bB w0 cx x→bB w0 cy y→Calls Tryz.prog 138 #[.agg cx.toArray,.agg cy.toArray] w0 (fun(r:Ending) (w':World)=>r=.returned (.bool (dI x y))∧atv w0.heap.size w0 w'):=by
 refine aA.ind fun x ih=>?_
 intro y w0 cx cy hx hy;obtain⟨vK,G9,rfl,hn1,hk1⟩:=hx.open;obtain⟨BD,Si,rfl,hn2,hk2⟩:=hy.open;have aM:=hr1 Tryz.prog Tryz.f138 (fun(r:Ending) (w':World)=>r=.returned (.bool (dI x y))∧atv w0.heap.size w0 w') 52 4 rfl;refine en Tryz.func138 rfl Tryz.ntmps138 rfl (vs:=[.agg #[.int .i64 x.op,.int .i64 x.a,.int .i64 x.rel,.int .i64 x.b,vK,.int .u64 x.set.a,.int .u64 x.set.b,.int .u64 x.set.c,.int .u64 x.set.d,G9],.agg #[.int .i64 y.op,.int .i64 y.a,.int .i64 y.rel,.int .i64 y.b,BD,.int .u64 y.set.a,.int .u64 y.set.b,.int .u64 y.set.c,.int .u64 y.set.d,Si]]) rfl fun _ F=>?_
 have M:=Mm.start w0;refine atO fun K1 dw=>ah<|oG (on rfl) rfl (F.u rf) rfl F rfl M fun g1 _ _ F M=>oG (on rfl) rfl (F.u rf) rfl F rfl M fun g2 _ _ F M=>xA (v:=.bool false) F rf rf rf fun _ F=>atP<|dw _ _ ?_
 refine atO fun K2 cQ=>ah<|xF 0 F rf rf rf j9 rf Bn rf fun _ F=>xL F (M.b 1 rfl) rf rf rf u3 rf rf fun _ F=>xF 0 F rf rf rf j9 rf Bn rf fun _ F=>xL F (M.b 0 rfl) rf rf rf u3 rf rf fun _ F=>kz F rf (eX rfl (F.u rf) (F.u rf)) fun _ F=>xM F rf rf rf fun _ F=>bU (x:=.pointer (some ⟨g1,1,none⟩)) rfl rfl (F.g 10 rfl) (bt _) (fun ge=>(aI rfl (F.u rf) j9 rfl Bn)) rfl F rfl rfl fun _ F=>bU (x:=.int .i64 x.a) rfl rfl (F.g 10 rfl) (bt _) (fun ge=>(aD rfl ((F.g 11 rfl).on ge).ev u3 rfl ((M.b 1 rfl).c1 1))) rfl F rfl rfl fun _ F=>bU (x:=.pointer (some ⟨g2,1,none⟩)) rfl rfl (F.g 10 rfl) (bt _) (fun ge=>(aI rfl (F.u rf) j9 rfl Bn)) rfl F rfl rfl fun _ F=>bU (x:=.int .i64 y.a) rfl rfl (F.g 10 rfl) (bt _) (fun ge=>(aD rfl ((F.g 13 rfl).on ge).ev u3 rfl ((M.b 0 rfl).c1 1))) rfl F rfl rfl fun _ F=>bU (x:=.bool (decide (x.a=y.a))) rfl rfl (F.g 10 rfl) (bt _) (fun ge=>(eX rfl ((F.g 12 rfl).on ge).ev ((F.g 14 rfl).on ge).ev)) rfl F rfl rfl fun _ F=>kz F rf (rq (bq rfl (F.u rf) (F.u rf) rfl) (qH _ _)) fun _ F=>xM F rf rf rf fun _ F=>bU (x:=.pointer (some ⟨g1,2,none⟩)) rfl rfl (F.g 17 rfl) (bt _) (fun ge=>(aI rfl (F.u rf) j9 rfl Bn)) rfl F rfl rfl fun _ F=>bU (x:=.int .i64 x.rel) rfl rfl (F.g 17 rfl) (bt _) (fun ge=>(aD rfl ((F.g 18 rfl).on ge).ev u3 rfl ((M.b 1 rfl).c1 2))) rfl F rfl rfl fun _ F=>bU (x:=.pointer (some ⟨g2,2,none⟩)) rfl rfl (F.g 17 rfl) (bt _) (fun ge=>(aI rfl (F.u rf) j9 rfl Bn)) rfl F rfl rfl fun _ F=>bU (x:=.int .i64 y.rel) rfl rfl (F.g 17 rfl) (bt _) (fun ge=>(aD rfl ((F.g 20 rfl).on ge).ev u3 rfl ((M.b 0 rfl).c1 2))) rfl F rfl rfl fun _ F=>bU (x:=.bool (decide (x.rel=y.rel))) rfl rfl (F.g 17 rfl) (bt _) (fun ge=>(eX rfl ((F.g 19 rfl).on ge).ev ((F.g 21 rfl).on ge).ev)) rfl F rfl rfl fun _ F=>kz F rf (rq (bq rfl (F.u rf) (F.u rf) rfl) (qH _ _)) fun _ F=>xM F rf rf rf fun _ F=>bU (x:=.pointer (some ⟨g1,3,none⟩)) rfl rfl (F.g 24 rfl) (bt _) (fun ge=>(aI rfl (F.u rf) j9 rfl Bn)) rfl F rfl rfl fun _ F=>bU (x:=.int .i64 x.b) rfl rfl (F.g 24 rfl) (bt _) (fun ge=>(aD rfl ((F.g 25 rfl).on ge).ev u3 rfl ((M.b 1 rfl).c1 3))) rfl F rfl rfl fun _ F=>bU (x:=.pointer (some ⟨g2,3,none⟩)) rfl rfl (F.g 24 rfl) (bt _) (fun ge=>(aI rfl (F.u rf) j9 rfl Bn)) rfl F rfl rfl fun _ F=>bU (x:=.int .i64 y.b) rfl rfl (F.g 24 rfl) (bt _) (fun ge=>(aD rfl ((F.g 27 rfl).on ge).ev u3 rfl ((M.b 0 rfl).c1 3))) rfl F rfl rfl fun _ F=>bU (x:=.bool (decide (x.b=y.b))) rfl rfl (F.g 24 rfl) (bt _) (fun ge=>(eX rfl ((F.g 26 rfl).on ge).ev ((F.g 28 rfl).on ge).ev)) rfl F rfl rfl fun _ F=>kz F rf (rq (bq rfl (F.u rf) (F.u rf) rfl) (qH _ _)) fun _ F=>xM F rf rf rf fun _ F=>bU (x:=.pointer (some ⟨g1,5,none⟩)) rfl rfl (F.g 31 rfl) (bt _) (fun ge=>(aI rfl (F.u rf) j9 rfl zB)) rfl F rfl rfl fun _ F=>bU (x:=.agg #[.int .u64 x.set.a,.int .u64 x.set.b,.int .u64 x.set.c,.int .u64 x.set.d]) rfl rfl (F.g 31 rfl) (bt _) (fun ge=>(bT [.int .u64 x.set.a,.int .u64 x.set.b,.int .u64 x.set.c,.int .u64 x.set.d] rfl ((F.g 32 rfl).on ge).ev Xe rfl zB (fU (M.b 1 rfl) rfl))) rfl F rfl rfl fun _ F=>bU (x:=.pointer (some ⟨g2,5,none⟩)) rfl rfl (F.g 31 rfl) (bt _) (fun ge=>(aI rfl (F.u rf) j9 rfl zB)) rfl F rfl rfl fun _ F=>bU (x:=.agg #[.int .u64 y.set.a,.int .u64 y.set.b,.int .u64 y.set.c,.int .u64 y.set.d]) rfl rfl (F.g 31 rfl) (bt _) (fun ge=>(bT [.int .u64 y.set.a,.int .u64 y.set.b,.int .u64 y.set.c,.int .u64 y.set.d] rfl ((F.g 34 rfl).on ge).ev Xe rfl zB (fU (M.b 0 rfl) rfl))) rfl F rfl rfl fun _ F=>bU (x:=.bool (decide (x.set=y.set))) rfl rfl (F.g 31 rfl) (bt _) (fun ge=>(TU rfl ((F.g 33 rfl).on ge).ev ((F.g 35 rfl).on ge).ev AJ (AB x.set y.set _))) rfl F rfl rfl fun _ F=>kz F rf (rq (bq rfl (F.u rf) (F.u rf) rfl) (qH _ _)) fun _ F=>xM F rf rf rf fun _ F=>bU (x:=.pointer (some ⟨g1,4,none⟩)) rfl rfl (F.g 38 rfl) (bt _) (fun ge=>(aI rfl (F.u rf) j9 rfl sQ)) rfl F rfl rfl fun _ F=>bU (x:=vK) rfl rfl (F.g 38 rfl) (bt _) (fun ge=>(aD rfl ((F.g 39 rfl).on ge).ev Dv rfl ((M.b 1 rfl).c1 4))) rfl F rfl rfl fun _ F=>bU (x:=.pointer (some ⟨g2,4,none⟩)) rfl rfl (F.g 38 rfl) (bt _) (fun ge=>(aI rfl (F.u rf) j9 rfl sQ)) rfl F rfl rfl fun _ F=>bU (x:=BD) rfl rfl (F.g 38 rfl) (bt _) (fun ge=>(aD rfl ((F.g 41 rfl).on ge).ev Dv rfl ((M.b 0 rfl).c1 4))) rfl F rfl rfl fun _ F=>k_ rfl rfl (F.g 38 rfl) (bt _) (fun ge=>(bw rfl Tryz.func213 GY rfl (args2 ((F.g 40 rfl).on ge).ev ((F.g 42 rfl).on ge).ev))) (fun ge=>jh _ _ _ x.names y.names (hn1.keep M.below) (hn2.keep M.below)) rfl F rfl M fun _ _ F M=>kz F rf (rq (bq rfl (F.u rf) (F.u rf) rfl) (qH _ _)) fun _ F=>xM F rf rf rf fun _ F=>bU (x:=.pointer (some ⟨g1,9,none⟩)) rfl rfl (F.g 45 rfl) (bt _) (fun ge=>(aI rfl (F.u rf) j9 rfl qG)) rfl F rfl rfl fun _ F=>bU (x:=G9) rfl rfl (F.g 45 rfl) (bt _) (fun ge=>(aD rfl ((F.g 46 rfl).on ge).ev sM rfl ((M.b 1 rfl).c1 9))) rfl F rfl rfl fun _ F=>bU (x:=.pointer (some ⟨g2,9,none⟩)) rfl rfl (F.g 45 rfl) (bt _) (fun ge=>(aI rfl (F.u rf) j9 rfl qG)) rfl F rfl rfl fun _ F=>bU (x:=Si) rfl rfl (F.g 45 rfl) (bt _) (fun ge=>(aD rfl ((F.g 48 rfl).on ge).ev sM rfl ((M.b 0 rfl).c1 9))) rfl F rfl rfl fun _ F=>k_ rfl rfl (F.g 45 rfl) (bt _) (fun ge=>(bw rfl Tryz.func140 Xw rfl (A8 ((F.g 47 rfl).on ge).ev ((F.g 49 rfl).on ge).ev rfl))) (fun ge=>qX _ _ _ x.kids y.kids (lF.keep hk1 M.below) (lF.keep hk2 M.below) fun k hk z w cx cy hx hy=>ih k hk z w cx cy hx hy) rfl F rfl M fun _ _ F M=>kz F rf (rq (bq rfl (F.u rf) (F.u rf) rfl) (qH _ _)) fun _ F=>xA F rf rf rf fun _ F=>atP<|cQ _ _ ?_
 refine wp_ret<|aM _ _ _ _ F rfl ?_;exact⟨ay (zJ x y).symm,M.below⟩
theorem TS{P:Program}{a:Act}{w:World}{o:Oper}{ty yt:TypeId}{x y:Operand}{s t:Bool}(ho:o.op=.binOp .eql ty x y yt)(hx:a.eval x=.bool s)(hy:a.eval y=.bool t)(hu:P.underlying ty=some .bool):(execOp a.eval o).run P w=.ok (.value (.bool (s == t))) w:=by
 unfold execOp;simp[ho,hx,hy,eqGuard,binOp,run_equal_bool w ty s t hu]
def iJ(x y:lG):Bool:=(x.name.toList == y.name.toList)&&decide (x.perms=y.perms)
def iZ(x y:lI):Bool:=((x.name.toList == y.name.toList)&&(x.perm == y.perm))&&decide (x.lY=y.lY)
def j_(x y:oh):Bool:=((decide (x.cls=y.cls)&&decide (x.perms=y.perms))&&(x.val == y.val))&&dI x.expr y.expr
theorem OC(w0:World)(x y:lG)(vK BD:Value)(hn1:bp w0 vK x.perms)(hn2:bp w0 BD y.perms):Calls Tryz.prog 214 #[.agg #[.string x.name,vK],.agg #[.string y.name,BD]] w0 (fun(r:Ending) (w':World)=>r=.returned (.bool (iJ x y))∧atv w0.heap.size w0 w'):=by
 have aM:=hr1 Tryz.prog Tryz.f214 (fun(r:Ending) (w':World)=>r=.returned (.bool (iJ x y))∧atv w0.heap.size w0 w') 17 4 rfl;refine en Tryz.func214 rfl Tryz.ntmps214 rfl (vs:=[.agg #[.string x.name,vK],.agg #[.string y.name,BD]]) rfl fun _ F=>?_
 have M:=Mm.start w0;refine atO fun K1 dw=>ah<|oG (on rfl) rfl (F.u rf) rfl F rfl M fun g1 _ _ F M=>oG (on rfl) rfl (F.u rf) rfl F rfl M fun g2 _ _ F M=>xA (v:=.bool false) F rf rf rf fun _ F=>atP<|dw _ _ ?_
 refine atO fun K2 cQ=>ah<|xF 0 F rf rf rf Gc rf sz9 rf fun _ F=>xL F (M.b 1 rfl) rf rf rf u9 rf rf fun _ F=>xF 0 F rf rf rf Gc rf sz9 rf fun _ F=>xL F (M.b 0 rfl) rf rf rf u9 rf rf fun _ F=>kz F rf (cA rfl (F.u rf) (F.u rf)) fun _ F=>xM F rf rf rf fun _ F=>bU (x:=.pointer (some ⟨g1,1,none⟩)) rfl rfl (F.g 10 rfl) (bt _) (fun ge=>(aI rfl (F.u rf) Gc rfl sQ)) rfl F rfl rfl fun _ F=>bU (x:=vK) rfl rfl (F.g 10 rfl) (bt _) (fun ge=>(aD rfl ((F.g 11 rfl).on ge).ev Dv rfl ((M.b 1 rfl).c1 1))) rfl F rfl rfl fun _ F=>bU (x:=.pointer (some ⟨g2,1,none⟩)) rfl rfl (F.g 10 rfl) (bt _) (fun ge=>(aI rfl (F.u rf) Gc rfl sQ)) rfl F rfl rfl fun _ F=>bU (x:=BD) rfl rfl (F.g 10 rfl) (bt _) (fun ge=>(aD rfl ((F.g 13 rfl).on ge).ev Dv rfl ((M.b 0 rfl).c1 1))) rfl F rfl rfl fun _ F=>k_ rfl rfl (F.g 10 rfl) (bt _) (fun ge=>(bw rfl Tryz.func213 GY rfl (args2 ((F.g 12 rfl).on ge).ev ((F.g 14 rfl).on ge).ev))) (fun ge=>jh _ _ _ x.perms y.perms (hn1.keep M.below) (hn2.keep M.below)) rfl F rfl M fun _ _ F M=>kz F rf (rq (bq rfl (F.u rf) (F.u rf) rfl) (qH _ _)) fun _ F=>xA F rf rf rf fun _ F=>atP<|cQ _ _ ?_
 refine wp_ret<|aM _ _ _ _ F rfl ?_;exact⟨rfl,M.below⟩
theorem BM(w0:World)(v1 v2:Value)(l1 l2:List lG)(h1:aC 2 (qm w0) w0 v1 l1)(h2:aC 2 (qm w0) w0 v2 l2):Calls Tryz.prog 216 #[v1,v2,.func (.func 214) #[] #[]] w0 (fun(r:Ending) (w':World)=>r=.returned (.bool (aq iJ l1 l2))∧atv w0.heap.size w0 w'):=by
 obtain⟨Jc,Jb,rfl,hk1,hm1,nP⟩:=aC.form h1 (by decide);obtain⟨KR,KI,rfl,hk2,hm2,nO⟩:=aC.form h2 (by decide);have aM:=hr1 Tryz.prog Tryz.f216 (fun(r:Ending) (w':World)=>r=.returned (.bool (aq iJ l1 l2))∧atv w0.heap.size w0 w') 32 6 rfl;refine en Tryz.func216 rfl Tryz.ntmps216 rfl (vs:=[.slice Jc l1.length Jb,.slice KR l2.length KI,.func (.func 214) #[] #[]]) rfl fun _ F=>?_
 have M:=Mm.start w0;refine atO fun K1 dw=>ah<|xA (v:=.bool false) F rf rf rf fun _ F=>atP<|dw _ _ ?_
 refine atO fun K2 cQ=>atO fun K3 fJ=>ah<|xM F rf rf rf fun _ F=>kz F rf (bA rfl (F.u rf) u22) fun _ F=>xM F rf rf rf fun _ F=>kz F rf (bA rfl (F.u rf) u22) fun _ F=>kz F rf (qY rfl (F.u rf) (F.u rf)) fun _ F=>atP<|fJ _ _ ?_
 refine atQ (F.e 14 rfl) (fun hc1=>?_) (fun hc1=>?_)
 ·have hd2:=of_decide_eq_false (show decide ((l1.length:Int)=(l2.length:Int))=false by simpa using hc1);have XG:(decide ((l1.length:Int)=(l2.length:Int)))=false:=by simpa using hc1
  refine atO fun K4 fQ=>ah<|xA (v:=.bool false) F rf rf rf fun _ F=>atP<|fQ _ _ ?_
  refine wp_ret<|aM _ _ _ _ F rfl ?_;exact⟨ay (rY (by have h:=hc1;simp at h;omega)),M.below⟩
 ·have BH:=of_decide_eq_true (show decide ((l1.length:Int)=(l2.length:Int))=true by simpa using hc1);have Uy:(decide ((l1.length:Int)=(l2.length:Int)))=true:=by simpa using hc1
  refine wp_skip<|cQ _ _ ?_;refine atO fun K5 gL=>atO fun K6 iC=>?_
  have hll:l1.length=l2.length:=by have h:=hc1;simp at h;omega
  refine ah<|xM F rf rf rf fun _ F=>kz F rf (bA rfl (F.u rf) u22) fun _ F=>xM (v:=.int .i64 0) F rf rf rf fun _ F=>atP<|iC _ _ ?_
  refine atT<|?_;refine bV (ι:=Nat) (fun m a w=>Fs a 32 [(1,.slice KR l2.length KI),(2,.func (.func 214) #[] #[]),(15,.slice Jc l1.length Jb),(16,.int .i64 (l1.length:Int)),(17,.int .i64 (m:Int))]∧Mm w0 w [] []∧m≤l1.length∧aq iJ l1 l2=aq iJ (l1.drop m) (l2.drop m)) (fun m=>l1.length-m) 0 ⟨F.sub ⟨rfl,rfl,rfl,rfl,rfl,trivial⟩,M,atx _,rfl⟩ ?_
  (repeat clear F);(repeat clear M)
  rintro m _ _ ⟨F,M,hm,hI⟩;refine atO fun K7 iO=>ah<|kz F rf (d_ rfl (F.u rf) (F.u rf)) fun _ F=>atP<|iO _ _ ?_
  refine atO fun K8 jf=>?_
  refine atQ (F.e 18 rfl) (fun je=>?_) (fun je=>?_)
  ·have QA:=of_decide_eq_true je;refine wp_skip<|jf _ _ ?_;refine atO fun K9 jW=>atT<|atO fun Bh dU=>?_
   have BF:m<l1.length:=by omega
   have hlt2:m<l2.length:=by omega
   obtain⟨x,hx⟩:∃ x,l1[m]?=some x:=⟨_,atH BF⟩;obtain⟨b1,o1,cs1,rfl,D_,-,hr1⟩:=nP m x hx;obtain⟨_,rfl,D9⟩:=D_;obtain⟨KE,Ky,rfl,-⟩:=SliceAt.form D9 (by decide);have hr1:∀ j uu,[.string x.name,.slice KE x.perms.length Ky][j]?=some uu→w0.cell? ⟨b1,o1+m*2+j,none⟩=some uu:=hr1;obtain⟨y,hy⟩:∃ y,l2[m]?=some y:=⟨_,atH hlt2⟩;obtain⟨b2,o2,cs2,rfl,he2,-,qB⟩:=nO m y hy;obtain⟨_,rfl,D8⟩:=he2;obtain⟨KD,Kx,rfl,-⟩:=SliceAt.form D8 (by decide);have qB:∀ j uu,[.string y.name,.slice KD y.perms.length Kx][j]?=some uu→w0.cell? ⟨b2,o2+m*2+j,none⟩=some uu:=qB
   refine ah<|xM F rf rf rf fun _ F=>
    kz F rf (aK (i:=m) rfl (F.u rf) (F.u rf) (by omega) u22 wO) fun _ F=>
    kz F rf (bT [.string x.name,.slice KE x.perms.length Ky] rfl (F.u rf) Gc rfl wO (dJ M.below hr1)) fun _ F=>
    sF (on rfl) rfl Mc rfl F rfl M fun g8 _ _ F M=>
    xA F rf rf rf fun _ F=>
    sE (on rfl) rfl (F.u rf) (F.u rf) F M 0 rfl wO rfl rfl rfl fun _ M=>
    atP<|
    dU _ _ ?_
   refine atO fun I8 gj=>ah<|xM F rf rf rf fun _ F=>xM F rf rf rf fun _ F=>
    kz F rf (aK (i:=m) rfl (F.u rf) (F.u rf) (by omega) u22 wO) fun _ F=>
    kz F rf (bT [.string y.name,.slice KD y.perms.length Kx] rfl (F.u rf) Gc rfl wO (dJ M.below qB)) fun _ F=>
    sF (on rfl) rfl Mc rfl F rfl M fun g9 _ _ F M=>
    sE (on rfl) rfl (F.u rf) (F.u rf) F M 0 rfl wO rfl rfl rfl fun _ M=>
    atP<|
    gj _ _ ?_
   refine atO fun I7 fT=>ah<|xM F rf rf rf fun _ F=>xW F (M.b 1 rfl) rf rf rf Gc rf wO rf fun _ F=>xW F (M.b 0 rfl) rf rf rf Gc rf wO rf fun _ F=>
    kc (on rfl) (lW rfl (F.u rf) Tryz.func214 (by kernel_rfl) rfl (args:=#[.agg #[.string x.name,.slice KE x.perms.length Ky],.agg #[.string y.name,.slice KD y.perms.length Kx]]) (by simp[(F.e 27 rfl),(F.e 28 rfl)])) (OC _ x y _ _ (D9.keep M.below) (D8.keep M.below)) rfl F rfl M fun _ _ F M=>
    kz F rf (jS rfl (F.u rf)) fun _ F=>
    atP<|
    fT _ _ ?_
   refine atQ (F.e 30 rfl) (fun jt=>?_) (fun jt=>?_)
   ·have Hx:(iJ x y)=false:=by simpa using jt
    have tP:iJ x y=false:=by
     have h:=jt;simpa using h
    refine atO fun Jh gM=>ah<|xA (v:=.bool false) F rf rf rf fun _ F=>atP<|gM _ _ ?_
    refine wp_ret<|aM _ _ _ _ F rfl ?_;exact⟨ay (IY hx hy hI tP),M.below⟩
   ·have vV:(iJ x y)=true:=by simpa using jt
    have tP:iJ x y=true:=by
     have h:=jt;simpa using h
    refine wp_skip<|jW _ _ ?_
    refine ah<|
     ke (on rfl) (cL rfl (F.u rf) rfl) rfl F rfl (congrArg (Value.int .i64) (wrap_i64 (by omega))) fun _ F=>
     xM F rf rf rf fun _ F=>
     atP<|?_
    exact⟨m+1,⟨F.sub ⟨rfl,rfl,rfl,rfl,rfl,trivial⟩,(M.only (.cons _ (.cons _ .slnil)) .slnil),by omega,IX hx hy hI tP⟩,by show l1.length-(m+1)<l1.length-m;omega⟩
  ·have Pt:=of_decide_eq_false je;refine wp_exit<|gL _ _ ?_;refine atO fun NR jg=>ah<|xA (v:=.bool true) F rf rf rf fun _ F=>atP<|jg _ _ ?_
   refine wp_ret<|aM _ _ _ _ F rfl ?_;exact⟨ay (A0 (by omega) hll hI),M.below⟩
theorem OA(w0:World)(x y:lI)(vK BD:Value)(hn1:bp w0 vK x.lY)(hn2:bp w0 BD y.lY):Calls Tryz.prog 215 #[.agg #[.string x.name,vK,.bool x.perm],.agg #[.string y.name,BD,.bool y.perm]] w0 (fun(r:Ending) (w':World)=>r=.returned (.bool (iZ x y))∧atv w0.heap.size w0 w'):=by
 have aM:=hr1 Tryz.prog Tryz.f215 (fun(r:Ending) (w':World)=>r=.returned (.bool (iZ x y))∧atv w0.heap.size w0 w') 24 4 rfl;refine en Tryz.func215 rfl Tryz.ntmps215 rfl (vs:=[.agg #[.string x.name,vK,.bool x.perm],.agg #[.string y.name,BD,.bool y.perm]]) rfl fun _ F=>?_
 have M:=Mm.start w0;refine atO fun K1 dw=>ah<|oG (on rfl) rfl (F.u rf) rfl F rfl M fun g1 _ _ F M=>oG (on rfl) rfl (F.u rf) rfl F rfl M fun g2 _ _ F M=>xA (v:=.bool false) F rf rf rf fun _ F=>atP<|dw _ _ ?_
 refine atO fun K2 cQ=>ah<|xF 0 F rf rf rf Uu rf sz9 rf fun _ F=>xL F (M.b 1 rfl) rf rf rf u9 rf rf fun _ F=>xF 0 F rf rf rf Uu rf sz9 rf fun _ F=>xL F (M.b 0 rfl) rf rf rf u9 rf rf fun _ F=>kz F rf (cA rfl (F.u rf) (F.u rf)) fun _ F=>xM F rf rf rf fun _ F=>bU (x:=.pointer (some ⟨g1,2,none⟩)) rfl rfl (F.g 10 rfl) (bt _) (fun ge=>(aI rfl (F.u rf) Uu rfl sz4)) rfl F rfl rfl fun _ F=>bU (x:=.bool x.perm) rfl rfl (F.g 10 rfl) (bt _) (fun ge=>(aD rfl ((F.g 11 rfl).on ge).ev u4 rfl ((M.b 1 rfl).c1 2))) rfl F rfl rfl fun _ F=>bU (x:=.pointer (some ⟨g2,2,none⟩)) rfl rfl (F.g 10 rfl) (bt _) (fun ge=>(aI rfl (F.u rf) Uu rfl sz4)) rfl F rfl rfl fun _ F=>bU (x:=.bool y.perm) rfl rfl (F.g 10 rfl) (bt _) (fun ge=>(aD rfl ((F.g 13 rfl).on ge).ev u4 rfl ((M.b 0 rfl).c1 2))) rfl F rfl rfl fun _ F=>bU (x:=.bool (x.perm == y.perm)) rfl rfl (F.g 10 rfl) (bt _) (fun ge=>(TS rfl ((F.g 12 rfl).on ge).ev ((F.g 14 rfl).on ge).ev u4)) rfl F rfl rfl fun _ F=>kz F rf (rq (bq rfl (F.u rf) (F.u rf) rfl) (qH _ _)) fun _ F=>xM F rf rf rf fun _ F=>bU (x:=.pointer (some ⟨g1,1,none⟩)) rfl rfl (F.g 17 rfl) (bt _) (fun ge=>(aI rfl (F.u rf) Uu rfl sQ)) rfl F rfl rfl fun _ F=>bU (x:=vK) rfl rfl (F.g 17 rfl) (bt _) (fun ge=>(aD rfl ((F.g 18 rfl).on ge).ev Dv rfl ((M.b 1 rfl).c1 1))) rfl F rfl rfl fun _ F=>bU (x:=.pointer (some ⟨g2,1,none⟩)) rfl rfl (F.g 17 rfl) (bt _) (fun ge=>(aI rfl (F.u rf) Uu rfl sQ)) rfl F rfl rfl fun _ F=>bU (x:=BD) rfl rfl (F.g 17 rfl) (bt _) (fun ge=>(aD rfl ((F.g 20 rfl).on ge).ev Dv rfl ((M.b 0 rfl).c1 1))) rfl F rfl rfl fun _ F=>k_ rfl rfl (F.g 17 rfl) (bt _) (fun ge=>(bw rfl Tryz.func213 GY rfl (args2 ((F.g 19 rfl).on ge).ev ((F.g 21 rfl).on ge).ev))) (fun ge=>jh _ _ _ x.lY y.lY (hn1.keep M.below) (hn2.keep M.below)) rfl F rfl M fun _ _ F M=>kz F rf (rq (bq rfl (F.u rf) (F.u rf) rfl) (qH _ _)) fun _ F=>xA F rf rf rf fun _ F=>atP<|cQ _ _ ?_
 refine wp_ret<|aM _ _ _ _ F rfl ?_;exact⟨rfl,M.below⟩
theorem BL(w0:World)(v1 v2:Value)(l1 l2:List lI)(h1:aC 3 (p9 w0) w0 v1 l1)(h2:aC 3 (p9 w0) w0 v2 l2):Calls Tryz.prog 217 #[v1,v2,.func (.func 215) #[] #[]] w0 (fun(r:Ending) (w':World)=>r=.returned (.bool (aq iZ l1 l2))∧atv w0.heap.size w0 w'):=by
 obtain⟨Jc,Jb,rfl,hk1,hm1,nP⟩:=aC.form h1 (by decide);obtain⟨KR,KI,rfl,hk2,hm2,nO⟩:=aC.form h2 (by decide);have aM:=hr1 Tryz.prog Tryz.f217 (fun(r:Ending) (w':World)=>r=.returned (.bool (aq iZ l1 l2))∧atv w0.heap.size w0 w') 32 6 rfl;refine en Tryz.func217 rfl Tryz.ntmps217 rfl (vs:=[.slice Jc l1.length Jb,.slice KR l2.length KI,.func (.func 215) #[] #[]]) rfl fun _ F=>?_
 have M:=Mm.start w0;refine atO fun K1 dw=>ah<|xA (v:=.bool false) F rf rf rf fun _ F=>atP<|dw _ _ ?_
 refine atO fun K2 cQ=>atO fun K3 fJ=>ah<|xM F rf rf rf fun _ F=>kz F rf (bA rfl (F.u rf) Yx) fun _ F=>xM F rf rf rf fun _ F=>kz F rf (bA rfl (F.u rf) Yx) fun _ F=>kz F rf (qY rfl (F.u rf) (F.u rf)) fun _ F=>atP<|fJ _ _ ?_
 refine atQ (F.e 14 rfl) (fun hc1=>?_) (fun hc1=>?_)
 ·have hd2:=of_decide_eq_false (show decide ((l1.length:Int)=(l2.length:Int))=false by simpa using hc1);have XG:(decide ((l1.length:Int)=(l2.length:Int)))=false:=by simpa using hc1
  refine atO fun K4 fQ=>ah<|xA (v:=.bool false) F rf rf rf fun _ F=>atP<|fQ _ _ ?_
  refine wp_ret<|aM _ _ _ _ F rfl ?_;exact⟨ay (rY (by have h:=hc1;simp at h;omega)),M.below⟩
 ·have BH:=of_decide_eq_true (show decide ((l1.length:Int)=(l2.length:Int))=true by simpa using hc1);have Uy:(decide ((l1.length:Int)=(l2.length:Int)))=true:=by simpa using hc1
  refine wp_skip<|cQ _ _ ?_;refine atO fun K5 gL=>atO fun K6 iC=>?_
  have hll:l1.length=l2.length:=by have h:=hc1;simp at h;omega
  refine ah<|xM F rf rf rf fun _ F=>kz F rf (bA rfl (F.u rf) Yx) fun _ F=>xM (v:=.int .i64 0) F rf rf rf fun _ F=>atP<|iC _ _ ?_
  refine atT<|?_;refine bV (ι:=Nat) (fun m a w=>Fs a 32 [(1,.slice KR l2.length KI),(2,.func (.func 215) #[] #[]),(15,.slice Jc l1.length Jb),(16,.int .i64 (l1.length:Int)),(17,.int .i64 (m:Int))]∧Mm w0 w [] []∧m≤l1.length∧aq iZ l1 l2=aq iZ (l1.drop m) (l2.drop m)) (fun m=>l1.length-m) 0 ⟨F.sub ⟨rfl,rfl,rfl,rfl,rfl,trivial⟩,M,atx _,rfl⟩ ?_
  (repeat clear F);(repeat clear M)
  rintro m _ _ ⟨F,M,hm,hI⟩;refine atO fun K7 iO=>ah<|kz F rf (d_ rfl (F.u rf) (F.u rf)) fun _ F=>atP<|iO _ _ ?_
  refine atO fun K8 jf=>?_
  refine atQ (F.e 18 rfl) (fun je=>?_) (fun je=>?_)
  ·have QA:=of_decide_eq_true je;refine wp_skip<|jf _ _ ?_;refine atO fun K9 jW=>atT<|atO fun Bh dU=>?_
   have BF:m<l1.length:=by omega
   have hlt2:m<l2.length:=by omega
   obtain⟨x,hx⟩:∃ x,l1[m]?=some x:=⟨_,atH BF⟩;obtain⟨b1,o1,cs1,rfl,D_,-,hr1⟩:=nP m x hx;obtain⟨_,rfl,D9⟩:=D_;obtain⟨KE,Ky,rfl,-⟩:=SliceAt.form D9 (by decide);have hr1:∀ j uu,[.string x.name,.slice KE x.lY.length Ky,.bool x.perm][j]?=some uu→w0.cell? ⟨b1,o1+m*3+j,none⟩=some uu:=hr1;obtain⟨y,hy⟩:∃ y,l2[m]?=some y:=⟨_,atH hlt2⟩;obtain⟨b2,o2,cs2,rfl,he2,-,qB⟩:=nO m y hy;obtain⟨_,rfl,D8⟩:=he2;obtain⟨KD,Kx,rfl,-⟩:=SliceAt.form D8 (by decide);have qB:∀ j uu,[.string y.name,.slice KD y.lY.length Kx,.bool y.perm][j]?=some uu→w0.cell? ⟨b2,o2+m*3+j,none⟩=some uu:=qB
   refine ah<|xM F rf rf rf fun _ F=>
    kz F rf (aK (i:=m) rfl (F.u rf) (F.u rf) (by omega) Yx Gn) fun _ F=>
    kz F rf (bT [.string x.name,.slice KE x.lY.length Ky,.bool x.perm] rfl (F.u rf) Uu rfl Gn (dJ M.below hr1)) fun _ F=>
    sF (on rfl) rfl Yd rfl F rfl M fun g8 _ _ F M=>
    xA F rf rf rf fun _ F=>
    sE (on rfl) rfl (F.u rf) (F.u rf) F M 0 rfl Gn rfl rfl rfl fun _ M=>
    atP<|
    dU _ _ ?_
   refine atO fun I8 gj=>ah<|xM F rf rf rf fun _ F=>xM F rf rf rf fun _ F=>
    kz F rf (aK (i:=m) rfl (F.u rf) (F.u rf) (by omega) Yx Gn) fun _ F=>
    kz F rf (bT [.string y.name,.slice KD y.lY.length Kx,.bool y.perm] rfl (F.u rf) Uu rfl Gn (dJ M.below qB)) fun _ F=>
    sF (on rfl) rfl Yd rfl F rfl M fun g9 _ _ F M=>
    sE (on rfl) rfl (F.u rf) (F.u rf) F M 0 rfl Gn rfl rfl rfl fun _ M=>
    atP<|
    gj _ _ ?_
   refine atO fun I7 fT=>ah<|xM F rf rf rf fun _ F=>xW F (M.b 1 rfl) rf rf rf Uu rf Gn rf fun _ F=>xW F (M.b 0 rfl) rf rf rf Uu rf Gn rf fun _ F=>
    kc (on rfl) (lW rfl (F.u rf) Tryz.func215 (by kernel_rfl) rfl (args:=#[.agg #[.string x.name,.slice KE x.lY.length Ky,.bool x.perm],.agg #[.string y.name,.slice KD y.lY.length Kx,.bool y.perm]]) (by simp[(F.e 27 rfl),(F.e 28 rfl)])) (OA _ x y _ _ (D9.keep M.below) (D8.keep M.below)) rfl F rfl M fun _ _ F M=>
    kz F rf (jS rfl (F.u rf)) fun _ F=>
    atP<|
    fT _ _ ?_
   refine atQ (F.e 30 rfl) (fun jt=>?_) (fun jt=>?_)
   ·have Hx:(iZ x y)=false:=by simpa using jt
    have tP:iZ x y=false:=by
     have h:=jt;simpa using h
    refine atO fun Jh gM=>ah<|xA (v:=.bool false) F rf rf rf fun _ F=>atP<|gM _ _ ?_
    refine wp_ret<|aM _ _ _ _ F rfl ?_;exact⟨ay (IY hx hy hI tP),M.below⟩
   ·have vV:(iZ x y)=true:=by simpa using jt
    have tP:iZ x y=true:=by
     have h:=jt;simpa using h
    refine wp_skip<|jW _ _ ?_
    refine ah<|
     ke (on rfl) (cL rfl (F.u rf) rfl) rfl F rfl (congrArg (Value.int .i64) (wrap_i64 (by omega))) fun _ F=>
     xM F rf rf rf fun _ F=>
     atP<|?_
    exact⟨m+1,⟨F.sub ⟨rfl,rfl,rfl,rfl,rfl,trivial⟩,(M.only (.cons _ (.cons _ .slnil)) .slnil),by omega,IX hx hy hI tP⟩,by show l1.length-(m+1)<l1.length-m;omega⟩
  ·have Pt:=of_decide_eq_false je;refine wp_exit<|gL _ _ ?_;refine atO fun NR jg=>ah<|xA (v:=.bool true) F rf rf rf fun _ F=>atP<|jg _ _ ?_
   refine wp_ret<|aM _ _ _ _ F rfl ?_;exact⟨ay (A0 (by omega) hll hI),M.below⟩
theorem OB(w0:World)(x y:oh)(vK BD G9 Si:Value)(D_:bB w0 [.int .i64 x.expr.op,.int .i64 x.expr.a,.int .i64 x.expr.rel,.int .i64 x.expr.b,vK,.int .u64 x.expr.set.a,.int .u64 x.expr.set.b,.int .u64 x.expr.set.c,.int .u64 x.expr.set.d,G9] x.expr)(he2:bB w0 [.int .i64 y.expr.op,.int .i64 y.expr.a,.int .i64 y.expr.rel,.int .i64 y.expr.b,BD,.int .u64 y.expr.set.a,.int .u64 y.expr.set.b,.int .u64 y.expr.set.c,.int .u64 y.expr.set.d,Si] y.expr):Calls Tryz.prog 137 #[.agg #[.int .i64 x.cls,.int .u32 x.perms,.bool x.val,.int .i64 x.expr.op,.int .i64 x.expr.a,.int .i64 x.expr.rel,.int .i64 x.expr.b,vK,.int .u64 x.expr.set.a,.int .u64 x.expr.set.b,.int .u64 x.expr.set.c,.int .u64 x.expr.set.d,G9],.agg #[.int .i64 y.cls,.int .u32 y.perms,.bool y.val,.int .i64 y.expr.op,.int .i64 y.expr.a,.int .i64 y.expr.rel,.int .i64 y.expr.b,BD,.int .u64 y.expr.set.a,.int .u64 y.expr.set.b,.int .u64 y.expr.set.c,.int .u64 y.expr.set.d,Si]] w0 (fun(r:Ending) (w':World)=>r=.returned (.bool (j_ x y))∧atv w0.heap.size w0 w'):=by
 have aM:=hr1 Tryz.prog Tryz.f137 (fun(r:Ending) (w':World)=>r=.returned (.bool (j_ x y))∧atv w0.heap.size w0 w') 31 4 rfl;refine en Tryz.func137 rfl Tryz.ntmps137 rfl (vs:=[.agg #[.int .i64 x.cls,.int .u32 x.perms,.bool x.val,.int .i64 x.expr.op,.int .i64 x.expr.a,.int .i64 x.expr.rel,.int .i64 x.expr.b,vK,.int .u64 x.expr.set.a,.int .u64 x.expr.set.b,.int .u64 x.expr.set.c,.int .u64 x.expr.set.d,G9],.agg #[.int .i64 y.cls,.int .u32 y.perms,.bool y.val,.int .i64 y.expr.op,.int .i64 y.expr.a,.int .i64 y.expr.rel,.int .i64 y.expr.b,BD,.int .u64 y.expr.set.a,.int .u64 y.expr.set.b,.int .u64 y.expr.set.c,.int .u64 y.expr.set.d,Si]]) rfl fun _ F=>?_
 have M:=Mm.start w0;refine atO fun K1 dw=>ah<|oG (on rfl) rfl (F.u rf) rfl F rfl M fun g1 _ _ F M=>oG (on rfl) rfl (F.u rf) rfl F rfl M fun g2 _ _ F M=>xA (v:=.bool false) F rf rf rf fun _ F=>atP<|dw _ _ ?_
 refine atO fun K2 cQ=>ah<|xF 0 F rf rf rf Qv rf Bn rf fun _ F=>xL F (M.b 1 rfl) rf rf rf u3 rf rf fun _ F=>xF 0 F rf rf rf Qv rf Bn rf fun _ F=>xL F (M.b 0 rfl) rf rf rf u3 rf rf fun _ F=>kz F rf (eX rfl (F.u rf) (F.u rf)) fun _ F=>xM F rf rf rf fun _ F=>bU (x:=.pointer (some ⟨g1,1,none⟩)) rfl rfl (F.g 10 rfl) (bt _) (fun ge=>(aI rfl (F.u rf) Qv rfl abO)) rfl F rfl rfl fun _ F=>bU (x:=.int .u32 x.perms) rfl rfl (F.g 10 rfl) (bt _) (fun ge=>(aD rfl ((F.g 11 rfl).on ge).ev u50 rfl ((M.b 1 rfl).c1 1))) rfl F rfl rfl fun _ F=>bU (x:=.pointer (some ⟨g2,1,none⟩)) rfl rfl (F.g 10 rfl) (bt _) (fun ge=>(aI rfl (F.u rf) Qv rfl abO)) rfl F rfl rfl fun _ F=>bU (x:=.int .u32 y.perms) rfl rfl (F.g 10 rfl) (bt _) (fun ge=>(aD rfl ((F.g 13 rfl).on ge).ev u50 rfl ((M.b 0 rfl).c1 1))) rfl F rfl rfl fun _ F=>bU (x:=.bool (decide (x.perms=y.perms))) rfl rfl (F.g 10 rfl) (bt _) (fun ge=>(eX rfl ((F.g 12 rfl).on ge).ev ((F.g 14 rfl).on ge).ev)) rfl F rfl rfl fun _ F=>kz F rf (rq (bq rfl (F.u rf) (F.u rf) rfl) (qH _ _)) fun _ F=>xM F rf rf rf fun _ F=>bU (x:=.pointer (some ⟨g1,2,none⟩)) rfl rfl (F.g 17 rfl) (bt _) (fun ge=>(aI rfl (F.u rf) Qv rfl sz4)) rfl F rfl rfl fun _ F=>bU (x:=.bool x.val) rfl rfl (F.g 17 rfl) (bt _) (fun ge=>(aD rfl ((F.g 18 rfl).on ge).ev u4 rfl ((M.b 1 rfl).c1 2))) rfl F rfl rfl fun _ F=>bU (x:=.pointer (some ⟨g2,2,none⟩)) rfl rfl (F.g 17 rfl) (bt _) (fun ge=>(aI rfl (F.u rf) Qv rfl sz4)) rfl F rfl rfl fun _ F=>bU (x:=.bool y.val) rfl rfl (F.g 17 rfl) (bt _) (fun ge=>(aD rfl ((F.g 20 rfl).on ge).ev u4 rfl ((M.b 0 rfl).c1 2))) rfl F rfl rfl fun _ F=>bU (x:=.bool (x.val == y.val)) rfl rfl (F.g 17 rfl) (bt _) (fun ge=>(TS rfl ((F.g 19 rfl).on ge).ev ((F.g 21 rfl).on ge).ev u4)) rfl F rfl rfl fun _ F=>kz F rf (rq (bq rfl (F.u rf) (F.u rf) rfl) (qH _ _)) fun _ F=>xM F rf rf rf fun _ F=>bU (x:=.pointer (some ⟨g1,3,none⟩)) rfl rfl (F.g 24 rfl) (bt _) (fun ge=>(aI rfl (F.u rf) Qv rfl eG)) rfl F rfl rfl fun _ F=>bU (x:=.agg #[.int .i64 x.expr.op,.int .i64 x.expr.a,.int .i64 x.expr.rel,.int .i64 x.expr.b,vK,.int .u64 x.expr.set.a,.int .u64 x.expr.set.b,.int .u64 x.expr.set.c,.int .u64 x.expr.set.d,G9]) rfl rfl (F.g 24 rfl) (bt _) (fun ge=>(bT [.int .i64 x.expr.op,.int .i64 x.expr.a,.int .i64 x.expr.rel,.int .i64 x.expr.b,vK,.int .u64 x.expr.set.a,.int .u64 x.expr.set.b,.int .u64 x.expr.set.c,.int .u64 x.expr.set.d,G9] rfl ((F.g 25 rfl).on ge).ev j9 rfl eG (fU (M.b 1 rfl) rfl))) rfl F rfl rfl fun _ F=>bU (x:=.pointer (some ⟨g2,3,none⟩)) rfl rfl (F.g 24 rfl) (bt _) (fun ge=>(aI rfl (F.u rf) Qv rfl eG)) rfl F rfl rfl fun _ F=>bU (x:=.agg #[.int .i64 y.expr.op,.int .i64 y.expr.a,.int .i64 y.expr.rel,.int .i64 y.expr.b,BD,.int .u64 y.expr.set.a,.int .u64 y.expr.set.b,.int .u64 y.expr.set.c,.int .u64 y.expr.set.d,Si]) rfl rfl (F.g 24 rfl) (bt _) (fun ge=>(bT [.int .i64 y.expr.op,.int .i64 y.expr.a,.int .i64 y.expr.rel,.int .i64 y.expr.b,BD,.int .u64 y.expr.set.a,.int .u64 y.expr.set.b,.int .u64 y.expr.set.c,.int .u64 y.expr.set.d,Si] rfl ((F.g 27 rfl).on ge).ev j9 rfl eG (fU (M.b 0 rfl) rfl))) rfl F rfl rfl fun _ F=>k_ rfl rfl (F.g 24 rfl) (bt _) (fun ge=>(bw rfl Tryz.func138 acG rfl (args2 ((F.g 26 rfl).on ge).ev ((F.g 28 rfl).on ge).ev))) (fun ge=>sW x.expr y.expr _ _ _ (bB.keep M.below D_) (bB.keep M.below he2)) rfl F rfl M fun _ _ F M=>kz F rf (rq (bq rfl (F.u rf) (F.u rf) rfl) (qH _ _)) fun _ F=>xA F rf rf rf fun _ F=>atP<|cQ _ _ ?_
 refine wp_ret<|aM _ _ _ _ F rfl ?_;exact⟨rfl,M.below⟩
theorem BN(w0:World)(v1 v2:Value)(l1 l2:List oh)(h1:aC 13 (ql w0) w0 v1 l1)(h2:aC 13 (ql w0) w0 v2 l2):Calls Tryz.prog 144 #[v1,v2,.func (.func 137) #[] #[]] w0 (fun(r:Ending) (w':World)=>r=.returned (.bool (aq j_ l1 l2))∧atv w0.heap.size w0 w'):=by
 obtain⟨Jc,Jb,rfl,hk1,hm1,nP⟩:=aC.form h1 (by decide);obtain⟨KR,KI,rfl,hk2,hm2,nO⟩:=aC.form h2 (by decide);have aM:=hr1 Tryz.prog Tryz.f144 (fun(r:Ending) (w':World)=>r=.returned (.bool (aq j_ l1 l2))∧atv w0.heap.size w0 w') 32 6 rfl;refine en Tryz.func144 rfl Tryz.ntmps144 rfl (vs:=[.slice Jc l1.length Jb,.slice KR l2.length KI,.func (.func 137) #[] #[]]) rfl fun _ F=>?_
 have M:=Mm.start w0;refine atO fun K1 dw=>ah<|xA (v:=.bool false) F rf rf rf fun _ F=>atP<|dw _ _ ?_
 refine atO fun K2 cQ=>atO fun K3 fJ=>ah<|xM F rf rf rf fun _ F=>kz F rf (bA rfl (F.u rf) Yu) fun _ F=>xM F rf rf rf fun _ F=>kz F rf (bA rfl (F.u rf) Yu) fun _ F=>kz F rf (qY rfl (F.u rf) (F.u rf)) fun _ F=>atP<|fJ _ _ ?_
 refine atQ (F.e 14 rfl) (fun hc1=>?_) (fun hc1=>?_)
 ·have hd2:=of_decide_eq_false (show decide ((l1.length:Int)=(l2.length:Int))=false by simpa using hc1);have XG:(decide ((l1.length:Int)=(l2.length:Int)))=false:=by simpa using hc1
  refine atO fun K4 fQ=>ah<|xA (v:=.bool false) F rf rf rf fun _ F=>atP<|fQ _ _ ?_
  refine wp_ret<|aM _ _ _ _ F rfl ?_;exact⟨ay (rY (by have h:=hc1;simp at h;omega)),M.below⟩
 ·have BH:=of_decide_eq_true (show decide ((l1.length:Int)=(l2.length:Int))=true by simpa using hc1);have Uy:(decide ((l1.length:Int)=(l2.length:Int)))=true:=by simpa using hc1
  refine wp_skip<|cQ _ _ ?_;refine atO fun K5 gL=>atO fun K6 iC=>?_
  have hll:l1.length=l2.length:=by have h:=hc1;simp at h;omega
  refine ah<|xM F rf rf rf fun _ F=>kz F rf (bA rfl (F.u rf) Yu) fun _ F=>xM (v:=.int .i64 0) F rf rf rf fun _ F=>atP<|iC _ _ ?_
  refine atT<|?_;refine bV (ι:=Nat) (fun m a w=>Fs a 32 [(1,.slice KR l2.length KI),(2,.func (.func 137) #[] #[]),(15,.slice Jc l1.length Jb),(16,.int .i64 (l1.length:Int)),(17,.int .i64 (m:Int))]∧Mm w0 w [] []∧m≤l1.length∧aq j_ l1 l2=aq j_ (l1.drop m) (l2.drop m)) (fun m=>l1.length-m) 0 ⟨F.sub ⟨rfl,rfl,rfl,rfl,rfl,trivial⟩,M,atx _,rfl⟩ ?_
  (repeat clear F);(repeat clear M)
  rintro m _ _ ⟨F,M,hm,hI⟩;refine atO fun K7 iO=>ah<|kz F rf (d_ rfl (F.u rf) (F.u rf)) fun _ F=>atP<|iO _ _ ?_
  refine atO fun K8 jf=>?_
  refine atQ (F.e 18 rfl) (fun je=>?_) (fun je=>?_)
  ·have QA:=of_decide_eq_true je;refine wp_skip<|jf _ _ ?_;refine atO fun K9 jW=>atT<|atO fun Bh dU=>?_
   have BF:m<l1.length:=by omega
   have hlt2:m<l2.length:=by omega
   obtain⟨x,hx⟩:∃ x,l1[m]?=some x:=⟨_,atH BF⟩;obtain⟨b1,o1,cs1,rfl,D_,-,hr1⟩:=nP m x hx;obtain⟨_,rfl,hE1⟩:=D_;have hX1:=hE1;obtain⟨_,_,rfl,D9,Zx⟩:=hX1.open;obtain⟨KE,Ky,rfl,-⟩:=SliceAt.form D9 (by decide);obtain⟨VR,Y8,rfl,-⟩:=aC.form Zx (by decide);have hr1:∀ j uu,[.int .i64 x.cls,.int .u32 x.perms,.bool x.val,.int .i64 x.expr.op,.int .i64 x.expr.a,.int .i64 x.expr.rel,.int .i64 x.expr.b,.slice KE x.expr.names.length Ky,.int .u64 x.expr.set.a,.int .u64 x.expr.set.b,.int .u64 x.expr.set.c,.int .u64 x.expr.set.d,.slice VR x.expr.kids.length Y8][j]?=some uu→w0.cell? ⟨b1,o1+m*13+j,none⟩=some uu:=hr1;obtain⟨y,hy⟩:∃ y,l2[m]?=some y:=⟨_,atH hlt2⟩;obtain⟨b2,o2,cs2,rfl,he2,-,qB⟩:=nO m y hy;obtain⟨_,rfl,hE2⟩:=he2;have hX2:=hE2;obtain⟨_,_,rfl,D8,Zw⟩:=hX2.open;obtain⟨KD,Kx,rfl,-⟩:=SliceAt.form D8 (by decide);obtain⟨Zb,Y7,rfl,-⟩:=aC.form Zw (by decide);have qB:∀ j uu,[.int .i64 y.cls,.int .u32 y.perms,.bool y.val,.int .i64 y.expr.op,.int .i64 y.expr.a,.int .i64 y.expr.rel,.int .i64 y.expr.b,.slice KD y.expr.names.length Kx,.int .u64 y.expr.set.a,.int .u64 y.expr.set.b,.int .u64 y.expr.set.c,.int .u64 y.expr.set.d,.slice Zb y.expr.kids.length Y7][j]?=some uu→w0.cell? ⟨b2,o2+m*13+j,none⟩=some uu:=qB
   refine ah<|xM F rf rf rf fun _ F=>
    kz F rf (aK (i:=m) rfl (F.u rf) (F.u rf) (by omega) Yu Gm) fun _ F=>
    kz F rf (bT [.int .i64 x.cls,.int .u32 x.perms,.bool x.val,.int .i64 x.expr.op,.int .i64 x.expr.a,.int .i64 x.expr.rel,.int .i64 x.expr.b,.slice KE x.expr.names.length Ky,.int .u64 x.expr.set.a,.int .u64 x.expr.set.b,.int .u64 x.expr.set.c,.int .u64 x.expr.set.d,.slice VR x.expr.kids.length Y8] rfl (F.u rf) Qv rfl Gm (dJ M.below hr1)) fun _ F=>
    sF (on rfl) rfl NS rfl F rfl M fun g8 _ _ F M=>
    xA F rf rf rf fun _ F=>
    sE (on rfl) rfl (F.u rf) (F.u rf) F M 0 rfl Gm rfl rfl rfl fun _ M=>
    atP<|
    dU _ _ ?_
   refine atO fun I8 gj=>ah<|xM F rf rf rf fun _ F=>xM F rf rf rf fun _ F=>
    kz F rf (aK (i:=m) rfl (F.u rf) (F.u rf) (by omega) Yu Gm) fun _ F=>
    kz F rf (bT [.int .i64 y.cls,.int .u32 y.perms,.bool y.val,.int .i64 y.expr.op,.int .i64 y.expr.a,.int .i64 y.expr.rel,.int .i64 y.expr.b,.slice KD y.expr.names.length Kx,.int .u64 y.expr.set.a,.int .u64 y.expr.set.b,.int .u64 y.expr.set.c,.int .u64 y.expr.set.d,.slice Zb y.expr.kids.length Y7] rfl (F.u rf) Qv rfl Gm (dJ M.below qB)) fun _ F=>
    sF (on rfl) rfl NS rfl F rfl M fun g9 _ _ F M=>
    sE (on rfl) rfl (F.u rf) (F.u rf) F M 0 rfl Gm rfl rfl rfl fun _ M=>
    atP<|
    gj _ _ ?_
   refine atO fun I7 fT=>ah<|xM F rf rf rf fun _ F=>xW F (M.b 1 rfl) rf rf rf Qv rf Gm rf fun _ F=>xW F (M.b 0 rfl) rf rf rf Qv rf Gm rf fun _ F=>
    kc (on rfl) (lW rfl (F.u rf) Tryz.func137 (by kernel_rfl) rfl (args:=#[.agg #[.int .i64 x.cls,.int .u32 x.perms,.bool x.val,.int .i64 x.expr.op,.int .i64 x.expr.a,.int .i64 x.expr.rel,.int .i64 x.expr.b,.slice KE x.expr.names.length Ky,.int .u64 x.expr.set.a,.int .u64 x.expr.set.b,.int .u64 x.expr.set.c,.int .u64 x.expr.set.d,.slice VR x.expr.kids.length Y8],.agg #[.int .i64 y.cls,.int .u32 y.perms,.bool y.val,.int .i64 y.expr.op,.int .i64 y.expr.a,.int .i64 y.expr.rel,.int .i64 y.expr.b,.slice KD y.expr.names.length Kx,.int .u64 y.expr.set.a,.int .u64 y.expr.set.b,.int .u64 y.expr.set.c,.int .u64 y.expr.set.d,.slice Zb y.expr.kids.length Y7]]) (by simp[(F.e 27 rfl),(F.e 28 rfl)])) (OB _ x y _ _ _ _ (bB.keep M.below hE1) (bB.keep M.below hE2)) rfl F rfl M fun _ _ F M=>
    kz F rf (jS rfl (F.u rf)) fun _ F=>
    atP<|
    fT _ _ ?_
   refine atQ (F.e 30 rfl) (fun jt=>?_) (fun jt=>?_)
   ·have Hx:(j_ x y)=false:=by simpa using jt
    have tP:j_ x y=false:=by
     have h:=jt;simpa using h
    refine atO fun Jh gM=>ah<|xA (v:=.bool false) F rf rf rf fun _ F=>atP<|gM _ _ ?_
    refine wp_ret<|aM _ _ _ _ F rfl ?_;exact⟨ay (IY hx hy hI tP),M.below⟩
   ·have vV:(j_ x y)=true:=by simpa using jt
    have tP:j_ x y=true:=by
     have h:=jt;simpa using h
    refine wp_skip<|jW _ _ ?_
    refine ah<|
     ke (on rfl) (cL rfl (F.u rf) rfl) rfl F rfl (congrArg (Value.int .i64) (wrap_i64 (by omega))) fun _ F=>
     xM F rf rf rf fun _ F=>
     atP<|?_
    exact⟨m+1,⟨F.sub ⟨rfl,rfl,rfl,rfl,rfl,trivial⟩,(M.only (.cons _ (.cons _ .slnil)) .slnil),by omega,IX hx hy hI tP⟩,by show l1.length-(m+1)<l1.length-m;omega⟩
  ·have Pt:=of_decide_eq_false je;refine wp_exit<|gL _ _ ?_;refine atO fun NR jg=>ah<|xA (v:=.bool true) F rf rf rf fun _ F=>atP<|jg _ _ ?_
   refine wp_ret<|aM _ _ _ _ F rfl ?_;exact⟨ay (A0 (by omega) hll hI),M.below⟩
def i_(p q:aG):Bool:=(((((((aq iJ p.classes q.classes&&aq iZ p.types q.types)&&decide (p.attrs=q.attrs))&&decide (p.roles=q.roles))&&decide (p.users=q.users))&&decide (p.bools=q.bools))&&decide (p.aV=q.aV))&&decide (p.cats=q.cats))
def eO(p q:aG):Bool:=(((((((((i_ p q&&aq dI p.conds q.conds)&&decide (p.rules=q.rules))&&decide (p.trans=q.trans))&&decide (p.aQ=q.aQ))&&decide (p.ranges=q.ranges))&&aq j_ p.cons q.cons)&&decide (p.bP=q.bP))&&decide (p.files=q.files))&&decide (p.asserts=q.asserts))
theorem xX(w0:World)(c0 c1 c2 c3 c4 c5 c6 c7 c8 c9 aW aP aO aU aT aS aR d0 d1 d2 d3 d4 d5 d6 d7 d8 d9 ru q_ q8 q7 q6 q5 qZ:Value)(p q:aG)(hp:aL w0 c0 c1 c2 c3 c4 c5 c6 c7 c8 c9 aW aP aO aU aT aS aR p)(hq:aL w0 d0 d1 d2 d3 d4 d5 d6 d7 d8 d9 ru q_ q8 q7 q6 q5 qZ q):Calls Tryz.prog 139 #[.agg #[c0,c1,c2,c3,c4,c5,c6,c7,c8,c9,aW,aP,aO,aU,aT,aS,aR],.agg #[d0,d1,d2,d3,d4,d5,d6,d7,d8,d9,ru,q_,q8,q7,q6,q5,qZ]] w0 (fun(r:Ending) (w':World)=>r=.returned (.bool (i_ p q))∧atv w0.heap.size w0 w'):=by
 have aM:=hr1 Tryz.prog Tryz.f139 (fun(r:Ending) (w':World)=>r=.returned (.bool (i_ p q))∧atv w0.heap.size w0 w') 63 4 rfl;refine en Tryz.func139 rfl Tryz.ntmps139 rfl (vs:=[.agg #[c0,c1,c2,c3,c4,c5,c6,c7,c8,c9,aW,aP,aO,aU,aT,aS,aR],.agg #[d0,d1,d2,d3,d4,d5,d6,d7,d8,d9,ru,q_,q8,q7,q6,q5,qZ]]) rfl fun _ F=>?_
 have M:=Mm.start w0;refine atO fun K1 dw=>ah<|oG (on rfl) rfl (F.u rf) rfl F rfl M fun g1 _ _ F M=>oG (on rfl) rfl (F.u rf) rfl F rfl M fun g2 _ _ F M=>xA (v:=.bool false) F rf rf rf fun _ F=>atP<|dw _ _ ?_
 refine atO fun K2 cQ=>ah<|kz F rf (eC (v:=.func (.func 214) #[] #[]) rfl rfl) fun _ F=>atP<|cQ _ _ ?_
 refine atO fun K3 fJ=>ah<|kz F rf (eC (v:=.func (.func 215) #[] #[]) rfl rfl) fun _ F=>atP<|fJ _ _ ?_
 refine atO fun K4 fQ=>ah<|xF 0 F rf rf rf iU rf ab0 rf fun _ F=>xL F (M.b 1 rfl) rf rf rf u22 rf rf fun _ F=>xF 0 F rf rf rf iU rf ab0 rf fun _ F=>xL F (M.b 0 rfl) rf rf rf u22 rf rf fun _ F=>xM F rf rf rf fun _ F=>xC F M rf rf afP (A8 (F.u rf) (F.u rf) (F.u rf)) (BM _ _ _ p.classes q.classes (hp.keep M.below).classes (hq.keep M.below).classes) fun _ _ F M=>xM F rf rf rf fun _ F=>bU (x:=.pointer (some ⟨g1,1,none⟩)) rfl rfl (F.g 13 rfl) (bt _) (fun ge=>(aI rfl (F.u rf) iU rfl abZ)) rfl F rfl rfl fun _ F=>bU (x:=c1) rfl rfl (F.g 13 rfl) (bt _) (fun ge=>(aD rfl ((F.g 14 rfl).on ge).ev Yx rfl ((M.b 1 rfl).c1 1))) rfl F rfl rfl fun _ F=>bU (x:=.pointer (some ⟨g2,1,none⟩)) rfl rfl (F.g 13 rfl) (bt _) (fun ge=>(aI rfl (F.u rf) iU rfl abZ)) rfl F rfl rfl fun _ F=>bU (x:=d1) rfl rfl (F.g 13 rfl) (bt _) (fun ge=>(aD rfl ((F.g 16 rfl).on ge).ev Yx rfl ((M.b 0 rfl).c1 1))) rfl F rfl rfl fun _ F=>bU (x:=.func (.func 215) #[] #[]) rfl rfl (F.g 13 rfl) (bt _) (fun ge=>(bC rfl (F.u rf))) rfl F rfl rfl fun _ F=>k_ rfl rfl (F.g 13 rfl) (bt _) (fun ge=>(bw rfl Tryz.func217 acs rfl (A8 ((F.g 15 rfl).on ge).ev ((F.g 17 rfl).on ge).ev ((F.g 18 rfl).on ge).ev))) (fun ge=>BL _ _ _ p.types q.types (hp.keep M.below).types (hq.keep M.below).types) rfl F rfl M fun _ _ F M=>kz F rf (rq (bq rfl (F.u rf) (F.u rf) rfl) (qH _ _)) fun _ F=>xM F rf rf rf fun _ F=>bU (x:=.pointer (some ⟨g1,2,none⟩)) rfl rfl (F.g 21 rfl) (bt _) (fun ge=>(aI rfl (F.u rf) iU rfl abY)) rfl F rfl rfl fun _ F=>bU (x:=c2) rfl rfl (F.g 21 rfl) (bt _) (fun ge=>(aD rfl ((F.g 22 rfl).on ge).ev u24 rfl ((M.b 1 rfl).c1 2))) rfl F rfl rfl fun _ F=>bU (x:=.pointer (some ⟨g2,2,none⟩)) rfl rfl (F.g 21 rfl) (bt _) (fun ge=>(aI rfl (F.u rf) iU rfl abY)) rfl F rfl rfl fun _ F=>bU (x:=d2) rfl rfl (F.g 21 rfl) (bt _) (fun ge=>(aD rfl ((F.g 24 rfl).on ge).ev u24 rfl ((M.b 0 rfl).c1 2))) rfl F rfl rfl fun _ F=>k_ rfl rfl (F.g 21 rfl) (bt _) (fun ge=>(bw rfl Tryz.func218 acr rfl (args2 ((F.g 23 rfl).on ge).ev ((F.g 25 rfl).on ge).ev))) (fun ge=>Em _ _ _ p.attrs q.attrs (hp.keep M.below).attrs (hq.keep M.below).attrs) rfl F rfl M fun _ _ F M=>kz F rf (rq (bq rfl (F.u rf) (F.u rf) rfl) (qH _ _)) fun _ F=>xM F rf rf rf fun _ F=>bU (x:=.pointer (some ⟨g1,3,none⟩)) rfl rfl (F.g 28 rfl) (bt _) (fun ge=>(aI rfl (F.u rf) iU rfl abX)) rfl F rfl rfl fun _ F=>bU (x:=c3) rfl rfl (F.g 28 rfl) (bt _) (fun ge=>(aD rfl ((F.g 29 rfl).on ge).ev u25 rfl ((M.b 1 rfl).c1 3))) rfl F rfl rfl fun _ F=>bU (x:=.pointer (some ⟨g2,3,none⟩)) rfl rfl (F.g 28 rfl) (bt _) (fun ge=>(aI rfl (F.u rf) iU rfl abX)) rfl F rfl rfl fun _ F=>bU (x:=d3) rfl rfl (F.g 28 rfl) (bt _) (fun ge=>(aD rfl ((F.g 31 rfl).on ge).ev u25 rfl ((M.b 0 rfl).c1 3))) rfl F rfl rfl fun _ F=>k_ rfl rfl (F.g 28 rfl) (bt _) (fun ge=>(bw rfl Tryz.func219 acq rfl (args2 ((F.g 30 rfl).on ge).ev ((F.g 32 rfl).on ge).ev))) (fun ge=>El _ _ _ p.roles q.roles (hp.keep M.below).roles (hq.keep M.below).roles) rfl F rfl M fun _ _ F M=>kz F rf (rq (bq rfl (F.u rf) (F.u rf) rfl) (qH _ _)) fun _ F=>xM F rf rf rf fun _ F=>bU (x:=.pointer (some ⟨g1,4,none⟩)) rfl rfl (F.g 35 rfl) (bt _) (fun ge=>(aI rfl (F.u rf) iU rfl abW)) rfl F rfl rfl fun _ F=>bU (x:=c4) rfl rfl (F.g 35 rfl) (bt _) (fun ge=>(aD rfl ((F.g 36 rfl).on ge).ev u26 rfl ((M.b 1 rfl).c1 4))) rfl F rfl rfl fun _ F=>bU (x:=.pointer (some ⟨g2,4,none⟩)) rfl rfl (F.g 35 rfl) (bt _) (fun ge=>(aI rfl (F.u rf) iU rfl abW)) rfl F rfl rfl fun _ F=>bU (x:=d4) rfl rfl (F.g 35 rfl) (bt _) (fun ge=>(aD rfl ((F.g 38 rfl).on ge).ev u26 rfl ((M.b 0 rfl).c1 4))) rfl F rfl rfl fun _ F=>k_ rfl rfl (F.g 35 rfl) (bt _) (fun ge=>(bw rfl Tryz.func220 acp rfl (args2 ((F.g 37 rfl).on ge).ev ((F.g 39 rfl).on ge).ev))) (fun ge=>Ek _ _ _ p.users q.users (hp.keep M.below).users (hq.keep M.below).users) rfl F rfl M fun _ _ F M=>kz F rf (rq (bq rfl (F.u rf) (F.u rf) rfl) (qH _ _)) fun _ F=>xM F rf rf rf fun _ F=>bU (x:=.pointer (some ⟨g1,5,none⟩)) rfl rfl (F.g 42 rfl) (bt _) (fun ge=>(aI rfl (F.u rf) iU rfl U_)) rfl F rfl rfl fun _ F=>bU (x:=c5) rfl rfl (F.g 42 rfl) (bt _) (fun ge=>(aD rfl ((F.g 43 rfl).on ge).ev u27 rfl ((M.b 1 rfl).c1 5))) rfl F rfl rfl fun _ F=>bU (x:=.pointer (some ⟨g2,5,none⟩)) rfl rfl (F.g 42 rfl) (bt _) (fun ge=>(aI rfl (F.u rf) iU rfl U_)) rfl F rfl rfl fun _ F=>bU (x:=d5) rfl rfl (F.g 42 rfl) (bt _) (fun ge=>(aD rfl ((F.g 45 rfl).on ge).ev u27 rfl ((M.b 0 rfl).c1 5))) rfl F rfl rfl fun _ F=>k_ rfl rfl (F.g 42 rfl) (bt _) (fun ge=>(bw rfl Tryz.func221 aco rfl (args2 ((F.g 44 rfl).on ge).ev ((F.g 46 rfl).on ge).ev))) (fun ge=>Ej _ _ _ p.bools q.bools (hp.keep M.below).bools (hq.keep M.below).bools) rfl F rfl M fun _ _ F M=>kz F rf (rq (bq rfl (F.u rf) (F.u rf) rfl) (qH _ _)) fun _ F=>xM F rf rf rf fun _ F=>bU (x:=.pointer (some ⟨g1,6,none⟩)) rfl rfl (F.g 49 rfl) (bt _) (fun ge=>(aI rfl (F.u rf) iU rfl sQ)) rfl F rfl rfl fun _ F=>bU (x:=c6) rfl rfl (F.g 49 rfl) (bt _) (fun ge=>(aD rfl ((F.g 50 rfl).on ge).ev Dv rfl ((M.b 1 rfl).c1 6))) rfl F rfl rfl fun _ F=>bU (x:=.pointer (some ⟨g2,6,none⟩)) rfl rfl (F.g 49 rfl) (bt _) (fun ge=>(aI rfl (F.u rf) iU rfl sQ)) rfl F rfl rfl fun _ F=>bU (x:=d6) rfl rfl (F.g 49 rfl) (bt _) (fun ge=>(aD rfl ((F.g 52 rfl).on ge).ev Dv rfl ((M.b 0 rfl).c1 6))) rfl F rfl rfl fun _ F=>k_ rfl rfl (F.g 49 rfl) (bt _) (fun ge=>(bw rfl Tryz.func213 GY rfl (args2 ((F.g 51 rfl).on ge).ev ((F.g 53 rfl).on ge).ev))) (fun ge=>jh _ _ _ p.aV q.aV (hp.keep M.below).aV (hq.keep M.below).aV) rfl F rfl M fun _ _ F M=>kz F rf (rq (bq rfl (F.u rf) (F.u rf) rfl) (qH _ _)) fun _ F=>xM F rf rf rf fun _ F=>bU (x:=.pointer (some ⟨g1,7,none⟩)) rfl rfl (F.g 56 rfl) (bt _) (fun ge=>(aI rfl (F.u rf) iU rfl sQ)) rfl F rfl rfl fun _ F=>bU (x:=c7) rfl rfl (F.g 56 rfl) (bt _) (fun ge=>(aD rfl ((F.g 57 rfl).on ge).ev Dv rfl ((M.b 1 rfl).c1 7))) rfl F rfl rfl fun _ F=>bU (x:=.pointer (some ⟨g2,7,none⟩)) rfl rfl (F.g 56 rfl) (bt _) (fun ge=>(aI rfl (F.u rf) iU rfl sQ)) rfl F rfl rfl fun _ F=>bU (x:=d7) rfl rfl (F.g 56 rfl) (bt _) (fun ge=>(aD rfl ((F.g 59 rfl).on ge).ev Dv rfl ((M.b 0 rfl).c1 7))) rfl F rfl rfl fun _ F=>k_ rfl rfl (F.g 56 rfl) (bt _) (fun ge=>(bw rfl Tryz.func213 GY rfl (args2 ((F.g 58 rfl).on ge).ev ((F.g 60 rfl).on ge).ev))) (fun ge=>jh _ _ _ p.cats q.cats (hp.keep M.below).cats (hq.keep M.below).cats) rfl F rfl M fun _ _ F M=>kz F rf (rq (bq rfl (F.u rf) (F.u rf) rfl) (qH _ _)) fun _ F=>xA F rf rf rf fun _ F=>atP<|fQ _ _ ?_
 refine wp_ret<|aM _ _ _ _ F rfl ?_;exact⟨rfl,M.below⟩
theorem Eh(w0:World)(c0 c1 c2 c3 c4 c5 c6 c7 c8 c9 aW aP aO aU aT aS aR d0 d1 d2 d3 d4 d5 d6 d7 d8 d9 ru q_ q8 q7 q6 q5 qZ:Value)(p q:aG)(hp:aL w0 c0 c1 c2 c3 c4 c5 c6 c7 c8 c9 aW aP aO aU aT aS aR p)(hq:aL w0 d0 d1 d2 d3 d4 d5 d6 d7 d8 d9 ru q_ q8 q7 q6 q5 qZ q):Calls Tryz.prog 72 #[.agg #[c0,c1,c2,c3,c4,c5,c6,c7,c8,c9,aW,aP,aO,aU,aT,aS,aR],.agg #[d0,d1,d2,d3,d4,d5,d6,d7,d8,d9,ru,q_,q8,q7,q6,q5,qZ]] w0 (fun(r:Ending) (w':World)=>r=.returned (.bool (eO p q))∧atv w0.heap.size w0 w'):=by
 have aM:=hr1 Tryz.prog Tryz.f72 (fun(r:Ending) (w':World)=>r=.returned (.bool (eO p q))∧atv w0.heap.size w0 w') 73 4 rfl;refine en Tryz.func72 rfl Tryz.ntmps72 rfl (vs:=[.agg #[c0,c1,c2,c3,c4,c5,c6,c7,c8,c9,aW,aP,aO,aU,aT,aS,aR],.agg #[d0,d1,d2,d3,d4,d5,d6,d7,d8,d9,ru,q_,q8,q7,q6,q5,qZ]]) rfl fun _ F=>?_
 have M:=Mm.start w0;refine atO fun K1 dw=>ah<|oG (on rfl) rfl (F.u rf) rfl F rfl M fun g1 _ _ F M=>oG (on rfl) rfl (F.u rf) rfl F rfl M fun g2 _ _ F M=>xA (v:=.bool false) F rf rf rf fun _ F=>atP<|dw _ _ ?_
 refine atO fun K2 cQ=>ah<|kz F rf (eC (v:=.func (.func 137) #[] #[]) rfl rfl) fun _ F=>atP<|cQ _ _ ?_
 refine atO fun K3 fJ=>ah<|xW F (M.b 1 rfl) rf rf rf iU rf kS rf fun _ F=>xW F (M.b 0 rfl) rf rf rf iU rf kS rf fun _ F=>xC F M rf rf afU (args2 (F.u rf) (F.u rf)) (xX _ _ _ _ _ _ _ _ _ _ _ _ _ _ _ _ _ _ _ _ _ _ _ _ _ _ _ _ _ _ _ _ _ _ _ p q (hp.keep M.below) (hq.keep M.below)) fun _ _ F M=>xM F rf rf rf fun _ F=>bU (x:=.pointer (some ⟨g1,8,none⟩)) rfl rfl (F.g 9 rfl) (bt _) (fun ge=>(aI rfl (F.u rf) iU rfl qG)) rfl F rfl rfl fun _ F=>bU (x:=c8) rfl rfl (F.g 9 rfl) (bt _) (fun ge=>(aD rfl ((F.g 10 rfl).on ge).ev sM rfl ((M.b 1 rfl).c1 8))) rfl F rfl rfl fun _ F=>bU (x:=.pointer (some ⟨g2,8,none⟩)) rfl rfl (F.g 9 rfl) (bt _) (fun ge=>(aI rfl (F.u rf) iU rfl qG)) rfl F rfl rfl fun _ F=>bU (x:=d8) rfl rfl (F.g 9 rfl) (bt _) (fun ge=>(aD rfl ((F.g 12 rfl).on ge).ev sM rfl ((M.b 0 rfl).c1 8))) rfl F rfl rfl fun _ F=>k_ rfl rfl (F.g 9 rfl) (bt _) (fun ge=>(bw rfl Tryz.func140 Xw rfl (A8 ((F.g 11 rfl).on ge).ev ((F.g 13 rfl).on ge).ev rfl))) (fun ge=>qX _ _ _ p.conds q.conds (hp.keep M.below).conds (hq.keep M.below).conds fun x _ y w cx cy hx hy=>sW x y w cx cy hx hy) rfl F rfl M fun _ _ F M=>kz F rf (rq (bq rfl (F.u rf) (F.u rf) rfl) (qH _ _)) fun _ F=>xM F rf rf rf fun _ F=>bU (x:=.pointer (some ⟨g1,9,none⟩)) rfl rfl (F.g 16 rfl) (bt _) (fun ge=>(aI rfl (F.u rf) iU rfl U9)) rfl F rfl rfl fun _ F=>bU (x:=c9) rfl rfl (F.g 16 rfl) (bt _) (fun ge=>(aD rfl ((F.g 17 rfl).on ge).ev Yw rfl ((M.b 1 rfl).c1 9))) rfl F rfl rfl fun _ F=>bU (x:=.pointer (some ⟨g2,9,none⟩)) rfl rfl (F.g 16 rfl) (bt _) (fun ge=>(aI rfl (F.u rf) iU rfl U9)) rfl F rfl rfl fun _ F=>bU (x:=d9) rfl rfl (F.g 16 rfl) (bt _) (fun ge=>(aD rfl ((F.g 19 rfl).on ge).ev Yw rfl ((M.b 0 rfl).c1 9))) rfl F rfl rfl fun _ F=>k_ rfl rfl (F.g 16 rfl) (bt _) (fun ge=>(bw rfl Tryz.func141 acF rfl (args2 ((F.g 18 rfl).on ge).ev ((F.g 20 rfl).on ge).ev))) (fun ge=>Et _ _ _ p.rules q.rules (hp.keep M.below).rules (hq.keep M.below).rules) rfl F rfl M fun _ _ F M=>kz F rf (rq (bq rfl (F.u rf) (F.u rf) rfl) (qH _ _)) fun _ F=>xM F rf rf rf fun _ F=>bU (x:=.pointer (some ⟨g1,10,none⟩)) rfl rfl (F.g 23 rfl) (bt _) (fun ge=>(aI rfl (F.u rf) iU rfl YC)) rfl F rfl rfl fun _ F=>bU (x:=aW) rfl rfl (F.g 23 rfl) (bt _) (fun ge=>(aD rfl ((F.g 24 rfl).on ge).ev Yv rfl ((M.b 1 rfl).c1 10))) rfl F rfl rfl fun _ F=>bU (x:=.pointer (some ⟨g2,10,none⟩)) rfl rfl (F.g 23 rfl) (bt _) (fun ge=>(aI rfl (F.u rf) iU rfl YC)) rfl F rfl rfl fun _ F=>bU (x:=ru) rfl rfl (F.g 23 rfl) (bt _) (fun ge=>(aD rfl ((F.g 26 rfl).on ge).ev Yv rfl ((M.b 0 rfl).c1 10))) rfl F rfl rfl fun _ F=>k_ rfl rfl (F.g 23 rfl) (bt _) (fun ge=>(bw rfl Tryz.func74 af0 rfl (args2 ((F.g 25 rfl).on ge).ev ((F.g 27 rfl).on ge).ev))) (fun ge=>w_ _ _ _ p.trans q.trans (hp.keep M.below).trans (hq.keep M.below).trans) rfl F rfl M fun _ _ F M=>kz F rf (rq (bq rfl (F.u rf) (F.u rf) rfl) (qH _ _)) fun _ F=>xM F rf rf rf fun _ F=>bU (x:=.pointer (some ⟨g1,11,none⟩)) rfl rfl (F.g 30 rfl) (bt _) (fun ge=>(aI rfl (F.u rf) iU rfl abV)) rfl F rfl rfl fun _ F=>bU (x:=aP) rfl rfl (F.g 30 rfl) (bt _) (fun ge=>(aD rfl ((F.g 31 rfl).on ge).ev u32 rfl ((M.b 1 rfl).c1 11))) rfl F rfl rfl fun _ F=>bU (x:=.pointer (some ⟨g2,11,none⟩)) rfl rfl (F.g 30 rfl) (bt _) (fun ge=>(aI rfl (F.u rf) iU rfl abV)) rfl F rfl rfl fun _ F=>bU (x:=q_) rfl rfl (F.g 30 rfl) (bt _) (fun ge=>(aD rfl ((F.g 33 rfl).on ge).ev u32 rfl ((M.b 0 rfl).c1 11))) rfl F rfl rfl fun _ F=>k_ rfl rfl (F.g 30 rfl) (bt _) (fun ge=>(bw rfl Tryz.func142 acE rfl (args2 ((F.g 32 rfl).on ge).ev ((F.g 34 rfl).on ge).ev))) (fun ge=>Es _ _ _ p.aQ q.aQ (hp.keep M.below).aQ (hq.keep M.below).aQ) rfl F rfl M fun _ _ F M=>kz F rf (rq (bq rfl (F.u rf) (F.u rf) rfl) (qH _ _)) fun _ F=>xM F rf rf rf fun _ F=>bU (x:=.pointer (some ⟨g1,12,none⟩)) rfl rfl (F.g 37 rfl) (bt _) (fun ge=>(aI rfl (F.u rf) iU rfl abU)) rfl F rfl rfl fun _ F=>bU (x:=aO) rfl rfl (F.g 37 rfl) (bt _) (fun ge=>(aD rfl ((F.g 38 rfl).on ge).ev u33 rfl ((M.b 1 rfl).c1 12))) rfl F rfl rfl fun _ F=>bU (x:=.pointer (some ⟨g2,12,none⟩)) rfl rfl (F.g 37 rfl) (bt _) (fun ge=>(aI rfl (F.u rf) iU rfl abU)) rfl F rfl rfl fun _ F=>bU (x:=q8) rfl rfl (F.g 37 rfl) (bt _) (fun ge=>(aD rfl ((F.g 40 rfl).on ge).ev u33 rfl ((M.b 0 rfl).c1 12))) rfl F rfl rfl fun _ F=>k_ rfl rfl (F.g 37 rfl) (bt _) (fun ge=>(bw rfl Tryz.func143 acD rfl (args2 ((F.g 39 rfl).on ge).ev ((F.g 41 rfl).on ge).ev))) (fun ge=>Er _ _ _ p.ranges q.ranges (hp.keep M.below).ranges (hq.keep M.below).ranges) rfl F rfl M fun _ _ F M=>kz F rf (rq (bq rfl (F.u rf) (F.u rf) rfl) (qH _ _)) fun _ F=>xM F rf rf rf fun _ F=>bU (x:=.pointer (some ⟨g1,13,none⟩)) rfl rfl (F.g 44 rfl) (bt _) (fun ge=>(aI rfl (F.u rf) iU rfl abT)) rfl F rfl rfl fun _ F=>bU (x:=aU) rfl rfl (F.g 44 rfl) (bt _) (fun ge=>(aD rfl ((F.g 45 rfl).on ge).ev Yu rfl ((M.b 1 rfl).c1 13))) rfl F rfl rfl fun _ F=>bU (x:=.pointer (some ⟨g2,13,none⟩)) rfl rfl (F.g 44 rfl) (bt _) (fun ge=>(aI rfl (F.u rf) iU rfl abT)) rfl F rfl rfl fun _ F=>bU (x:=q7) rfl rfl (F.g 44 rfl) (bt _) (fun ge=>(aD rfl ((F.g 47 rfl).on ge).ev Yu rfl ((M.b 0 rfl).c1 13))) rfl F rfl rfl fun _ F=>bU (x:=.func (.func 137) #[] #[]) rfl rfl (F.g 44 rfl) (bt _) (fun ge=>(bC rfl (F.u rf))) rfl F rfl rfl fun _ F=>k_ rfl rfl (F.g 44 rfl) (bt _) (fun ge=>(bw rfl Tryz.func144 acC rfl (A8 ((F.g 46 rfl).on ge).ev ((F.g 48 rfl).on ge).ev ((F.g 49 rfl).on ge).ev))) (fun ge=>BN _ _ _ p.cons q.cons (hp.keep M.below).cons (hq.keep M.below).cons) rfl F rfl M fun _ _ F M=>kz F rf (rq (bq rfl (F.u rf) (F.u rf) rfl) (qH _ _)) fun _ F=>xM F rf rf rf fun _ F=>bU (x:=.pointer (some ⟨g1,14,none⟩)) rfl rfl (F.g 52 rfl) (bt _) (fun ge=>(aI rfl (F.u rf) iU rfl abS)) rfl F rfl rfl fun _ F=>bU (x:=aT) rfl rfl (F.g 52 rfl) (bt _) (fun ge=>(aD rfl ((F.g 53 rfl).on ge).ev u35 rfl ((M.b 1 rfl).c1 14))) rfl F rfl rfl fun _ F=>bU (x:=.pointer (some ⟨g2,14,none⟩)) rfl rfl (F.g 52 rfl) (bt _) (fun ge=>(aI rfl (F.u rf) iU rfl abS)) rfl F rfl rfl fun _ F=>bU (x:=q6) rfl rfl (F.g 52 rfl) (bt _) (fun ge=>(aD rfl ((F.g 55 rfl).on ge).ev u35 rfl ((M.b 0 rfl).c1 14))) rfl F rfl rfl fun _ F=>k_ rfl rfl (F.g 52 rfl) (bt _) (fun ge=>(bw rfl Tryz.func145 acB rfl (args2 ((F.g 54 rfl).on ge).ev ((F.g 56 rfl).on ge).ev))) (fun ge=>Ep _ _ _ p.bP q.bP (hp.keep M.below).bP (hq.keep M.below).bP) rfl F rfl M fun _ _ F M=>kz F rf (rq (bq rfl (F.u rf) (F.u rf) rfl) (qH _ _)) fun _ F=>xM F rf rf rf fun _ F=>bU (x:=.pointer (some ⟨g1,15,none⟩)) rfl rfl (F.g 59 rfl) (bt _) (fun ge=>(aI rfl (F.u rf) iU rfl abR)) rfl F rfl rfl fun _ F=>bU (x:=aS) rfl rfl (F.g 59 rfl) (bt _) (fun ge=>(aD rfl ((F.g 60 rfl).on ge).ev u36 rfl ((M.b 1 rfl).c1 15))) rfl F rfl rfl fun _ F=>bU (x:=.pointer (some ⟨g2,15,none⟩)) rfl rfl (F.g 59 rfl) (bt _) (fun ge=>(aI rfl (F.u rf) iU rfl abR)) rfl F rfl rfl fun _ F=>bU (x:=q5) rfl rfl (F.g 59 rfl) (bt _) (fun ge=>(aD rfl ((F.g 62 rfl).on ge).ev u36 rfl ((M.b 0 rfl).c1 15))) rfl F rfl rfl fun _ F=>k_ rfl rfl (F.g 59 rfl) (bt _) (fun ge=>(bw rfl Tryz.func146 acA rfl (args2 ((F.g 61 rfl).on ge).ev ((F.g 63 rfl).on ge).ev))) (fun ge=>Eo _ _ _ p.files q.files (hp.keep M.below).files (hq.keep M.below).files) rfl F rfl M fun _ _ F M=>kz F rf (rq (bq rfl (F.u rf) (F.u rf) rfl) (qH _ _)) fun _ F=>xM F rf rf rf fun _ F=>bU (x:=.pointer (some ⟨g1,16,none⟩)) rfl rfl (F.g 66 rfl) (bt _) (fun ge=>(aI rfl (F.u rf) iU rfl abQ)) rfl F rfl rfl fun _ F=>bU (x:=aR) rfl rfl (F.g 66 rfl) (bt _) (fun ge=>(aD rfl ((F.g 67 rfl).on ge).ev u37 rfl ((M.b 1 rfl).c1 16))) rfl F rfl rfl fun _ F=>bU (x:=.pointer (some ⟨g2,16,none⟩)) rfl rfl (F.g 66 rfl) (bt _) (fun ge=>(aI rfl (F.u rf) iU rfl abQ)) rfl F rfl rfl fun _ F=>bU (x:=qZ) rfl rfl (F.g 66 rfl) (bt _) (fun ge=>(aD rfl ((F.g 69 rfl).on ge).ev u37 rfl ((M.b 0 rfl).c1 16))) rfl F rfl rfl fun _ F=>k_ rfl rfl (F.g 66 rfl) (bt _) (fun ge=>(bw rfl Tryz.func147 acz rfl (args2 ((F.g 68 rfl).on ge).ev ((F.g 70 rfl).on ge).ev))) (fun ge=>En _ _ _ p.asserts q.asserts (hp.keep M.below).asserts (hq.keep M.below).asserts) rfl F rfl M fun _ _ F M=>kz F rf (rq (bq rfl (F.u rf) (F.u rf) rfl) (qH _ _)) fun _ F=>xA F rf rf rf fun _ F=>atP<|fJ _ _ ?_
 refine wp_ret<|aM _ _ _ _ F rfl ?_;exact⟨rfl,M.below⟩
theorem mR(w0:World)(v v':Value)(l l':List ByteArray)(h:bp w0 v l)(h':bp w0 v' l'):Calls Tryz.prog 131 #[v,v'] w0 fun r w'=>r=.returned (.bool (decide (l=l')))∧atv w0.heap.size w0 w':=by
 obtain⟨la,lk,rfl,yT,hcell⟩:=h.get;obtain⟨la',lk',rfl,-,Ap⟩:=h'.get;have no:l≠l'→Ending.returned (kR [Value.bool false])=.returned (.bool (decide (l=l'))):=fun h=>by rw[decide_eq_false h];rfl
 refine fL [] (fn:=Tryz.f131) Tryz.func131 rfl Tryz.ntmps131 rfl<|an (fun h M=>⟨no fun e=>by rw[e] at h;simp at h,M.below⟩) fun h=>lr (ι:=Nat) (fun m=>[(5,.int .i64 (m:Int))]) (fun m _=>m≤l.length∧l.take m=l'.take m) (fun m=>l.length-m) 0 (an ⟨⟨rfl,trivial⟩,fun M=>⟨M,atx _,rfl⟩⟩ ?_)
 have hll:l.length=l'.length:=Int.ofNat_inj.1 (by simpa using h);rintro m w M ⟨hm,ht⟩;refine an (fun h2=>?_) fun h2 M=>⟨?_,M.below⟩
 ·simp only[decide_eq_true_eq] at h2;obtain⟨x,hx⟩:∃ x,l[m]?=some x:=⟨_,atH (by omega)⟩;obtain⟨y,hy⟩:∃ y,l'[m]?=some y:=⟨_,atH (by omega)⟩;obtain⟨b,off,e1,hc⟩:=hcell m x hx;obtain⟨b',off',e2,hc'⟩:=Ap m y hy;refine dr (by kernel_rfl)<|ia<|an ⟨e1,rfl,by omega⟩<|lc<|an (atJ M.below hc)<|ia<|an ⟨e2,rfl,by omega⟩<|lc<|an (atJ M.below hc') fun w2 hb2 M=>an (fun h3 M=>⟨no fun e=>?_,M.below⟩) fun h3=>an (by omega) (bk (m+1) ⟨rfl,trivial⟩ (fun M=>⟨M,by omega,iW ht hx hy ?_⟩) (by dsimp only;omega))
  ·subst e;rw[hx] at hy;obtain rfl:=atD hy;simp at h3
  ·rw[nG] at h3;simpa using h3
 ·simp only[decide_eq_false_iff_not] at h2;rw[decide_eq_true (oW ht hll (by omega))];rfl
section
variable {α:Type} {p:α→α→Bool} {l r:List α} {m:Nat} {x y:α}
theorem eS(hx:l[m]?=some x)(hy:r[m]?=some y):aq p (l.take (m+1)) (r.take (m+1))=(aq p (l.take m) (r.take m)&&p x y):=by
 induction l generalizing r m with
 | nil=>simp at hx
 | cons a l ih=>cases r with
  | nil=>simp at hy
  | cons b r=>cases m with
   | zero=>
    simp only[List.getElem?_cons_zero,Option.some.injEq] at hx hy;subst hx hy;simp[aq]
   | succ m=>
    simp only[List.getElem?_cons_succ] at hx hy;simp only[List.take_succ_cons,aq,ih hx hy,Bool.and_assoc]
theorem eT(h:l.length=r.length):aq p (l.take l.length) (r.take l.length)=aq p l r:=by
 rw[atS,h,atS]
theorem eP:aq p (l.take 0) (r.take 0)=true:=by rw[List.take_zero,List.take_zero];rfl
end
theorem j5{α:Type}[DecidableEq α]:∀ l r:List α,aq (fun x y=>decide (x=y)) l r=decide (l=r)
 | [],[]=>by simp[aq]
 | [],_::_=>by simp[aq]
 | _::_,[]=>by simp[aq]
 | x::l,y::r=>by
  rw[aq,j5 l r];by_cases h:x=y<;>simp[h]
theorem dZ{a b:Bool}(h:a=b):(some (Value.bool a))=some (Value.bool b):=by rw[h]
theorem Ua{α:Type}{p:α→α→Bool}{l r:List α}{m:Nat}{x y:α}(hx:l[m]?=some x)(hy:r[m]?=some y)(h:p x y=false):aq p l r=false:=by
 induction l generalizing r m with
 | nil=>simp at hx
 | cons a l ih=>cases r with
  | nil=>simp at hy
  | cons b r=>cases m with
   | zero=>
    simp only[List.getElem?_cons_zero,Option.some.injEq] at hx hy;subst hx hy;simp[aq,h]
   | succ m=>
    simp only[List.getElem?_cons_succ] at hx hy;simp[aq,ih hx hy]
theorem pz:∀ e:aA,∀ (w0:World) (cs cs':List Value) (y:aA),bB w0 cs e→bB w0 cs' y→Calls Tryz.prog 132 #[.agg cs.toArray,.agg cs'.toArray] w0 fun r w'=>r=.returned (.bool (dI e y))∧atv w0.heap.size w0 w':=by
 refine aA.ind fun e ih=>?_
 intro w0 cs cs' y h h';obtain⟨nv,kv,rfl,Nb,hk⟩:=h.open;obtain⟨ka,kc,rfl,-,yT,hcell⟩:=hk.form (by decide);obtain⟨nv',kv',rfl,agO,hk'⟩:=h'.open;obtain⟨ka',kc',rfl,-,-,Ap⟩:=hk'.form (by decide);have no:dI e y=false→Ending.returned (kR [Value.bool false])=.returned (.bool (dI e y)):=fun h=>by rw[h];rfl
 refine fL [] (fn:=Tryz.f132) Tryz.func132 rfl Tryz.ntmps132 rfl fun g1 w1 M1=>fun g2 w2 M2=>lb 1<|an rfl<|lb 0<|an rfl<|lb 1<|an (fun _=>rfl)<|lb 0<|an (fun _=>rfl)<|lb 1<|an (fun _=>rfl)<|lb 0<|an (fun _=>rfl)<|lb 1<|an (fun _=>rfl)<|lb 0<|an (fun _=>rfl)<|lb 1<|an (fun _=>rfl)<|lb 0<|an (fun _=>rfl)<|ei<|an (fun _=>⟨AJ,fun w=>AB e.set y.set w⟩)<|lb 1<|an (fun _=>rfl)<|lb 0<|an (fun _=>rfl)<|cl<|an (fun _=>mR _ _ _ _ _ (Nb.keep M2.below) (agO.keep M2.below)) fun w3 M=>lb 1<|an (fun _=>rfl)<|lb 0<|an (fun _=>rfl)<|an (fun h M=>⟨no ?_,M.below⟩) fun h=>?_
 ·rw[zJ];by_cases hl:e.kids.length=y.kids.length
  ·simp only[hl] at h;simp at h ⊢;intro a1 a2 a3 a4 a5 a6
   simp_all
  ·rw[← rY hl,Bool.and_false]
 simp only[Bool.or_eq_false_iff,Bool.not_eq_false',decide_eq_true_eq] at h;obtain⟨⟨⟨⟨⟨⟨h1,h2⟩,h3⟩,h4⟩,h5⟩,h6⟩,h7⟩:=h;have hll:e.kids.length=y.kids.length:=by omega
 have hE:dI e y=aq dI e.kids y.kids:=by
  rw[zJ];simp[h1,h2,h3,h4,h5,h6]
 refine lr (ι:=Nat) (fun m=>[(5,.int .i64 (m:Int))]) (fun m _=>m≤e.kids.length∧aq dI (e.kids.take m) (y.kids.take m)=true) (fun m=>e.kids.length-m) 0 (an ⟨⟨rfl,trivial⟩,fun M=>⟨M,atx _,eP⟩⟩ ?_);rintro m w M ⟨hm,ht⟩;refine lb 1<|an rfl<|an (fun h8=>?_) fun h8 M=>⟨?_,M.below⟩
 ·simp only[decide_eq_true_eq] at h8;obtain⟨x1,hx⟩:∃ x,e.kids[m]?=some x:=⟨_,atH (by omega)⟩;obtain⟨x2,hy⟩:∃ x,y.kids[m]?=some x:=⟨_,atH (by omega)⟩;obtain⟨b1,o1,z1,e1,D_,-,hr1⟩:=hcell m x1 hx;obtain⟨b2,o2,z2,e2,he2,-,qB⟩:=Ap m x2 hy;obtain⟨vK,G9,rfl,-⟩:=D_.open;obtain⟨BD,Si,rfl,-⟩:=he2.open;refine dr (by kernel_rfl)<|lb 1<|an rfl<|ia<|an ⟨e1,rfl,by omega⟩<|lc<|an (dJ M.below hr1)<|lb 0<|an rfl<|ia<|an ⟨e2,rfl,by omega⟩<|lc<|an (dJ M.below qB)<|cl<|an (fun w' hb' M'=>ih x1 (atG hx) _ _ _ x2 (bB.keep M'.below D_) (bB.keep M'.below he2)) fun w4 hb4 M=>an (fun h9 M=>⟨no ?_,M.below⟩) fun h9=>an (by omega) (bk (m+1) ⟨rfl,trivial⟩ (fun M=>⟨M,by omega,?_⟩) (by dsimp only;omega))
  ·rw[hE,Ua hx hy (by simpa using h9)]
  ·rw[eS hx hy,ht];simpa using h9
 ·simp only[decide_eq_false_iff_not] at h8;obtain rfl:m=e.kids.length:=by omega
  rw[hE,← eT hll,ht];rfl
theorem qE{α:Type}{p:α→α→Bool}{l r:List α}(h:aq p l r=true):l.length=r.length:=by
 by_cases hl:l.length=r.length
 ·exact hl
 ·rw[← rY hl] at h;cases h
theorem DG{p q:aG}(h:i_ p q=true):p.classes.length=q.classes.length∧p.types.length=q.types.length∧p.attrs=q.attrs∧p.roles=q.roles∧p.users=q.users∧p.bools=q.bools∧p.aV=q.aV∧p.cats=q.cats:=by
 unfold i_ at h;simp only[atU,decide_eq_true_eq] at h;obtain⟨⟨⟨⟨⟨⟨⟨h1,h2⟩,h3⟩,h4⟩,h5⟩,h6⟩,h7⟩,h8⟩:=h;exact⟨qE h1,qE h2,h3,h4,h5,h6,h7,h8⟩
theorem sU(w0:World)(c0 c1 c2 c3 c4 c5 c6 c7 c8 c9 aW aP aO aU aT aS aR d0 d1 d2 d3 d4 d5 d6 d7 d8 d9 ru q_ q8 q7 q6 q5 qZ:Value)(p q:aG)(hp:aL w0 c0 c1 c2 c3 c4 c5 c6 c7 c8 c9 aW aP aO aU aT aS aR p)(hq:aL w0 d0 d1 d2 d3 d4 d5 d6 d7 d8 d9 ru q_ q8 q7 q6 q5 qZ q):Calls Tryz.prog 67 #[.agg #[c0,c1,c2,c3,c4,c5,c6,c7,c8,c9,aW,aP,aO,aU,aT,aS,aR],.agg #[d0,d1,d2,d3,d4,d5,d6,d7,d8,d9,ru,q_,q8,q7,q6,q5,qZ]] w0 fun r w'=>r=.returned (.bool (i_ p q))∧atv w0.heap.size w0 w':=by
 obtain⟨la0,lk0,rfl,-,hm0,hc0⟩:=aC.form hp.classes (by decide);obtain⟨ma0,mk0,rfl,-,-,XI⟩:=aC.form hq.classes (by decide);obtain⟨Jc,Jb,rfl,-,hm1,hc1⟩:=aC.form hp.types (by decide);obtain⟨ma1,mk1,rfl,-,-,hd1⟩:=aC.form hq.types (by decide);obtain⟨KR,KI,rfl,-,hm2,-⟩:=SliceAt.form hp.attrs (by decide);obtain⟨ma2,mk2,rfl,-⟩:=SliceAt.form hq.attrs (by decide);obtain⟨la3,lk3,rfl,-,hm3,-⟩:=SliceAt.form hp.roles (by decide);obtain⟨ma3,mk3,rfl,-⟩:=SliceAt.form hq.roles (by decide);obtain⟨la4,lk4,rfl,-,hm4,-⟩:=SliceAt.form hp.users (by decide);obtain⟨ma4,mk4,rfl,-⟩:=SliceAt.form hq.users (by decide);obtain⟨gh,f_,rfl,-,hm5,-⟩:=SliceAt.form hp.bools (by decide);obtain⟨ma5,mk5,rfl,-⟩:=SliceAt.form hq.bools (by decide);obtain⟨ka6,kk6,hv6,-⟩:=bp.get hp.aV;have no:i_ p q=false→Ending.returned (kR [Value.bool false])=.returned (.bool (i_ p q)):=fun h=>by rw[h];rfl
 refine fL [] (fn:=Tryz.f67) Tryz.func67 rfl Tryz.ntmps67 rfl fun g1 w1 M1=>fun g2 w2 M2=>lb 1<|an rfl<|lb 0<|an rfl<|lb 1<|an (fun _=>rfl)<|lb 0<|an (fun _=>rfl)<|lb 1<|an (fun _=>rfl)<|lb 0<|an (fun _=>rfl)<|lb 1<|an (fun _=>rfl)<|lb 0<|an (fun _=>rfl)<|lb 1<|an (fun _=>rfl)<|lb 0<|an (fun _=>rfl)<|lb 1<|an (fun _=>rfl)<|lb 0<|an (fun _=>rfl)<|lb 1<|an (fun _=>rfl)<|lb 0<|an (fun _=>rfl)<|cl<|an (fun _=>mR _ _ _ _ _ (bp.keep hp.aV M2.below) (bp.keep hq.aV M2.below)) fun w3 M=>lb 1<|an (fun _=>rfl)<|lb 0<|an (fun _=>rfl)<|cl<|an (fun _=>mR _ _ _ _ _ (bp.keep hp.cats M.below) (bp.keep hq.cats M.below)) fun w4 M=>an (fun h M=>⟨no ?_,M.below⟩) fun h=>?_
 ·cases hs:i_ p q with
  | false=>rfl
  | true=>
   obtain⟨a1,a2,a3,a4,a5,a6,a7,a8⟩:=DG hs;simp[a1,a2,a3,a4,a5,a6,a7,a8] at h
 simp only[Bool.or_eq_false_iff,Bool.not_eq_false',decide_eq_true_eq] at h;obtain⟨⟨⟨⟨⟨⟨⟨Lh,SZ⟩,S9⟩,S5⟩,SY⟩,S8⟩,hS1⟩,hS2⟩:=h;have La:p.classes.length=q.classes.length:=by have:=Lh;omega
 have SJ:p.types.length=q.types.length:=by have:=SZ;omega
 have Hw:p.attrs.length=q.attrs.length:=by have:=S9;omega
 have Ht:p.roles.length=q.roles.length:=by have:=S5;omega
 have Hq:p.users.length=q.users.length:=by have:=SY;omega
 have Hv:p.bools.length=q.bools.length:=by have:=S8;omega
 refine lr (ι:=Nat) (fun m=>[(5,.bool (true&&aq iJ (p.classes.take m) (q.classes.take m))),(6,.int .i64 (m:Int))]) (fun m _=>m≤p.classes.length) (fun m=>p.classes.length-m) 0 (an ⟨⟨dZ (by rw[eP];rfl),rfl,trivial⟩,fun M=>⟨M,atx _⟩⟩ ?_);intro m w M hm;refine lb 1<|an rfl<|an (fun h=>?_) fun h=>?_
 ·simp only[decide_eq_true_eq] at h;obtain⟨x,hx⟩:∃ x,p.classes[m]?=some x:=⟨_,atH (by omega)⟩;obtain⟨y,hy⟩:∃ y,q.classes[m]?=some y:=⟨_,atH (by omega)⟩;obtain⟨b,o,z,e1,hz,-,hc⟩:=hc0 m x hx;obtain⟨b',o',z',e2,hz',-,hc'⟩:=XI m y hy;obtain⟨pv,rfl,hpv⟩:=hz;obtain⟨pv',rfl,Zn⟩:=hz';refine dr (by kernel_rfl)<|lb 1<|an (fun _=>rfl)<|ia<|an (fun _=>⟨e1,rfl,by omega⟩)<|lc<|an (fun _=>atJ M.below (hc 0 _ rfl))<|lb 0<|an (fun _=>rfl)<|ia<|an (fun _=>⟨e2,rfl,by omega⟩)<|lc<|an (fun _=>atJ M.below (hc' 0 _ rfl))<|lb 1<|an (fun _=>rfl)<|ia<|an (fun _=>⟨e1,rfl,by omega⟩)<|lc<|an (fun _=>atJ M.below (hc 1 _ rfl))<|lb 0<|an (fun _=>rfl)<|ia<|an (fun _=>⟨e2,rfl,by omega⟩)<|lc<|an (fun _=>atJ M.below (hc' 1 _ rfl))<|cl<|an (fun _ w' hb' M'=>mR w' _ _ _ _ (hpv.keep M'.below) (Zn.keep M'.below)) fun w2 hb M=>an (by omega) (bk (m+1) ⟨dZ (by rw[eS hx hy];unfold iJ;simp[Bool.and_assoc,nG]),rfl,trivial⟩ (fun M=>⟨M,by omega⟩) (by dsimp only;omega))
 simp only[decide_eq_false_iff_not] at h;obtain rfl:m=p.classes.length:=by omega
 refine lr (ι:=Nat) (fun m=>[(5,.bool ((true&&aq iJ p.classes q.classes)&&aq iZ (p.types.take m) (q.types.take m))),(7,.int .i64 (m:Int))]) (fun m _=>m≤p.types.length) (fun m=>p.types.length-m) 0 (an ⟨⟨dZ (by rw[eT La,eP,Bool.and_true]),rfl,trivial⟩,fun M=>⟨M,atx _⟩⟩ ?_);intro m w M hm;refine lb 1<|an rfl<|an (fun h=>?_) fun h=>?_
 ·simp only[decide_eq_true_eq] at h;obtain⟨x,hx⟩:∃ x,p.types[m]?=some x:=⟨_,atH (by omega)⟩;obtain⟨y,hy⟩:∃ y,q.types[m]?=some y:=⟨_,atH (by omega)⟩;obtain⟨b,o,z,e1,hz,-,hc⟩:=hc1 m x hx;obtain⟨b',o',z',e2,hz',-,hc'⟩:=hd1 m y hy;obtain⟨pv,rfl,hpv⟩:=hz;obtain⟨pv',rfl,Zn⟩:=hz';refine dr (by kernel_rfl)<|lb 1<|an (fun _=>rfl)<|ia<|an (fun _=>⟨e1,rfl,by omega⟩)<|lc<|an (fun _=>atJ M.below (hc 0 _ rfl))<|lb 0<|an (fun _=>rfl)<|ia<|an (fun _=>⟨e2,rfl,by omega⟩)<|lc<|an (fun _=>atJ M.below (hc' 0 _ rfl))<|lb 1<|an (fun _=>rfl)<|ia<|an (fun _=>⟨e1,rfl,by omega⟩)<|lc<|an (fun _=>atJ M.below (hc 2 _ rfl))<|lb 0<|an (fun _=>rfl)<|ia<|an (fun _=>⟨e2,rfl,by omega⟩)<|lc<|an (fun _=>atJ M.below (hc' 2 _ rfl))<|lb 1<|an (fun _=>rfl)<|ia<|an (fun _=>⟨e1,rfl,by omega⟩)<|lc<|an (fun _=>atJ M.below (hc 1 _ rfl))<|lb 0<|an (fun _=>rfl)<|ia<|an (fun _=>⟨e2,rfl,by omega⟩)<|lc<|an (fun _=>atJ M.below (hc' 1 _ rfl))<|cl<|an (fun _ w' hb' M'=>mR w' _ _ _ _ (hpv.keep M'.below) (Zn.keep M'.below)) fun w2 hb M=>an (by omega) (bk (m+1) ⟨dZ (by rw[eS hx hy];unfold iZ;simp[Bool.and_assoc,nG]),rfl,trivial⟩ (fun M=>⟨M,by omega⟩) (by dsimp only;omega))
 simp only[decide_eq_false_iff_not] at h;obtain rfl:m=p.types.length:=by omega
 refine lr (ι:=Nat) (fun m=>[(5,.bool (((true&&aq iJ p.classes q.classes)&&aq iZ p.types q.types)&&aq (fun x y=>decide (x=y)) (p.attrs.take m) (q.attrs.take m))),(8,.int .i64 (m:Int))]) (fun m _=>m≤p.attrs.length) (fun m=>p.attrs.length-m) 0 (an ⟨⟨dZ (by rw[eT SJ,eP,Bool.and_true]),rfl,trivial⟩,fun M=>⟨M,atx _⟩⟩ ?_);intro m w M hm;refine lb 1<|an rfl<|an (fun h=>?_) fun h=>?_
 ·simp only[decide_eq_true_eq] at h;obtain⟨x,y,b,o,b',o',hx,hy,⟨e1,hc⟩,e2,hc'⟩:=dL (f:=kH.cells) (fun _=>rfl) (by decide) hp.attrs hq.attrs rfl rfl (m:=m) (by omega) Hw M.below;refine dr (by kernel_rfl)<|lb 1<|an (fun _=>rfl)<|ia<|an (fun _=>⟨e1,rfl,by omega⟩)<|lc<|an (fun _=>hc)<|lb 0<|an (fun _=>rfl)<|ia<|an (fun _=>⟨e2,rfl,by omega⟩)<|lc<|an (fun _=>hc')<|ei<|an (fun _=>⟨X2,fun w=>TG x y w⟩) fun w2 hb M=>an (by omega) (bk (m+1) ⟨dZ (by rw[eS hx hy,Bool.and_assoc]),rfl,trivial⟩ (fun M=>⟨M,by omega⟩) (by dsimp only;omega))
 simp only[decide_eq_false_iff_not] at h;obtain rfl:m=p.attrs.length:=by omega
 refine lr (ι:=Nat) (fun m=>[(5,.bool ((((true&&aq iJ p.classes q.classes)&&aq iZ p.types q.types)&&aq (fun x y=>decide (x=y)) p.attrs q.attrs)&&aq (fun x y=>decide (x=y)) (p.roles.take m) (q.roles.take m))),(9,.int .i64 (m:Int))]) (fun m _=>m≤p.roles.length) (fun m=>p.roles.length-m) 0 (an ⟨⟨dZ (by rw[eT Hw,eP,Bool.and_true]),rfl,trivial⟩,fun M=>⟨M,atx _⟩⟩ ?_);intro m w M hm;refine lb 1<|an rfl<|an (fun h=>?_) fun h=>?_
 ·simp only[decide_eq_true_eq] at h;obtain⟨x,y,b,o,b',o',hx,hy,⟨e1,hc⟩,e2,hc'⟩:=dL (f:=iw.cells) (fun _=>rfl) (by decide) hp.roles hq.roles rfl rfl (m:=m) (by omega) Ht M.below;refine dr (by kernel_rfl)<|lb 1<|an (fun _=>rfl)<|ia<|an (fun _=>⟨e1,rfl,by omega⟩)<|lc<|an (fun _=>hc)<|lb 0<|an (fun _=>rfl)<|ia<|an (fun _=>⟨e2,rfl,by omega⟩)<|lc<|an (fun _=>hc')<|ei<|an (fun _=>⟨TM,fun w=>TF x y w⟩) fun w2 hb M=>an (by omega) (bk (m+1) ⟨dZ (by rw[eS hx hy,Bool.and_assoc]),rfl,trivial⟩ (fun M=>⟨M,by omega⟩) (by dsimp only;omega))
 simp only[decide_eq_false_iff_not] at h;obtain rfl:m=p.roles.length:=by omega
 refine lr (ι:=Nat) (fun m=>[(5,.bool (((((true&&aq iJ p.classes q.classes)&&aq iZ p.types q.types)&&aq (fun x y=>decide (x=y)) p.attrs q.attrs)&&aq (fun x y=>decide (x=y)) p.roles q.roles)&&aq (fun x y=>decide (x=y)) (p.users.take m) (q.users.take m))),(10,.int .i64 (m:Int))]) (fun m _=>m≤p.users.length) (fun m=>p.users.length-m) 0 (an ⟨⟨dZ (by rw[eT Ht,eP,Bool.and_true]),rfl,trivial⟩,fun M=>⟨M,atx _⟩⟩ ?_);intro m w M hm;refine lb 1<|an rfl<|an (fun h=>?_) fun h=>?_
 ·simp only[decide_eq_true_eq] at h;obtain⟨x,y,b,o,b',o',hx,hy,⟨e1,hc⟩,e2,hc'⟩:=dL (f:=j6.cells) (fun _=>rfl) (by decide) hp.users hq.users rfl rfl (m:=m) (by omega) Hq M.below;refine dr (by kernel_rfl)<|lb 1<|an (fun _=>rfl)<|ia<|an (fun _=>⟨e1,rfl,by omega⟩)<|lc<|an (fun _=>hc)<|lb 0<|an (fun _=>rfl)<|ia<|an (fun _=>⟨e2,rfl,by omega⟩)<|lc<|an (fun _=>hc')<|ei<|an (fun _=>⟨X1,fun w=>TB x y w⟩) fun w2 hb M=>an (by omega) (bk (m+1) ⟨dZ (by rw[eS hx hy,Bool.and_assoc]),rfl,trivial⟩ (fun M=>⟨M,by omega⟩) (by dsimp only;omega))
 simp only[decide_eq_false_iff_not] at h;obtain rfl:m=p.users.length:=by omega
 refine lr (ι:=Nat) (fun m=>[(5,.bool ((((((true&&aq iJ p.classes q.classes)&&aq iZ p.types q.types)&&aq (fun x y=>decide (x=y)) p.attrs q.attrs)&&aq (fun x y=>decide (x=y)) p.roles q.roles)&&aq (fun x y=>decide (x=y)) p.users q.users)&&aq (fun x y=>decide (x=y)) (p.bools.take m) (q.bools.take m))),(11,.int .i64 (m:Int))]) (fun m _=>m≤p.bools.length) (fun m=>p.bools.length-m) 0 (an ⟨⟨dZ (by rw[eT Hq,eP,Bool.and_true]),rfl,trivial⟩,fun M=>⟨M,atx _⟩⟩ ?_);intro m w M hm;refine lb 1<|an rfl<|an (fun h=>?_) fun h=>?_
 ·simp only[decide_eq_true_eq] at h;obtain⟨x,y,b,o,b',o',hx,hy,⟨e1,hc⟩,e2,hc'⟩:=dL (f:=iP.cells) (fun _=>rfl) (by decide) hp.bools hq.bools rfl rfl (m:=m) (by omega) Hv M.below;refine dr (by kernel_rfl)<|lb 1<|an (fun _=>rfl)<|ia<|an (fun _=>⟨e1,rfl,by omega⟩)<|lc<|an (fun _=>hc)<|lb 0<|an (fun _=>rfl)<|ia<|an (fun _=>⟨e2,rfl,by omega⟩)<|lc<|an (fun _=>hc')<|ei<|an (fun _=>⟨X0,fun w=>TA x y w⟩) fun w2 hb M=>an (by omega) (bk (m+1) ⟨dZ (by rw[eS hx hy,Bool.and_assoc]),rfl,trivial⟩ (fun M=>⟨M,by omega⟩) (by dsimp only;omega))
 simp only[decide_eq_false_iff_not] at h;obtain rfl:m=p.bools.length:=by omega
 intro M;refine⟨?_,M.below⟩;have e7:p.aV=q.aV:=by simpa using hS1
 have e8:p.cats=q.cats:=by simpa using hS2
 rw[eT Hv,j5,j5,j5,j5];unfold i_;simp only[e7,e8,decide_true,Bool.and_true,Bool.true_and,kR]
def mh(p q:aG):Bool:=(((((aq dI p.conds q.conds&&decide (p.rules=q.rules))&&decide (p.trans=q.trans))&&decide (p.aQ=q.aQ))&&decide (p.ranges=q.ranges))&&aq j_ p.cons q.cons)
theorem DH{p q:aG}(h:mh p q=true):p.conds.length=q.conds.length∧p.rules=q.rules∧p.trans=q.trans∧p.aQ=q.aQ∧p.ranges=q.ranges∧p.cons.length=q.cons.length:=by
 unfold mh at h;simp only[atU,decide_eq_true_eq] at h;obtain⟨⟨⟨⟨⟨h1,h2⟩,h3⟩,h4⟩,h5⟩,h6⟩:=h;exact⟨qE h1,h2,h3,h4,h5,qE h6⟩
theorem xY(w0:World)(c0 c1 c2 c3 c4 c5 c6 c7 c8 c9 aW aP aO aU aT aS aR d0 d1 d2 d3 d4 d5 d6 d7 d8 d9 ru q_ q8 q7 q6 q5 qZ:Value)(p q:aG)(hp:aL w0 c0 c1 c2 c3 c4 c5 c6 c7 c8 c9 aW aP aO aU aT aS aR p)(hq:aL w0 d0 d1 d2 d3 d4 d5 d6 d7 d8 d9 ru q_ q8 q7 q6 q5 qZ q):Calls Tryz.prog 68 #[.agg #[c0,c1,c2,c3,c4,c5,c6,c7,c8,c9,aW,aP,aO,aU,aT,aS,aR],.agg #[d0,d1,d2,d3,d4,d5,d6,d7,d8,d9,ru,q_,q8,q7,q6,q5,qZ]] w0 fun r w'=>r=.returned (.bool (mh p q))∧atv w0.heap.size w0 w':=by
 obtain⟨la8,lk8,rfl,-,hm8,Wh⟩:=aC.form hp.conds (by decide);obtain⟨ma8,mk8,rfl,-,-,Qz⟩:=aC.form hq.conds (by decide);obtain⟨Sh,O3,rfl,-,hm9,-⟩:=SliceAt.form hp.rules (by decide);obtain⟨ma9,mk9,rfl,-⟩:=SliceAt.form hq.rules (by decide);obtain⟨O_,O4,rfl,-,adt,-⟩:=SliceAt.form hp.trans (by decide);obtain⟨amn,amg,rfl,-⟩:=SliceAt.form hq.trans (by decide);obtain⟨amB,amt,rfl,-,anp,-⟩:=SliceAt.form hp.aQ (by decide);obtain⟨amm,amf,rfl,-⟩:=SliceAt.form hq.aQ (by decide);obtain⟨amA,ams,rfl,-,ano,-⟩:=SliceAt.form hp.ranges (by decide);obtain⟨aml,ame,rfl,-⟩:=SliceAt.form hq.ranges (by decide);obtain⟨amz,amr,rfl,-,agU,Pv⟩:=aC.form hp.cons (by decide);obtain⟨amk,amd,rfl,-,-,Pt⟩:=aC.form hq.cons (by decide);have no:mh p q=false→Ending.returned (kR [Value.bool false])=.returned (.bool (mh p q)):=fun h=>by rw[h];rfl
 refine fL [] (fn:=Tryz.f68) Tryz.func68 rfl Tryz.ntmps68 rfl fun g1 w1 M1=>fun g2 w2 M2=>lb 1<|an rfl<|lb 0<|an rfl<|lb 1<|an (fun _=>rfl)<|lb 0<|an (fun _=>rfl)<|lb 1<|an (fun _=>rfl)<|lb 0<|an (fun _=>rfl)<|lb 1<|an (fun _=>rfl)<|lb 0<|an (fun _=>rfl)<|lb 1<|an (fun _=>rfl)<|lb 0<|an (fun _=>rfl)<|lb 1<|an (fun _=>rfl)<|lb 0<|an (fun _=>rfl)<|an (fun h M=>⟨no ?_,M.below⟩) fun h=>?_
 ·cases hs:mh p q with
  | false=>rfl
  | true=>
   obtain⟨a1,a2,a3,a4,a5,a6⟩:=DH hs;simp[a1,a2,a3,a4,a5,a6] at h
 simp only[Bool.or_eq_false_iff,Bool.not_eq_false',decide_eq_true_eq] at h;obtain⟨⟨⟨⟨⟨S7,S4⟩,S0⟩,Py⟩,Pz⟩,Wo⟩:=h;have SK:p.conds.length=q.conds.length:=by have:=S7;omega
 have Hs:p.rules.length=q.rules.length:=by have:=S4;omega
 have Hr:p.trans.length=q.trans.length:=by have:=S0;omega
 have CO:p.aQ.length=q.aQ.length:=by have:=Py;omega
 have CP:p.ranges.length=q.ranges.length:=by have:=Pz;omega
 have V8:p.cons.length=q.cons.length:=by have:=Wo;omega
 refine lr (ι:=Nat) (fun m=>[(5,.bool (true&&aq dI (p.conds.take m) (q.conds.take m))),(6,.int .i64 (m:Int))]) (fun m _=>m≤p.conds.length) (fun m=>p.conds.length-m) 0 (an ⟨⟨dZ (by rw[eP];rfl),rfl,trivial⟩,fun M=>⟨M,atx _⟩⟩ ?_);intro m w M hm;refine lb 1<|an rfl<|an (fun h=>?_) fun h=>?_
 ·simp only[decide_eq_true_eq] at h;obtain⟨x,hx⟩:∃ x,p.conds[m]?=some x:=⟨_,atH (by omega)⟩;obtain⟨y,hy⟩:∃ y,q.conds[m]?=some y:=⟨_,atH (by omega)⟩;obtain⟨b,o,z,e1,hz,-,hc⟩:=Wh m x hx;obtain⟨b',o',z',e2,hz',-,hc'⟩:=Qz m y hy;obtain⟨vK,G9,rfl,-⟩:=hz.open;obtain⟨BD,Si,rfl,-⟩:=hz'.open;refine dr (by kernel_rfl)<|lb 1<|an (fun _=>rfl)<|ia<|an (fun _=>⟨e1,rfl,by omega⟩)<|lc<|an (fun _=>dJ M.below hc)<|lb 0<|an (fun _=>rfl)<|ia<|an (fun _=>⟨e2,rfl,by omega⟩)<|lc<|an (fun _=>dJ M.below hc')<|cl<|an (fun _ w' hb' M'=>pz x _ _ _ y (bB.keep M'.below hz) (bB.keep M'.below hz')) fun w2 hb M=>an (by omega) (bk (m+1) ⟨dZ (by rw[eS hx hy];simp),rfl,trivial⟩ (fun M=>⟨M,by omega⟩) (by dsimp only;omega))
 simp only[decide_eq_false_iff_not] at h;obtain rfl:m=p.conds.length:=by omega
 refine lr (ι:=Nat) (fun m=>[(5,.bool ((true&&aq dI p.conds q.conds)&&aq (fun x y=>decide (x=y)) (p.rules.take m) (q.rules.take m))),(7,.int .i64 (m:Int))]) (fun m _=>m≤p.rules.length) (fun m=>p.rules.length-m) 0 (an ⟨⟨dZ (by rw[eT SK,eP,Bool.and_true]),rfl,trivial⟩,fun M=>⟨M,atx _⟩⟩ ?_);intro m w M hm;refine lb 1<|an rfl<|an (fun h=>?_) fun h=>?_
 ·simp only[decide_eq_true_eq] at h;obtain⟨x,y,b,o,b',o',hx,hy,⟨e1,hc⟩,e2,hc'⟩:=dL (f:=ak.cells) (fun _=>rfl) (by decide) hp.rules hq.rules rfl rfl (m:=m) (by omega) Hs M.below;refine dr (by kernel_rfl)<|lb 1<|an (fun _=>rfl)<|ia<|an (fun _=>⟨e1,rfl,by omega⟩)<|lc<|an (fun _=>hc)<|lb 0<|an (fun _=>rfl)<|ia<|an (fun _=>⟨e2,rfl,by omega⟩)<|lc<|an (fun _=>hc')<|ei<|an (fun _=>⟨aak,fun w=>Tw x y w⟩) fun w2 hb M=>an (by omega) (bk (m+1) ⟨dZ (by rw[eS hx hy,Bool.and_assoc]),rfl,trivial⟩ (fun M=>⟨M,by omega⟩) (by dsimp only;omega))
 simp only[decide_eq_false_iff_not] at h;obtain rfl:m=p.rules.length:=by omega
 refine lr (ι:=Nat) (fun m=>[(5,.bool (((true&&aq dI p.conds q.conds)&&aq (fun x y=>decide (x=y)) p.rules q.rules)&&aq (fun x y=>decide (x=y)) (p.trans.take m) (q.trans.take m))),(8,.int .i64 (m:Int))]) (fun m _=>m≤p.trans.length) (fun m=>p.trans.length-m) 0 (an ⟨⟨dZ (by rw[eT Hs,eP,Bool.and_true]),rfl,trivial⟩,fun M=>⟨M,atx _⟩⟩ ?_);intro m w M hm;refine lb 1<|an rfl<|an (fun h=>?_) fun h=>?_
 ·simp only[decide_eq_true_eq] at h;obtain⟨x,y,b,o,b',o',hx,hy,⟨e1,hc⟩,e2,hc'⟩:=dL (f:=bJ.cells) (fun _=>rfl) (by decide) hp.trans hq.trans rfl rfl (m:=m) (by omega) Hr M.below;refine dr (by kernel_rfl)<|lb 1<|an (fun _=>rfl)<|ia<|an (fun _=>⟨e1,rfl,by omega⟩)<|lc<|an (fun _=>hc)<|lb 0<|an (fun _=>rfl)<|ia<|an (fun _=>⟨e2,rfl,by omega⟩)<|lc<|an (fun _=>hc')<|ei<|an (fun _=>⟨aaj,fun w=>Tv x y w⟩) fun w2 hb M=>an (by omega) (bk (m+1) ⟨dZ (by rw[eS hx hy,Bool.and_assoc]),rfl,trivial⟩ (fun M=>⟨M,by omega⟩) (by dsimp only;omega))
 simp only[decide_eq_false_iff_not] at h;obtain rfl:m=p.trans.length:=by omega
 refine lr (ι:=Nat) (fun m=>[(5,.bool ((((true&&aq dI p.conds q.conds)&&aq (fun x y=>decide (x=y)) p.rules q.rules)&&aq (fun x y=>decide (x=y)) p.trans q.trans)&&aq (fun x y=>decide (x=y)) (p.aQ.take m) (q.aQ.take m))),(9,.int .i64 (m:Int))]) (fun m _=>m≤p.aQ.length) (fun m=>p.aQ.length-m) 0 (an ⟨⟨dZ (by rw[eT Hr,eP,Bool.and_true]),rfl,trivial⟩,fun M=>⟨M,atx _⟩⟩ ?_);intro m w M hm;refine lb 1<|an rfl<|an (fun h=>?_) fun h=>?_
 ·simp only[decide_eq_true_eq] at h;obtain⟨x,y,b,o,b',o',hx,hy,⟨e1,hc⟩,e2,hc'⟩:=dL (f:=kE.cells) (fun _=>rfl) (by decide) hp.aQ hq.aQ rfl rfl (m:=m) (by omega) CO M.below;refine dr (by kernel_rfl)<|lb 1<|an (fun _=>rfl)<|ia<|an (fun _=>⟨e1,rfl,by omega⟩)<|lc<|an (fun _=>hc)<|lb 0<|an (fun _=>rfl)<|ia<|an (fun _=>⟨e2,rfl,by omega⟩)<|lc<|an (fun _=>hc')<|ei<|an (fun _=>⟨XZ,fun w=>Tz x y w⟩) fun w2 hb M=>an (by omega) (bk (m+1) ⟨dZ (by rw[eS hx hy,Bool.and_assoc]),rfl,trivial⟩ (fun M=>⟨M,by omega⟩) (by dsimp only;omega))
 simp only[decide_eq_false_iff_not] at h;obtain rfl:m=p.aQ.length:=by omega
 refine lr (ι:=Nat) (fun m=>[(5,.bool (((((true&&aq dI p.conds q.conds)&&aq (fun x y=>decide (x=y)) p.rules q.rules)&&aq (fun x y=>decide (x=y)) p.trans q.trans)&&aq (fun x y=>decide (x=y)) p.aQ q.aQ)&&aq (fun x y=>decide (x=y)) (p.ranges.take m) (q.ranges.take m))),(10,.int .i64 (m:Int))]) (fun m _=>m≤p.ranges.length) (fun m=>p.ranges.length-m) 0 (an ⟨⟨dZ (by rw[eT CO,eP,Bool.and_true]),rfl,trivial⟩,fun M=>⟨M,atx _⟩⟩ ?_);intro m w M hm;refine lb 1<|an rfl<|an (fun h=>?_) fun h=>?_
 ·simp only[decide_eq_true_eq] at h;obtain⟨x,y,b,o,b',o',hx,hy,⟨e1,hc⟩,e2,hc'⟩:=dL (f:=kF.cells) (fun _=>rfl) (by decide) hp.ranges hq.ranges rfl rfl (m:=m) (by omega) CP M.below;refine dr (by kernel_rfl)<|lb 1<|an (fun _=>rfl)<|ia<|an (fun _=>⟨e1,rfl,by omega⟩)<|lc<|an (fun _=>hc)<|lb 0<|an (fun _=>rfl)<|ia<|an (fun _=>⟨e2,rfl,by omega⟩)<|lc<|an (fun _=>hc')<|ei<|an (fun _=>⟨XY,fun w=>Tx x y w⟩) fun w2 hb M=>an (by omega) (bk (m+1) ⟨dZ (by rw[eS hx hy,Bool.and_assoc]),rfl,trivial⟩ (fun M=>⟨M,by omega⟩) (by dsimp only;omega))
 simp only[decide_eq_false_iff_not] at h;obtain rfl:m=p.ranges.length:=by omega
 refine lr (ι:=Nat) (fun m=>[(5,.bool ((((((true&&aq dI p.conds q.conds)&&aq (fun x y=>decide (x=y)) p.rules q.rules)&&aq (fun x y=>decide (x=y)) p.trans q.trans)&&aq (fun x y=>decide (x=y)) p.aQ q.aQ)&&aq (fun x y=>decide (x=y)) p.ranges q.ranges)&&aq j_ (p.cons.take m) (q.cons.take m))),(11,.int .i64 (m:Int))]) (fun m _=>m≤p.cons.length) (fun m=>p.cons.length-m) 0 (an ⟨⟨dZ (by rw[eT CP,eP,Bool.and_true]),rfl,trivial⟩,fun M=>⟨M,atx _⟩⟩ ?_);intro m w M hm;refine lb 1<|an rfl<|an (fun h=>?_) fun h=>?_
 ·simp only[decide_eq_true_eq] at h;obtain⟨x,hx⟩:∃ x,p.cons[m]?=some x:=⟨_,atH (by omega)⟩;obtain⟨y,hy⟩:∃ y,q.cons[m]?=some y:=⟨_,atH (by omega)⟩;obtain⟨b,o,z,e1,hz,-,hc⟩:=Pv m x hx;obtain⟨b',o',z',e2,hz',-,hc'⟩:=Pt m y hy;obtain⟨PN,rfl,hz1⟩:=hz;obtain⟨es2,rfl,hz2⟩:=hz';obtain⟨vK,G9,rfl,hn1,hk1⟩:=hz1.open;obtain⟨BD,Si,rfl,hn2,hk2⟩:=hz2.open;obtain⟨_,_,rfl,-⟩:=hn1.get;obtain⟨_,_,rfl,-⟩:=hn2.get;obtain⟨_,_,rfl,-⟩:=hk1.form (by decide);obtain⟨_,_,rfl,-⟩:=hk2.form (by decide);refine dp (by kernel_rfl)<|lb 1<|an rfl<|ia<|an ⟨e1,rfl,by omega⟩<|lc<|an (dJ M.below hc)<|lb 0<|an rfl<|ia<|an ⟨e2,rfl,by omega⟩<|lc<|an (dJ M.below hc')<|ei<|ei<|an ⟨NS,NS⟩<|an ⟨rfl,rfl⟩ fun g3 g4 w2 hb2 M=>?_
  refine lb 0<|an (fun _=>rfl)<|lb 1<|an (fun _=>rfl)<|lb 0<|an (fun _=>rfl)<|lb 1<|an (fun _=>rfl)<|lb 0<|an (fun _=>rfl)<|lb 1<|an (fun _=>rfl)<|lb 0<|an (fun _=>rfl)<|lb 1<|an (fun _=>rfl)<|cl<|an (fun _=>pz x.expr _ _ _ y.expr (bB.keep M.below hz1) (bB.keep M.below hz2)) fun w3 M=>an (by omega) (bk (m+1) ⟨dZ (by rw[eS hx hy];unfold j_;simp[Bool.and_assoc]),rfl,trivial⟩ (fun M=>⟨M.only (.cons _ (.cons _ (.refl _))) (.refl _),by omega⟩) (by dsimp only;omega))
 simp only[decide_eq_false_iff_not] at h;obtain rfl:m=p.cons.length:=by omega
 intro M;refine⟨?_,M.below⟩;rw[eT V8,j5,j5,j5,j5];unfold mh;simp only[Bool.true_and,kR]
theorem vu(w0:World)(c0 c1 c2 c3 c4 c5 c6 c7 c8 c9 aW aP aO aU aT aS aR d0 d1 d2 d3 d4 d5 d6 d7 d8 d9 ru q_ q8 q7 q6 q5 qZ:Value)(p q:aG)(hp:aL w0 c0 c1 c2 c3 c4 c5 c6 c7 c8 c9 aW aP aO aU aT aS aR p)(hq:aL w0 d0 d1 d2 d3 d4 d5 d6 d7 d8 d9 ru q_ q8 q7 q6 q5 qZ q):Calls Tryz.prog 23 #[.agg #[c0,c1,c2,c3,c4,c5,c6,c7,c8,c9,aW,aP,aO,aU,aT,aS,aR],.agg #[d0,d1,d2,d3,d4,d5,d6,d7,d8,d9,ru,q_,q8,q7,q6,q5,qZ]] w0 fun r w'=>r=.returned (.bool (eO p q))∧atv w0.heap.size w0 w':=by
 obtain⟨amy,amq,rfl,-,anm,-⟩:=SliceAt.form hp.bP (by decide);obtain⟨amj,amc,rfl,-⟩:=SliceAt.form hq.bP (by decide);obtain⟨amx,amp,rfl,-,anl,-⟩:=SliceAt.form hp.files (by decide);obtain⟨ami,amb,rfl,-⟩:=SliceAt.form hq.files (by decide);obtain⟨amw,amo,rfl,-,ank,-⟩:=SliceAt.form hp.asserts (by decide);obtain⟨amh,ama,rfl,-⟩:=SliceAt.form hq.asserts (by decide)
 have hE:eO p q=((((i_ p q&&mh p q)&&decide (p.bP=q.bP))&&decide (p.files=q.files))&&decide (p.asserts=q.asserts)):=by
  unfold eO mh;simp only[Bool.and_assoc]
 have no:eO p q=false→Ending.returned (kR [Value.bool false])=.returned (.bool (eO p q)):=fun h=>by rw[h];rfl
 refine fL [] (fn:=Tryz.f23) Tryz.func23 rfl Tryz.ntmps23 rfl fun g1 w1 M1=>fun g2 w2 M2=>lb 1<|an rfl<|lb 0<|an rfl<|cl<|an (sU _ _ _ _ _ _ _ _ _ _ _ _ _ _ _ _ _ _ _ _ _ _ _ _ _ _ _ _ _ _ _ _ _ _ _ p q (hp.keep M2.below) (hq.keep M2.below)) fun w3 M3=>lb 1<|an (fun _=>rfl)<|lb 0<|an (fun _=>rfl)<|cl<|an (fun _=>xY _ _ _ _ _ _ _ _ _ _ _ _ _ _ _ _ _ _ _ _ _ _ _ _ _ _ _ _ _ _ _ _ _ _ _ p q (hp.keep M3.below) (hq.keep M3.below)) fun w4 M4=>lb 1<|an (fun _=>rfl)<|lb 0<|an (fun _=>rfl)<|lb 1<|an (fun _=>rfl)<|lb 0<|an (fun _=>rfl)<|lb 1<|an (fun _=>rfl)<|lb 0<|an (fun _=>rfl)<|an (fun h M=>⟨no ?_,M.below⟩) fun h=>?_
 ·rw[hE]
  cases hs:(((i_ p q&&mh p q)&&decide (p.bP=q.bP))&&decide (p.files=q.files))&&decide (p.asserts=q.asserts) with
  | false=>rfl
  | true=>
   simp only[atU,decide_eq_true_eq] at hs;obtain⟨⟨⟨⟨a1,a2⟩,a3⟩,a4⟩,a5⟩:=hs;simp[a1,a2,a3,a4,a5] at h
 simp only[Bool.or_eq_false_iff,Bool.not_eq_false',decide_eq_true_eq] at h;obtain⟨⟨⟨⟨hsy,hru⟩,Wn⟩,S6⟩,Li⟩:=h;have Nc:p.bP.length=q.bP.length:=by have:=Wn;omega
 have Hu:p.files.length=q.files.length:=by have:=S6;omega
 have Ak:p.asserts.length=q.asserts.length:=by have:=Li;omega
 refine lr (ι:=Nat) (fun m=>[(5,.bool (true&&aq (fun x y=>decide (x=y)) (p.bP.take m) (q.bP.take m))),(6,.int .i64 (m:Int))]) (fun m _=>m≤p.bP.length) (fun m=>p.bP.length-m) 0 (an ⟨⟨dZ (by rw[eP];rfl),rfl,trivial⟩,fun M=>⟨M,atx _⟩⟩ ?_);intro m w M hm;refine lb 1<|an rfl<|an (fun h=>?_) fun h=>?_
 ·simp only[decide_eq_true_eq] at h;obtain⟨x,y,b,o,b',o',hx,hy,⟨e1,hc⟩,e2,hc'⟩:=dL (f:=kD.cells) (fun _=>rfl) (by decide) hp.bP hq.bP rfl rfl (m:=m) (by omega) Nc M.below;refine dr (by kernel_rfl)<|lb 1<|an (fun _=>rfl)<|ia<|an (fun _=>⟨e1,rfl,by omega⟩)<|lc<|an (fun _=>hc)<|lb 0<|an (fun _=>rfl)<|ia<|an (fun _=>⟨e2,rfl,by omega⟩)<|lc<|an (fun _=>hc')<|ei<|an (fun _=>⟨X5,fun w=>TK x y w⟩) fun w2 hb M=>an (by omega) (bk (m+1) ⟨dZ (by rw[eS hx hy,Bool.and_assoc]),rfl,trivial⟩ (fun M=>⟨M,by omega⟩) (by dsimp only;omega))
 simp only[decide_eq_false_iff_not] at h;obtain rfl:m=p.bP.length:=by omega
 refine lr (ι:=Nat) (fun m=>[(5,.bool ((true&&aq (fun x y=>decide (x=y)) p.bP q.bP)&&aq (fun x y=>decide (x=y)) (p.files.take m) (q.files.take m))),(7,.int .i64 (m:Int))]) (fun m _=>m≤p.files.length) (fun m=>p.files.length-m) 0 (an ⟨⟨dZ (by rw[eT Nc,eP,Bool.and_true]),rfl,trivial⟩,fun M=>⟨M,atx _⟩⟩ ?_);intro m w M hm;refine lb 1<|an rfl<|an (fun h=>?_) fun h=>?_
 ·simp only[decide_eq_true_eq] at h;obtain⟨x,y,b,o,b',o',hx,hy,⟨e1,hc⟩,e2,hc'⟩:=dL (f:=kG.cells) (fun _=>rfl) (by decide) hp.files hq.files rfl rfl (m:=m) (by omega) Hu M.below;refine dr (by kernel_rfl)<|lb 1<|an (fun _=>rfl)<|ia<|an (fun _=>⟨e1,rfl,by omega⟩)<|lc<|an (fun _=>hc)<|lb 0<|an (fun _=>rfl)<|ia<|an (fun _=>⟨e2,rfl,by omega⟩)<|lc<|an (fun _=>hc')<|ei<|an (fun _=>⟨X4,fun w=>TJ x y w⟩) fun w2 hb M=>an (by omega) (bk (m+1) ⟨dZ (by rw[eS hx hy,Bool.and_assoc]),rfl,trivial⟩ (fun M=>⟨M,by omega⟩) (by dsimp only;omega))
 simp only[decide_eq_false_iff_not] at h;obtain rfl:m=p.files.length:=by omega
 refine lr (ι:=Nat) (fun m=>[(5,.bool (((true&&aq (fun x y=>decide (x=y)) p.bP q.bP)&&aq (fun x y=>decide (x=y)) p.files q.files)&&aq (fun x y=>decide (x=y)) (p.asserts.take m) (q.asserts.take m))),(8,.int .i64 (m:Int))]) (fun m _=>m≤p.asserts.length) (fun m=>p.asserts.length-m) 0 (an ⟨⟨dZ (by rw[eT Hu,eP,Bool.and_true]),rfl,trivial⟩,fun M=>⟨M,atx _⟩⟩ ?_);intro m w M hm;refine lb 1<|an rfl<|an (fun h=>?_) fun h=>?_
 ·simp only[decide_eq_true_eq] at h;obtain⟨x,y,b,o,b',o',hx,hy,⟨e1,hc⟩,e2,hc'⟩:=dL (f:=kI.cells) (fun _=>rfl) (by decide) hp.asserts hq.asserts rfl rfl (m:=m) (by omega) Ak M.below;refine dr (by kernel_rfl)<|lb 1<|an (fun _=>rfl)<|ia<|an (fun _=>⟨e1,rfl,by omega⟩)<|lc<|an (fun _=>hc)<|lb 0<|an (fun _=>rfl)<|ia<|an (fun _=>⟨e2,rfl,by omega⟩)<|lc<|an (fun _=>hc')<|ei<|an (fun _=>⟨X3,fun w=>TH x y w⟩) fun w2 hb M=>an (by omega) (bk (m+1) ⟨dZ (by rw[eS hx hy,Bool.and_assoc]),rfl,trivial⟩ (fun M=>⟨M,by omega⟩) (by dsimp only;omega))
 simp only[decide_eq_false_iff_not] at h;obtain rfl:m=p.asserts.length:=by omega
 intro M;refine⟨?_,M.below⟩;rw[eT Ak,j5,j5,j5,hE,hsy,hru];simp only[Bool.true_and,kR]
theorem uY{α:Type}(z:(α×Int)×Nat):(om z).length=1:=rfl
def mT{α:Type}(x y:(α×Int)×Nat):Bool:=decide ([x.1.2]=[y.1.2])
theorem Ce{α:Type}(N:List ((α×Int)×Nat)):∀ u∈N.flatMap om,u.oneCell'=true:=fun u hu=>by
 obtain⟨z,-,hz⟩:=List.mem_flatMap.1 hu;rw[atw.1 hz];rfl
theorem Oz(w0:World)(g1 g2:Nat)(x y:Int)(hx:w0.cell? ⟨g1,0,none⟩=some (.int .u64 x))(hy:w0.cell? ⟨g2,0,none⟩=some (.int .u64 y)):Calls Tryz.prog 76 #[.slice (some ⟨g1,0,none⟩) 1 1,.slice (some ⟨g2,0,none⟩) 1 1] w0 (fun(r:Ending) (w':World)=>r=.returned (.bool (decide ([x]=[y])))∧atv w0.heap.size w0 w'):=by
 have aM:=hr1 Tryz.prog Tryz.f76 (fun(r:Ending) (w':World)=>r=.returned (.bool (decide ([x]=[y])))∧atv w0.heap.size w0 w') 8 4 rfl;refine en Tryz.func76 rfl Tryz.ntmps76 rfl (vs:=[.slice (some ⟨g1,0,none⟩) 1 1,.slice (some ⟨g2,0,none⟩) 1 1]) rfl fun _ F=>?_
 have M:=Mm.start w0;refine atO fun K1 dw=>ah<|xA (v:=.bool false) F rf rf rf fun _ F=>atP<|dw _ _ ?_
 refine atO fun K2 cQ=>ah<|xM F rf rf rf fun _ F=>xM F rf rf rf fun _ F=>xC F M rf rf q77 (args2 (F.u rf) (F.u rf)) (pW _ _ _ [x] [y] (vm (atJ M.below hx)) (vm (atJ M.below hy))) fun _ _ F M=>xA F rf rf rf fun _ F=>atP<|cQ _ _ ?_
 refine wp_ret<|aM _ _ _ _ F rfl ?_;exact⟨rfl,M.below⟩
theorem Ei{α:Type}(w0:World)(base:Nat)(v1 v2:Value)(l1 l2:List ((α×Int)×Nat))(h1:SliceAt w0 v1 1 l1.length (l1.flatMap om))(h2:SliceAt w0 v2 1 l2.length (l2.flatMap om))(hN1:cH w0 base l1)(hN2:cH w0 base l2):Calls Tryz.prog 75 #[v1,v2,.func (.func 76) #[] #[]] w0 (fun(r:Ending) (w':World)=>r=.returned (.bool (aq mT l1 l2))∧atv w0.heap.size w0 w'):=by
 obtain⟨Jc,Jb,rfl,hk1,hm1,nP⟩:=h1.form (by decide);obtain⟨KR,KI,rfl,hk2,hm2,nO⟩:=h2.form (by decide);have aM:=hr1 Tryz.prog Tryz.f75 (fun(r:Ending) (w':World)=>r=.returned (.bool (aq mT l1 l2))∧atv w0.heap.size w0 w') 32 6 rfl;refine en Tryz.func75 rfl Tryz.ntmps75 rfl (vs:=[.slice Jc l1.length Jb,.slice KR l2.length KI,.func (.func 76) #[] #[]]) rfl fun _ F=>?_
 have M:=Mm.start w0;refine atO fun K1 dw=>ah<|xA (v:=.bool false) F rf rf rf fun _ F=>atP<|dw _ _ ?_
 refine atO fun K2 cQ=>atO fun K3 fJ=>ah<|xM F rf rf rf fun _ F=>kz F rf (bA rfl (F.u rf) Dw) fun _ F=>xM F rf rf rf fun _ F=>kz F rf (bA rfl (F.u rf) Dw) fun _ F=>kz F rf (qY rfl (F.u rf) (F.u rf)) fun _ F=>atP<|fJ _ _ ?_
 refine atQ (F.e 14 rfl) (fun hc1=>?_) (fun hc1=>?_)
 ·have hd2:=of_decide_eq_false (show decide ((l1.length:Int)=(l2.length:Int))=false by simpa using hc1);have XG:(decide ((l1.length:Int)=(l2.length:Int)))=false:=by simpa using hc1
  refine atO fun K4 fQ=>ah<|xA (v:=.bool false) F rf rf rf fun _ F=>atP<|fQ _ _ ?_
  refine wp_ret<|aM _ _ _ _ F rfl ?_;exact⟨ay (rY (by have h:=hc1;simp at h;omega)),M.below⟩
 ·have BH:=of_decide_eq_true (show decide ((l1.length:Int)=(l2.length:Int))=true by simpa using hc1);have Uy:(decide ((l1.length:Int)=(l2.length:Int)))=true:=by simpa using hc1
  refine wp_skip<|cQ _ _ ?_;refine atO fun K5 gL=>atO fun K6 iC=>?_
  have hll:l1.length=l2.length:=by have h:=hc1;simp at h;omega
  refine ah<|xM F rf rf rf fun _ F=>kz F rf (bA rfl (F.u rf) Dw) fun _ F=>xM (v:=.int .i64 0) F rf rf rf fun _ F=>atP<|iC _ _ ?_
  refine atT<|?_;refine bV (ι:=Nat) (fun m a w=>Fs a 32 [(1,.slice KR l2.length KI),(2,.func (.func 76) #[] #[]),(15,.slice Jc l1.length Jb),(16,.int .i64 (l1.length:Int)),(17,.int .i64 (m:Int))]∧Mm w0 w [] []∧m≤l1.length∧aq mT l1 l2=aq mT (l1.drop m) (l2.drop m)) (fun m=>l1.length-m) 0 ⟨F.sub ⟨rfl,rfl,rfl,rfl,rfl,trivial⟩,M,atx _,rfl⟩ ?_
  (repeat clear F);(repeat clear M)
  rintro m _ _ ⟨F,M,hm,hI⟩;refine atO fun K7 iO=>ah<|kz F rf (d_ rfl (F.u rf) (F.u rf)) fun _ F=>atP<|iO _ _ ?_
  refine atO fun K8 jf=>?_
  refine atQ (F.e 18 rfl) (fun je=>?_) (fun je=>?_)
  ·have QA:=of_decide_eq_true je;refine wp_skip<|jf _ _ ?_;refine atO fun K9 jW=>atT<|atO fun Bh dU=>?_
   have BF:m<l1.length:=by omega
   have hlt2:m<l2.length:=by omega
   obtain⟨x,hx⟩:∃ x,l1[m]?=some x:=⟨_,atH BF⟩;obtain⟨b1,o1,rfl,hc1⟩:=nP m BF
   have hr1:∀ j uu,[.slice (some ⟨x.2,0,none⟩) 1 1][j]?=some uu→w0.cell? ⟨b1,o1+m*1+j,none⟩=some uu:=fun j u hu=>hc1 j u (by
    rw[gN uY hx j (atA.1 hu).1];exact hu)
   obtain⟨y,hy⟩:∃ y,l2[m]?=some y:=⟨_,atH hlt2⟩;obtain⟨b2,o2,rfl,hc2⟩:=nO m hlt2
   have qB:∀ j uu,[.slice (some ⟨y.2,0,none⟩) 1 1][j]?=some uu→w0.cell? ⟨b2,o2+m*1+j,none⟩=some uu:=fun j u hu=>hc2 j u (by
    rw[gN uY hy j (atA.1 hu).1];exact hu)
   refine ah<|xM F rf rf rf fun _ F=>
    kz F rf (aK (i:=m) rfl (F.u rf) (F.u rf) (by omega) Dw Mn) fun _ F=>
    kz F rf (aD rf (F.u rf) oO rfl ((dJ M.below hr1) 0 _ rfl)) fun _ F=>
    xA F rf rf rf fun _ F=>
    xA F rf rf rf fun _ F=>
    atP<|
    dU _ _ ?_
   refine atO fun I8 gj=>ah<|xM F rf rf rf fun _ F=>xM F rf rf rf fun _ F=>
    kz F rf (aK (i:=m) rfl (F.u rf) (F.u rf) (by omega) Dw Mn) fun _ F=>
    kz F rf (aD rf (F.u rf) oO rfl ((dJ M.below qB) 0 _ rfl)) fun _ F=>
    xA F rf rf rf fun _ F=>
    atP<|
    gj _ _ ?_
   refine atO fun I7 fT=>ah<|xM F rf rf rf fun _ F=>xM F rf rf rf fun _ F=>xM F rf rf rf fun _ F=>
    kc (on rfl) (lW rfl (F.u rf) Tryz.func76 (by kernel_rfl) rfl (args:=#[.slice (some ⟨x.2,0,none⟩) 1 1,.slice (some ⟨y.2,0,none⟩) 1 1]) (by simp[(F.e 27 rfl),(F.e 28 rfl)])) (Oz _ x.2 y.2 x.1.2 y.1.2 (atJ M.below (by simpa using(hN1 x (atG hx)).1.cell 0)) (atJ M.below (by simpa using(hN2 y (atG hy)).1.cell 0))) rfl F rfl M fun _ _ F M=>
    kz F rf (jS rfl (F.u rf)) fun _ F=>
    atP<|
    fT _ _ ?_
   refine atQ (F.e 30 rfl) (fun Wh=>?_) (fun Wh=>?_)
   ·have Ea:=of_decide_eq_false (show decide ([x.1.2]=[y.1.2])=false by simpa using Wh);have agZ:(decide ([x.1.2]=[y.1.2]))=false:=by simpa using Wh
    have tP:mT x y=false:=by
     have h:=Wh;unfold mT;simpa using h
    refine atO fun Jh gM=>ah<|xA (v:=.bool false) F rf rf rf fun _ F=>atP<|gM _ _ ?_
    refine wp_ret<|aM _ _ _ _ F rfl ?_;exact⟨ay (IY hx hy hI tP),M.below⟩
   ·have Hx:=of_decide_eq_true (show decide ([x.1.2]=[y.1.2])=true by simpa using Wh);have anw:(decide ([x.1.2]=[y.1.2]))=true:=by simpa using Wh
    have tP:mT x y=true:=by
     have h:=Wh;unfold mT;simpa using h
    refine wp_skip<|jW _ _ ?_
    refine ah<|
     ke (on rfl) (cL rfl (F.u rf) rfl) rfl F rfl (congrArg (Value.int .i64) (wrap_i64 (by omega))) fun _ F=>
     xM F rf rf rf fun _ F=>
     atP<|?_
    exact⟨m+1,⟨F.sub ⟨rfl,rfl,rfl,rfl,rfl,trivial⟩,M,by omega,IX hx hy hI tP⟩,by show l1.length-(m+1)<l1.length-m;omega⟩
  ·have Pt:=of_decide_eq_false je;refine wp_exit<|gL _ _ ?_;refine atO fun NR jg=>ah<|xA (v:=.bool true) F rf rf rf fun _ F=>atP<|jg _ _ ?_
   refine wp_ret<|aM _ _ _ _ F rfl ?_;exact⟨ay (A0 (by omega) hll hI),M.below⟩
end Go.Proofs.YtdcofoaihmongaaGreat

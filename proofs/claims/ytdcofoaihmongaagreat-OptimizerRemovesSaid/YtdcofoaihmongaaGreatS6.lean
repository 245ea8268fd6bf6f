import Derived.Laws.Bits64b
import Derived.Laws.BitsLemmas
import Derived.Test.YtdcofoaihmongaaGreatProg
import Derived.Test.YtdcofoaihmongaaGreatS5
open Bool renaming and_eq_true→axS
open Go renaming cell_later→axZ
open Go.RowKit renaming Below→axO
open List renaming getD_eq_getElem?_getD→axP,getElem?_eq_getElem→axQ,mem_of_getElem?→axT,mem_map→axU,length_map→axW,getElem?_map→axX,take_length→axY,length_append→ax0,getElem?_append_left→ax2,getElem?_eq_some_iff→ax3,getElem?_append_right→ax4,mem_cons_of_mem→ax6,flatMap_append→ax7,mem_cons_self→ax8,length_take→ax9
open Nat renaming mul_le_mul_right→axR,zero_le→axV,le_trans→ax1
open Option.some renaming inj→ax5
set_option maxRecDepth 100000
set_option maxHeartbeats 8000000
namespace Go.Proofs.YtdcofoaihmongaaGreat
open Go Go.RowKit
theorem aif:type_of% Tryz.underlying224:=Tryz.underlying224
theorem aie:type_of% Tryz.underlying246:=Tryz.underlying246
theorem ah5:(Tryz.prog.info? 50).bind (·.zero)=some (.int .u32 0):=by kernel_rfl
theorem afx:iw (Tryz.prog.info? 50) 1 4=true:=by kernel_rfl
theorem Uu(r:aj){s q:Nat}(hs:s<256)(hq:q<256):(r.tgts s).has q=(r.tgt.has q||(r.self&&decide (q=s))):=by
 unfold aj.tgts ay.with
 cases r.self with
 | false=>simp
 | true=>
  rw[if_pos rfl,if_pos ⟨by omega,by omega⟩,Int.toNat_natCast,ay.has_add _ hs hq,Bool.or_comm];simp
theorem Nf{w:World}{e:TypeId}{R:Value→World→Prop}(h:eC R):eC (ad8 w e R):=fun _ _ _ ⟨u,g,h1,h2,h3,h5,h4⟩ hb=>⟨u,g,h1,Whole.under hb h2 h2.lt,h3,h5,h _ _ _ h4 hb⟩
theorem aW.YP{B:Nat}{w0 w w':World}{bs:List Bx}{rs:List Rw}(M:aW B w0 w bs rs)(hb:axO w.heap.size w w'){g:Nat}{t:TypeId}{cs:Array Value}(h:Whole w' g t cs)(hg:w.heap.size≤g){r:Rw}(ho:w'.ownsRow w.heap.size r.e r.k r.v r.n r.xs)(hne:r.v.ownBlock≠some g)(ht:Nat.blt t 9000=true:=by rfl):
 aW B w0 w' ((g,t,cs)::bs) (r::rs):=by
 refine(M.newAt hb h hg ht).Dc (kT ho M.big) ?_ ?_
 ·intro b hb' e;rcases List.mem_cons.1 hb' with rfl|hb'
  ·exact hne e
  ·have:=(ho.lt _ e).1;have:=(M.box b hb').lt;omega
 ·intro s hs
  cases hso:r.v.ownBlock with
  | none=>exact .inl rfl
  | some q=>
   refine .inr fun e=>?_
   have h1:=(ho.lt q hso).1;have h2:=((M.row s hs).lt q (by rw[← e])).2;omega
theorem mz{B:Nat}{w0 w:World}{bs:List Bx}{rs:List Rw}{t e ty b n:Nat}{z:Value}{x y:Operand}{κ κ':IntKind}{l:Int}{K:Value→List Bx→List Rw→World→Prop}(M:aW B w0 w bs rs)(hu:Tryz.prog.underlying t=some (.slice e))(hi:iw (Tryz.prog.info? e) 1 b=true)(hz:(Tryz.prog.info? e).bind (·.zero)=some z)(h1:z.cells=#[z])(hl:l=(n:Int))(hb:b*n≤281474976710656∧n≤maxLen)
 (h:∀ g w',aW B w0 w' bs (⟨.slice (some ⟨g,0,none⟩) n n,e,1,n,List.replicate n z⟩::rs)→K (.slice (some ⟨g,0,none⟩) n n) bs (⟨.slice (some ⟨g,0,none⟩) n n,e,1,n,List.replicate n z⟩::rs) w') :
 ∃ R:Value→World→Prop,(∀ (a:Act) (o':Oper),o'.op=.makeSlice t x y→o'.type=ty→vZ a (iF (.makeSlice t x y)) [.int κ l,.int κ' l]→∃ v w',(execOp a.eval o').run Tryz.prog w=.ok (.value v) w'∧R v w')∧∀ v w',R v w'→∃ bs' rs',aW B w0 w' bs' rs'∧K v bs' rs' w':=by
 subst hl;obtain⟨i,z',i1,i2,i3,i4,i5⟩:=kG hi;rw[i1] at hz;have hzz:i.zero=some z:=hz;obtain⟨w',hr,ho,hg⟩:=run_make_full (P:=Tryz.prog) w w.heap.size t e i z 1 hu i1 hzz i3 κ κ' n (by rw[i4];exact hb.1) hb.2 (Nat.le_refl _);rw[h1,Nat.mul_one,toList_madeCells_one] at ho;have hB:axO w.heap.size w w':=(Below.refl w.heap.size w).grown hg (Nat.le_refl _) (fun q hq=>by cases hq);refine⟨fun v w''=>v=.slice (some ⟨w.heap.size,0,none⟩) n n∧w''=w',fun a o' hop _ oF=>⟨_,_,?_,rfl,rfl⟩,?_⟩
 ·unfold execOp;simp[hop,oD oF,uf oF,hr]
 ·rintro v w'' ⟨rfl,rfl⟩;have M':=M.xO (r:=⟨.slice (some ⟨w.heap.size,0,none⟩) n n,e,1,n,List.replicate n z⟩) hB ho;exact⟨_,_,M',h _ _ M'⟩
theorem Aq{a b:List (aj×Int)}(ha:Il a)(hb:Il b):uY a b=true↔∀ (kind cls:Int) (s t k r:Nat),s<256→t<256→Gv a kind cls s t k r→Gv b kind cls s t k r:=by
 unfold uY;rw[List.all_eq_true];constructor
 ·rintro H kind cls s t k r hs ht ⟨y,hy,rfl,rfl,a3,a4,a5⟩;exact(vw (ha.perms y hy) (ha.yD y hy) hb).1 (H y hy) s t k r hs ht a4 a3 a5
 ·intro H x hx;exact(vw (ha.perms x hx) (ha.yD x hx) hb).2 fun s t k r hs ht hg hk hr=>H _ _ s t k r hs ht ⟨x,hx,rfl,rfl,hk,hg,hr⟩
def Ap(T C:Nat)(r:aj)(p:Nat×Nat):Nat:=(((r.kind-1).toNat*T+p.1)*T+p.2)*C+r.cls.toNat
def wV(at_:Nat)(v:Int)(out:List Int):List Int:=out.set at_ (bits .or .u32 (out.getD at_ 0) v)
def pP(T C:Nat)(r:aj)(out:List Int)(l:List (Nat×Nat)):List Int:=l.foldl (fun o p=>wV (Ap T C r p) r.perms o) out
def fU(T C:Nat)(on:aj→Bool)(out:List Int)(l:List aj):List Int:=l.foldl (fun o r=>if on r=true then pP T C r o r.pairs else o) out
theorem Jr(i:Nat)(v:Int)(o:List Int):(wV i v o).length=o.length:=List.length_set ..
theorem uN(T C:Nat)(r:aj):∀ (l:List (Nat×Nat)) (o:List Int),(pP T C r o l).length=o.length
 | [],_=>rfl
 | p::l,o=>by
  show(pP T C r (wV (Ap T C r p) r.perms o) l).length=_;rw[uN T C r l,Jr]
theorem oU(T C:Nat)(on:aj→Bool):∀ (l:List aj) (o:List Int),(fU T C on o l).length=o.length
 | [],_=>rfl
 | r::l,o=>by
  show(fU T C on (if on r=true then pP T C r o r.pairs else o) l).length=_;rw[oU T C on l];split
  ·exact uN ..
  ·rfl
theorem YB{i:Nat}{v:Int}{o:List Int}(hv:fS v)(ho:∀ x∈o,fS x)(hi:i<o.length):(∀ x∈wV i v o,fS x)∧∀ j k,ib ((wV i v o).getD j 0) k=(ib (o.getD j 0) k||(decide (i=j)&&ib v k)):=by
 have hg:fS (o.getD i 0):=by rw[axP,axQ hi];exact ho _ (List.getElem_mem hi)
 constructor
 ·intro x hx;rcases List.mem_or_eq_of_mem_set hx with hx|rfl
  ·exact ho x hx
  ·exact lK _ _ _
 ·intro j k;by_cases e:i=j
  ·subst e;rw[show(wV i v o).getD i 0=bits .or .u32 (o.getD i 0) v by unfold wV;rw[axP,List.getElem?_set_self hi];rfl,oR .or hg hv];simp
  ·rw[show(wV i v o).getD j 0=o.getD j 0 by unfold wV;rw[axP,List.getElem?_set_ne e,← axP]];simp[e]
theorem aft{T C:Nat}{r:aj}(h:RV T C r){p:Nat×Nat}(hp:p∈r.pairs):Ap T C r p<4*T*T*C:=by
 obtain⟨h1,h2⟩:=h.pairs p hp;have hk:(r.kind-1).toNat≤3:=by have:=h.kind;omega
 have hc:r.cls.toNat<C:=by have:=h.cls;omega
 unfold Ap;generalize (r.kind-1).toNat=K at hk ⊢;generalize r.cls.toNat=c at hc ⊢
 have e1:K*T+p.1+1≤4*T:=by
  have:K*T≤3*T:=axR T hk;omega
 have e2:(K*T+p.1)*T+p.2+1≤4*T*T:=by
  have:=axR T e1;rw[Nat.add_mul,Nat.one_mul] at this;omega
 have e3:=axR C e2;rw[Nat.add_mul,Nat.one_mul] at e3;omega
theorem VE{T C K c s t K' c' s' t':Nat}(hc:c<C)(hc':c'<C)(hs:s<T)(hs':s'<T)(ht:t<T)(ht':t'<T)(h:((K*T+s)*T+t)*C+c=((K'*T+s')*T+t')*C+c'):K=K'∧s=s'∧t=t'∧c=c':=by
 have key:∀ {x y a b m:Nat},a<m→b<m→x*m+a=y*m+b→x=y∧a=b:=by
  intro x y a b m ha hb e;have e1:(x*m+a)/m=x:=by rw[Nat.mul_comm,Nat.mul_add_div (by omega),Nat.div_eq_of_lt ha];omega
  have e2:(y*m+b)/m=y:=by rw[Nat.mul_comm,Nat.mul_add_div (by omega),Nat.div_eq_of_lt hb];omega
  have hx:x=y:=by rw[← e1,e,e2]
  subst hx;exact⟨rfl,by omega⟩
 obtain⟨h1,h2⟩:=key hc hc' h;obtain⟨h3,h4⟩:=key ht ht' h1;obtain⟨h5,h6⟩:=key hs hs' h3;exact⟨h5,h6,h4,h2⟩
theorem Pg{T C:Nat}{r:aj}(hv:fS r.perms):∀ (l:List (Nat×Nat)) (o:List Int),(∀ x∈o,fS x)→(∀ p∈l,Ap T C r p<o.length)→(∀ x∈pP T C r o l,fS x)∧∀ j k,ib ((pP T C r o l).getD j 0) k=(ib (o.getD j 0) k||(l.any fun p=>decide (Ap T C r p=j))&&ib r.perms k)
 | [],o,ho,_=>⟨ho,fun j k=>by show ib (o.getD j 0) k=_;simp⟩
 | p::l,o,ho,hl=>by
  obtain⟨h1,h2⟩:=YB hv ho (hl p (by simp));obtain⟨h3,h4⟩:=Pg hv l (wV (Ap T C r p) r.perms o) h1 (fun q hq=>by rw[Jr];exact hl q (by simp[hq]));refine⟨h3,fun j k=>?_⟩;show ib ((pP T C r (wV (Ap T C r p) r.perms o) l).getD j 0) k=_;rw[h4,h2,List.any_cons];cases ib (o.getD j 0) k<;>cases decide (Ap T C r p=j)<;>cases ib r.perms k<;>simp
theorem xP{T C:Nat}{on:aj→Bool}:∀ (l:List aj) (o:List Int),(∀ r∈l,RV T C r)→(∀ x∈o,fS x)→o.length=4*T*T*C→(∀ x∈fU T C on o l,fS x)∧∀ j k,ib ((fU T C on o l).getD j 0) k=(ib (o.getD j 0) k||l.any fun r=>(on r&&r.pairs.any fun p=>decide (Ap T C r p=j))&&ib r.perms k)
 | [],o,_,ho,_=>⟨ho,fun j k=>by show ib (o.getD j 0) k=_;simp⟩
 | r::l,o,hl,ho,hn=>by
  have hr:=hl r (by simp);have hl':∀ r∈l,RV T C r:=fun q hq=>hl q (by simp[hq])
  cases e:on r with
  | false=>
   obtain⟨h3,h4⟩:=xP l o hl' ho hn;have e':fU T C on o (r::l)=fU T C on o l:=by show fU T C on (if on r=true then _ else o) l=_;rw[e];rfl
   rw[e'];refine⟨h3,fun j k=>?_⟩;rw[h4,List.any_cons,e];simp
  | true=>
   obtain⟨h1,h2⟩:=Pg (T:=T) (C:=C) hr.perms r.pairs o ho (fun p hp=>by rw[hn];exact aft hr hp);obtain⟨h3,h4⟩:=xP (on:=on) l (pP T C r o r.pairs) hl' h1 (by rw[uN];exact hn);have e':fU T C on o (r::l)=fU T C on (pP T C r o r.pairs) l:=by show fU T C on (if on r=true then _ else o) l=_;rw[e];rfl
   rw[e'];refine⟨h3,fun j k=>?_⟩;rw[h4,h2,List.any_cons,e];simp[Bool.or_assoc]
def bY(T C:Nat)(on:aj→Bool)(l:List aj):List Int:=fU T C on (List.replicate (4*T*T*C) 0) l
theorem gE(T C:Nat)(on:aj→Bool)(l:List aj):(bY T C on l).length=4*T*T*C:=by unfold bY;rw[oU,List.length_replicate]
theorem Yy(n j:Nat):(List.replicate n (0:Int)).getD j 0=0:=by
 rw[axP,List.getElem?_replicate];split<;>rfl
theorem lG{T C:Nat}{on:aj→Bool}{l:List aj}(hl:∀ r∈l,RV T C r):(∀ x∈bY T C on l,fS x)∧∀ j k,ib ((bY T C on l).getD j 0) k=l.any fun r=>(on r&&r.pairs.any fun p=>decide (Ap T C r p=j))&&ib r.perms k:=by
 obtain⟨h1,h2⟩:=xP (on:=on) l (List.replicate (4*T*T*C) 0) hl (fun x hx=>by rw[(List.mem_replicate.1 hx).2];exact⟨Int.le_refl _,by decide⟩) List.length_replicate;refine⟨h1,fun j k=>?_⟩;unfold bY;rw[h2,Yy,eY,Bool.false_or]
theorem xQ{T C:Nat}{on on':aj→Bool}{l l':List aj}(hl:∀ r∈l,RV T C r)(hl':∀ r∈l',RV T C r):bY T C on l=bY T C on' l' ↔
 ∀ (kind cls:Int) (s t k:Nat),s<256→t<256→((∃ r∈l,on r=true∧r.kind=kind∧r.cls=cls∧ib r.perms k=true∧mg r s t=true)↔∃ r∈l',on' r=true∧r.kind=kind∧r.cls=cls∧ib r.perms k=true∧mg r s t=true):=by
 obtain⟨a1,a2⟩:=lG (on:=on) hl;obtain⟨b1,b2⟩:=lG (on:=on') hl'
 have look:∀ {on:aj→Bool} {l:List aj},(∀ r∈l,RV T C r)→∀ {x:aj} {s t:Nat},RV T C x→s<256→t<256→s<T→t<T→∀ k,((l.any fun r=>(on r&&r.pairs.any fun p=>decide (Ap T C r p=Ap T C x (s,t)))&&ib r.perms k)=true↔∃ r∈l,on r=true∧r.kind=x.kind∧r.cls=x.cls∧ib r.perms k=true∧mg r s t=true):=by
  intro on l hl x s t hx hs ht hsT htT k;rw[List.any_eq_true];constructor
  ·rintro⟨r,hr,h⟩;simp only[axS,List.any_eq_true,decide_eq_true_iff] at h;obtain⟨⟨h1,p,hp,h2⟩,h3⟩:=h;have hv:=hl r hr;obtain⟨g1,g2⟩:=hv.pairs p hp;have c1:=hv.cls;have c2:=hx.cls;have k1:=hv.kind;have k2:=hx.kind;obtain⟨e1,e2,e3,e4⟩:=VE (by omega) (by omega) g1 hsT g2 htT h2;refine⟨r,hr,h1,by omega,by omega,h3,?_⟩;rw[fQ hs ht];have:p=(s,t):=Prod.ext e2 e3
   rwa [← this]
  ·rintro⟨r,hr,h1,h2,h3,h4,h5⟩;refine⟨r,hr,?_⟩;rw[h1,h4,Bool.true_and,Bool.and_true,List.any_eq_true];exact⟨(s,t),(fQ hs ht).1 h5,decide_eq_true (by unfold Ap;rw[h2,h3])⟩
 constructor
 ·intro H kind cls s t k hs ht
  have one:∀ {on on':aj→Bool} {l l':List aj},(∀ r∈l,RV T C r)→(∀ r∈l',RV T C r)→bY T C on l=bY T C on' l'→(∃ r∈l,on r=true∧r.kind=kind∧r.cls=cls∧ib r.perms k=true∧mg r s t=true)→∃ r∈l',on' r=true∧r.kind=kind∧r.cls=cls∧ib r.perms k=true∧mg r s t=true:=by
   rintro on on' l l' hl hl' H ⟨r,hr,h1,rfl,rfl,h4,h5⟩;have hv:=hl r hr;obtain⟨g1,g2⟩:=hv.pairs _ ((fQ hs ht).1 h5);refine(look hl' hv hs ht g1 g2 k).1 ?_;rw[← (lG hl').2,← H,(lG hl).2];exact(look hl hv hs ht g1 g2 k).2 ⟨r,hr,h1,rfl,rfl,h4,h5⟩
  exact⟨one hl hl' H,one hl' hl H.symm⟩
 ·intro H;refine List.ext_getElem? fun j=>?_
  have el:∀ {o:List Int} {j:Nat},j<o.length→o[j]?=some (o.getD j 0):=fun hj=>by rw[axP,axQ hj];rfl
  by_cases hj:j<4*T*T*C
  ·rw[el (by rw[gE];exact hj),el (by rw[gE];exact hj)];congr 1;have m1:fS ((bY T C on l).getD j 0):=a1 _ (axT (el (by rw[gE];exact hj)));have m2:fS ((bY T C on' l').getD j 0):=b1 _ (axT (el (by rw[gE];exact hj)));refine Co m1.1 m2.1 fun k=>?_
   rw[a2,b2]
   have one:∀ {on on':aj→Bool} {l l':List aj},(∀ r∈l,RV T C r)→(∀ r∈l',RV T C r) →
    (∀ (kind cls:Int) (s t k:Nat),s<256→t<256→(∃ r∈l,on r=true∧r.kind=kind∧r.cls=cls∧ib r.perms k=true∧mg r s t=true)→∃ r∈l',on' r=true∧r.kind=kind∧r.cls=cls∧ib r.perms k=true∧mg r s t=true) →
    (l.any fun r=>(on r&&r.pairs.any fun p=>decide (Ap T C r p=j))&&ib r.perms k)=true→(l'.any fun r=>(on' r&&r.pairs.any fun p=>decide (Ap T C r p=j))&&ib r.perms k)=true:=by
    intro on on' l l' hl hl' H h;obtain⟨r,hr,h⟩:=List.any_eq_true.1 h;simp only[axS,List.any_eq_true,decide_eq_true_iff] at h;obtain⟨⟨h1,p,hp,rfl⟩,h3⟩:=h;have hv:=hl r hr;obtain⟨g1,g2⟩:=hv.pairs p hp;obtain⟨q1,q2⟩:=iT hp;exact(look hl' hv q1 q2 g1 g2 k).2 (H _ _ _ _ _ q1 q2 ⟨r,hr,h1,rfl,rfl,h3,(fQ q1 q2).2 hp⟩)
   rw[Bool.eq_iff_iff];exact⟨one hl hl' fun kind cls s t k hs ht=>(H kind cls s t k hs ht).1,one hl' hl fun kind cls s t k hs ht=>(H kind cls s t k hs ht).2⟩
  ·rw[List.getElem?_eq_none (by rw[gE];omega),List.getElem?_eq_none (by rw[gE];omega)]
theorem qw{nB:Nat}(hn:nB≤5){conds:List aA}{l:List aj}(h4:∀ r∈l,r.kind=4→r.cond=0){kind cls:Int}{s t k n:Nat}:Gv (rlM nB conds l) kind cls s t k n↔n<2^nB∧∃ r∈l,YJ nB conds r.cond n=true∧r.kind=kind∧r.cls=cls∧ib r.perms k=true∧mg r s t=true:=by
 have hg:∀ r∈l,DH r=r.cond:=fun r hr=>by
  unfold DH;split
  ·rename_i h;exact(h4 r hr h).symm
  ·rfl
 constructor
 ·rintro⟨y,hy,h1,h2,h3,h5,h6⟩;obtain⟨r,hr,rfl⟩:=axU.1 hy;rw[(Hz hn _ _).2,hg r hr,axS,decide_eq_true_iff] at h6;exact⟨h6.1,r,hr,h6.2,h1,h2,h3,h5⟩
 ·rintro⟨hn2,r,hr,h0,h1,h2,h3,h5⟩;exact⟨_,axU.2 ⟨r,hr,rfl⟩,h1,h2,h3,h5,by rw[(Hz hn _ _).2,hg r hr,h0,decide_eq_true hn2];rfl⟩
theorem Vp{T C nB:Nat}(hn:nB≤5){ca cb:List aA}{la lb:List aj}(ha:∀ r∈la,RV T C r)(hb:∀ r∈lb,RV T C r)(ha4:∀ r∈la,r.kind=4→r.cond=0)(hb4:∀ r∈lb,r.kind=4→r.cond=0):
 (∀ n,n<2^nB→bY T C (fun r=>YJ nB ca r.cond n) la=bY T C (fun r=>YJ nB cb r.cond n) lb)↔(uY (rlM nB ca la) (rlM nB cb lb)=true∧uY (rlM nB cb lb) (rlM nB ca la)=true):=by
 have oa:=FD hn (conds:=ca) fun r hr=>(ha r hr).perms
 have ob:=FD hn (conds:=cb) fun r hr=>(hb r hr).perms
 rw[Aq oa ob,Aq ob oa];constructor
 ·intro H
  exact⟨fun kind cls s t k n hs ht h=>by
   rw[qw hn ha4] at h;rw[qw hn hb4]
   exact⟨h.1,((xQ ha hb).1 (H n h.1) kind cls s t k hs ht).1 h.2⟩,fun kind cls s t k n hs ht h=>by
   rw[qw hn hb4] at h;rw[qw hn ha4];exact⟨h.1,((xQ ha hb).1 (H n h.1) kind cls s t k hs ht).2 h.2⟩⟩
 ·rintro⟨H1,H2⟩ n hn2;refine(xQ ha hb).2 fun kind cls s t k hs ht=>⟨fun h=>?_,fun h=>?_⟩
  ·have:=H1 kind cls s t k n hs ht ((qw hn ha4).2 ⟨hn2,h⟩);exact((qw hn hb4).1 this).2
  ·have:=H2 kind cls s t k n hs ht ((qw hn hb4).2 ⟨hn2,h⟩);exact((qw hn ha4).1 this).2
theorem UY{l:List (aj×Int)}(hl:Il l){m:Nat}{x:aj×Int}(hx:l[m]?=some x):f_ x (g_ l (dA l m) m)=true↔jM (gA l (dA l m++[m])) l:=by
 rw[Kz hl hx (fun h=>Nat.lt_irrefl _ (og l m m h))];exact⟨fun h=>h.trans (lN hl m),fun h=>h.trans (lN hl m).symm⟩
theorem Az{w:World}{B:Nat}{v:Value}{s:List Bool}{n:Nat}{xs:List Value}(h:w.ownsRow B 4 1 v n xs)(hn:n=s.length)(hx:xs=s.map Value.bool):fZ w v s:=by
 subst hn hx;exact SliceAt.bC h fun u hu=>by obtain⟨b,-,rfl⟩:=axU.1 hu;rfl
def ZS(s:List Bool)(n:Int):Bool:=decide (0≤n)&&(s[n.toNat]?).getD false
theorem KQ(w0:World)(v:Value)(s:List Bool)(n:Int)(h:fZ w0 v s):Calls Tryz.prog 276 #[v,.int .i64 n] w0 fun r w'=>r=.returned (.bool (ZS s n))∧axO w0.heap.size w0 w':=by
 obtain⟨la,lk,rfl,hk,hm,hcell⟩:=SliceAt.form h (by decide);by_cases hin:0≤n∧n<s.length
 ·obtain⟨i,rfl⟩:∃ i:Nat,n=i:=⟨n.toNat,by omega⟩;have hi:i<s.length:=by omega
  obtain⟨b,off,rfl,hc⟩:=hcell i hi;refine dD [] (fn:=Tryz.f276) Tryz.func276 rfl Tryz.ntmps276 rfl (ia (an (fun _=>⟨rfl,rfl,hi⟩) (lc (x:=.bool s[i]) (an (fun _=>hc 0 (.bool s[i]) (by simp[hi])) fun M=>⟨?_,M.below⟩))));simp[kQ,ZS,hi]
 ·refine dD [] (fn:=Tryz.f276) Tryz.func276 rfl Tryz.ntmps276 rfl (ia (b:=0) (off:=0) (i:=0) (an (fun h=>by simp at h;omega) (lc (x:=.bool false) (an (fun h=>by simp at h;omega) fun M=>⟨?_,M.below⟩))))
  have:ZS s n=false:=by
   unfold ZS;by_cases h0:0≤n
   ·rw[List.getElem?_eq_none (by omega)];simp
   ·simp[h0]
  simp[kQ,this]
def DP(n:Nat)(s:List Bool):List Bool:=(List.range n).map fun(i:Nat)=>ZS s (i:Int)
theorem SA(w0:World)(c0 c1 c2 c3 c4 c5 c6 c7 c8 c9 aR aO aN aQ aM aL aP v:Value)(p:aF)(s:List Bool)(hp:aK w0 c0 c1 c2 c3 c4 c5 c6 c7 c8 c9 aR aO aN aQ aM aL aP p)(hs:fZ w0 v s)(hb:p.bools.length≤1000):
 Calls Tryz.prog 294 #[.agg #[c0,c1,c2,c3,c4,c5,c6,c7,c8,c9,aR,aO,aN,aQ,aM,aL,aP],v] w0 fun r w'=>∃ u,r=.returned u∧(w'.ownsRow w0.heap.size 4 1 u p.bools.length ((DP p.bools.length s).map Value.bool)∧axO w0.heap.size w0 w'):=by
 obtain⟨iu,iq,rfl,-⟩:=SliceAt.form hp.bools (by decide)
 refine dD [] (fn:=Tryz.f294) Tryz.func294 rfl Tryz.ntmps294 rfl fun g w1 M1=>lq (ι:=Nat×Value) (fun(m,u)=>[(5,u),(6,.int .i64 (m:Int))]) (fun(m,u)=>[⟨u,4,1,m,(DP m s).map Value.bool⟩]) (fun(m,u) _=>m≤p.bools.length) (fun(m,u)=>p.bools.length-m) (0,.slice none 0 0)
  (an ⟨⟨rfl,rfl,trivial⟩,fun M=>⟨M.bM 4 1,axV _⟩⟩ ?_)
 rintro⟨m,u⟩ w M hm;refine lb 0 (an rfl (an (fun h=>?_) fun h M=>?_))
 ·simp only[decide_eq_true_eq] at h;refine cl (an (KQ w _ s m (hs.keep M.below)) fun w2 M=>fun g2 w3 M=>ap 0 id rfl (M.slice 0 rfl rfl rfl (by simp[maxLen])) ⟨by unfold maxLen;omega,by omega⟩ fun v2 w4 M=>an (by omega) (bk (m+1,v2) ⟨rfl,rfl,trivial⟩ (fun M=>⟨(M.only (.cons _ (.refl _)) (.refl _)).cast rfl (by simp[DP,List.range_succ]),by omega⟩) (by simp;omega)))
 ·simp only[decide_eq_false_iff_not] at h;obtain rfl:m=p.bools.length:=by omega
  exact⟨_,rfl,M.r 0 rfl,M.below⟩
def lM(s:List Bool)(op a:Int)(l:List Bool):Bool:=
 if op=1 then ZS s a else if l.length=0 then false else if op=2 then !(l.getD 0 false) else if op=3 then l.getD 0 false&&l.getD 1 false else
  if op=4 then l.getD 0 false||l.getD 1 false else if op=6 then l.getD 0 false == l.getD 1 false else !(l.getD 0 false == l.getD 1 false)
mutual
def gZ(s:List Bool):aA→Bool
 | .node op a _ _ _ _ kids=>lM s op a (p7 s kids)
def p7(s:List Bool):List aA→List Bool
 | []=>[]
 | k::l=>gZ s k::p7 s l
end
theorem nQ(s:List Bool)(e:aA):gZ s e=lM s e.op e.a (p7 s e.kids):=by cases e;rw[gZ];rfl
theorem nO(s:List Bool):∀ l,p7 s l=l.map (gZ s)
 | []=>by rw[p7];rfl
 | k::l=>by rw[p7,nO s l];rfl
theorem IV:∀ e:aA,∀ (w0:World) (cs:List Value) (v:Value) (s:List Bool),bB w0 cs e→fZ w0 v s→Calls Tryz.prog 239 #[.agg cs.toArray,v] w0 fun r w'=>r=.returned (.bool (gZ s e))∧axO w0.heap.size w0 w':=by
 refine aA.ind fun e ih=>?_
 intro w0 cs v s h hs;obtain⟨nv,kv,rfl,Nv,hk⟩:=h.open;obtain⟨ka,kc,rfl,hc,xI,hcell⟩:=hk.form (by decide);refine dD [] (fn:=Tryz.f239) Tryz.func239 rfl Tryz.ntmps239 rfl fun g w1 M1=>lb 0 (an rfl (an (fun h1=>lb 0 (an rfl (cl (an (KQ _ _ s e.a (hs.keep M1.below)) fun w2 M=>fun M=>⟨?_,M.below⟩)))) fun h1=>lb 0 (an rfl (an (fun h2 M=>⟨?_,M.below⟩) fun h2=>?_))))
 ·simp only[decide_eq_true_eq] at h1;rw[nQ,lM,if_pos h1];rfl
 ·simp only[decide_eq_true_eq,decide_eq_false_iff_not] at h1 h2;rw[nQ,lM,if_neg h1,nO,if_pos (by rw[axW];omega)];rfl
 simp only[decide_eq_false_iff_not] at h1 h2;obtain⟨y0,hy0⟩:∃ y,e.kids[0]?=some y:=⟨_,axQ (by omega)⟩;obtain⟨b0,o0,x0,hka,he0,-,hr0⟩:=hcell 0 y0 hy0;obtain⟨nv0,kv0,rfl,-⟩:=he0.open
 obtain⟨y1,JA,VA,H1⟩:∃ y1 JA VA,1<e.kids.length→e.kids[1]?=some y1∧bB w0 [.int .i64 y1.op,.int .i64 y1.a,.int .i64 y1.rel,.int .i64 y1.b,JA,.int .u64 y1.set.a,.int .u64 y1.set.b,.int .u64 y1.set.c,.int .u64 y1.set.d,VA] y1 ∧
  ∀ (j:Nat) (u:Value),[Value.int .i64 y1.op,.int .i64 y1.a,.int .i64 y1.rel,.int .i64 y1.b,JA,.int .u64 y1.set.a,.int .u64 y1.set.b,.int .u64 y1.set.c,.int .u64 y1.set.d,VA][j]?=some u→w0.cell? ⟨b0,o0+1*10+j,none⟩=some u:=by
  by_cases h3:1<e.kids.length
  ·obtain⟨y1,hy1⟩:∃ y,e.kids[1]?=some y:=⟨_,axQ h3⟩;obtain⟨b1,o1,x1,afV,Ct,-,hr1⟩:=hcell 1 y1 hy1;obtain⟨JA,VA,rfl,-⟩:=Ct.open;rw[hka] at afV;cases afV;exact⟨y1,JA,VA,fun _=>⟨hy1,Ct,hr1⟩⟩
  ·exact⟨y0,nv0,kv0,fun h=>absurd h h3⟩
 have hl0:(p7 s e.kids).getD 0 false=gZ s y0:=by rw[nO];simp[hy0]
 have hl1:(p7 s e.kids).getD 1 false=(decide (1<(e.kids.length:Int))&&gZ s y1):=by
  rw[nO];by_cases h3:1<e.kids.length
  ·have hd:decide (1<(e.kids.length:Int))=true:=by simp;omega
   rw[hd,axP,axX,(H1 h3).1];rfl
  ·have hd:decide (1<(e.kids.length:Int))=false:=by simp;omega
   rw[hd,axP,axX,List.getElem?_eq_none (Nat.le_of_not_lt h3)];rfl
 have hV:gZ s e=if e.op=2 then !(gZ s y0) else if e.op=3 then gZ s y0&&(decide (1<(e.kids.length:Int))&&gZ s y1) else
  if e.op=4 then gZ s y0||(decide (1<(e.kids.length:Int))&&gZ s y1) else if e.op=6 then gZ s y0 == (decide (1<(e.kids.length:Int))&&gZ s y1) else !(gZ s y0 == (decide (1<(e.kids.length:Int))&&gZ s y1)):=by
  rw[nQ,lM,if_neg h1,hl0,hl1,if_neg (by rw[nO,axW];omega)]
 clear hl0 hl1;refine lb 0 (an rfl (ia (i:=0) (an ⟨hka,rfl,by omega⟩ (lc (an (dH M1.below hr0) (cl (an (ih y0 (axT hy0) _ _ _ s (bB.keep M1.below he0) (hs.keep M1.below)) fun w2 M2=>lb 0 (an rfl ?_))))))));have sG:decide (1<(e.kids.length:Int))=true→1<e.kids.length:=fun h=>by have:=of_decide_eq_true h;omega
 refine lb 0 (an (fun _=>rfl) (ia (i:=1) (an (fun h3=>⟨hka,rfl,sG h3⟩) (lc (an (fun h3=>dH M2.below (H1 (sG h3)).2.2) (cl (an (fun h3=>ih y1 (axT (H1 (sG h3)).1) _ _ _ s (bB.keep M2.below (H1 (sG h3)).2.1) (hs.keep M2.below)) fun w3 M3=>lb 0 (an rfl ?_))))))));rw[hV];clear hV H1;refine an (fun h2 M=>⟨?_,M.below⟩) fun h2=>lb 0 (an rfl (an (fun h3 M=>⟨?_,M.below⟩) fun h3=>lb 0 (an rfl (an (fun h4 M=>⟨?_,M.below⟩) fun h4=>lb 0 (an rfl (an (fun h5 M=>⟨?_,M.below⟩) fun h5 M=>⟨?_,M.below⟩))))))
 all_goals simp_all [kQ]
theorem Xe(w0:World)(c0 c1 c2 c3 c4 c5 c6 c7 c8 c9 aR aO aN aQ aM aL aP v:Value)(p:aF)(s:List Bool)(hp:aK w0 c0 c1 c2 c3 c4 c5 c6 c7 c8 c9 aR aO aN aQ aM aL aP p)(hs:fZ w0 v s)(hb:p.bools.length≤1000):
 Calls Tryz.prog 294 #[.agg #[c0,c1,c2,c3,c4,c5,c6,c7,c8,c9,aR,aO,aN,aQ,aM,aL,aP],v] w0 fun r w'=>∃ u,r=.returned u∧(fZ w' u (DP p.bools.length s)∧axO w0.heap.size w0 w'):=
 (SA w0 c0 c1 c2 c3 c4 c5 c6 c7 c8 c9 aR aO aN aQ aM aL aP v p s hp hs hb).mono fun _ _ ⟨u,h1,h2,h3⟩=>⟨u,h1,Az h2 (by simp[DP]) rfl,h3⟩
theorem xE(s:List Bool):eC (fun u w=>fZ w u s):=fun _ _ _ h hb=>h.keep hb
def kK(n:Nat)(conds:List aA)(s:List Bool):List Bool:=conds.map (gZ (DP n s))
theorem Fc(w0:World)(c0 c1 c2 c3 c4 c5 c6 c7 c8 c9 aR aO aN aQ aM aL aP v:Value)(p:aF)(s:List Bool)(hp:aK w0 c0 c1 c2 c3 c4 c5 c6 c7 c8 c9 aR aO aN aQ aM aL aP p)(hs:fZ w0 v s)(hb:p.bools.length≤1000)(hc:p.conds.length≤1000):
 Calls Tryz.prog 265 #[.agg #[c0,c1,c2,c3,c4,c5,c6,c7,c8,c9,aR,aO,aN,aQ,aM,aL,aP],v] w0 fun r w'=>∃ u,r=.returned u∧(w'.ownsRow w0.heap.size 4 1 u p.conds.length ((kK p.bools.length p.conds s).map Value.bool)∧axO w0.heap.size w0 w'):=by
 obtain⟨la8,lk8,rfl,-,-,FZ⟩:=aC.form hp.conds (by decide)
 refine dD [] (fn:=Tryz.f265) Tryz.func265 rfl Tryz.ntmps265 rfl fun g w1 M1=>lq (ι:=Nat×Value) (fun(m,u)=>[(5,u),(6,.int .i64 (m:Int))]) (fun(m,u)=>[⟨u,4,1,m,(kK p.bools.length (p.conds.take m) s).map Value.bool⟩]) (fun(m,u) _=>m≤p.conds.length) (fun(m,u)=>p.conds.length-m) (0,.slice none 0 0)
  (an ⟨⟨rfl,rfl,trivial⟩,fun M=>⟨M.bM 4 1,axV _⟩⟩ ?_)
 rintro⟨m,u⟩ w M hm;refine lb 0 (an rfl (an (fun h=>?_) fun h M=>?_))
 ·simp only[decide_eq_true_eq] at h;obtain⟨y,hy⟩:∃ y,p.conds[m]?=some y:=⟨_,axQ (by omega)⟩;obtain⟨b0,o0,x0,rfl,he,-,hr⟩:=FZ m y hy;obtain⟨nv0,kv0,rfl,-⟩:=he.open;refine dr (by kernel_rfl)<|lb 0<|an rfl<|ia<|an ⟨rfl,rfl,by omega⟩<|lc<|an (dH M.below hr)<|lb 0<|an rfl<|cr (fun u w=>fZ w u (DP p.bools.length s))<|an (xE _)<|an (fun w' hb' M'=>Xe _ _ _ _ _ _ _ _ _ _ _ _ _ _ _ _ _ _ _ p s (hp.keep M'.below) (hs.keep M'.below) hb)<|cu<|an (fun u _ w' hb' M' hR=>IV y _ _ _ _ (bB.keep M'.below he) hR) ?_;refine bl fun g2 w2 hb2 M=>ap 0 id rfl (M.slice 0 rfl rfl rfl (by simp[maxLen])) ⟨by unfold maxLen;omega,by omega⟩ fun v2 w4 M=>an (by omega) (bk (m+1,v2) ⟨rfl,rfl,trivial⟩ (fun M=>⟨(M.only (.cons _ (.refl _)) (.refl _)).cast rfl (by simp[kK,List.take_add_one,hy]),by omega⟩) (by simp;omega))
 ·simp only[decide_eq_false_iff_not] at h;obtain rfl:m=p.conds.length:=by omega
  exact⟨_,rfl,by have h1:=M.r 0 rfl;simp only[axY] at h1;exact h1,M.below⟩
def lS(n:Nat)(conds:List aA)(s:List Bool)(k:Int):Bool:=
 if 0<k∧k≤conds.length then ((kK n conds s)[(k-1).toNat]?).getD false else if k<0∧0-(conds.length:Int)≤k then !((kK n conds s)[(0-k-1).toNat]?).getD false else decide (k=0)
theorem vK(w0:World)(c0 c1 c2 c3 c4 c5 c6 c7 c8 c9 aR aO aN aQ aM aL aP v:Value)(p:aF)(s:List Bool)(k:Int)(hp:aK w0 c0 c1 c2 c3 c4 c5 c6 c7 c8 c9 aR aO aN aQ aM aL aP p)(hs:fZ w0 v s)(hb:p.bools.length≤1000)(hc:p.conds.length≤1000)(hk:iX k):
 Calls Tryz.prog 211 #[.agg #[c0,c1,c2,c3,c4,c5,c6,c7,c8,c9,aR,aO,aN,aQ,aM,aL,aP],v,.int .i64 k] w0 fun r w'=>r=.returned (.bool (lS p.bools.length p.conds s k))∧axO w0.heap.size w0 w':=by
 have hk1:=hk.1;have hk2:=hk.2;refine dD [] (fn:=Tryz.f211) Tryz.func211 rfl Tryz.ntmps211 rfl fun g w1 M1=>lb 0 (an rfl (cw M1 (Fc _ _ _ _ _ _ _ _ _ _ _ _ _ _ _ _ _ _ _ p s (hp.keep M1.below) (hs.keep M1.below) hb hc) fun u w2 M2=>?_))
 have hrow:=M2.r 0 rfl;have hu:fZ w2 u (kK p.bools.length p.conds s):=Az hrow (by simp[kK]) rfl;obtain⟨la,lk,rfl,-,-,hcell⟩:=SliceAt.form hu (by decide);have hlen:(kK p.bools.length p.conds s).length=p.conds.length:=by simp[kK]
 rw[hlen] at hcell;have hL:((kK p.bools.length p.conds s).map Value.bool).length=p.conds.length:=by simp[hlen]
 refine an (fun h=>?_) fun h=>?_
 ·simp only[axS,decide_eq_true_eq,hlen] at h;obtain⟨b,off,rfl,hc'⟩:=hcell (k-1).toNat (by omega);have hlt:(k-1).toNat<(kK p.bools.length p.conds s).length:=by rw[hlen];omega
  refine an (by omega)<|ia (i:=(k-1).toNat)<|an ⟨rfl,by omega,by omega⟩<|lc (x:=.bool (kK p.bools.length p.conds s)[(k-1).toNat])<|an (hc' 0 _ (by simp)) fun M=>⟨?_,M.below⟩
  unfold lS;rw[if_pos h,axQ hlt];rfl
 ·refine an (by omega)<|an (fun h2=>?_) fun h2 M=>⟨?_,M.below⟩
  ·simp only[axS,decide_eq_true_eq,hlen] at h2;simp only[Bool.and_eq_false_iff,decide_eq_false_iff_not,hlen] at h;obtain⟨b,off,rfl,hc'⟩:=hcell (0-k-1).toNat (by omega);have hlt:(0-k-1).toNat<(kK p.bools.length p.conds s).length:=by rw[hlen];omega
   refine an (by omega)<|an (by omega)<|ia (i:=(0-k-1).toNat)<|an ⟨rfl,by omega,by omega⟩<|lc (x:=.bool (kK p.bools.length p.conds s)[(0-k-1).toNat])<|an (hc' 0 _ (by simp)) fun M=>⟨?_,M.below⟩
   unfold lS;rw[if_neg (by omega),if_pos h2,axQ hlt];rfl
  ·simp only[Bool.and_eq_false_iff,decide_eq_false_iff_not,hlen] at h h2;unfold lS;rw[if_neg (by omega),if_neg (by omega)];rfl
theorem adH{P:Program}{a:Act}{w:World}{o:Oper}{ss tt:TypeId}{x:Operand}{m:Nat}(ho:o.op=.convert ss tt x)(hx:a.eval x=.int .i64 (m:Int))(hs:P.underlying ss=some (.int .i64))(ht:P.underlying tt=some (.int .u64))(hm:m<18446744073709551616):(execOp a.eval o).run P w=.ok (.value (.int .u64 (m:Int))) w:=by
 have hw:IntKind.u64.wrap (m:Int)=(m:Int):=by simp only[IntKind.wrap,IntKind.bits,IntKind.signed];simp;omega
 unfold execOp;have uG:∀ {t:TypeId} {d:TypeDesc},P.underlying t=some d→(underlying t).run P w=.ok d w:=fun h=>run_underlying h w
 simp[ho,hx,convert,Sem.run_bind,Sem.run_pure,uG hs,uG ht,Conv.intToInt,hw]
theorem ZV(q:Nat):IntKind.i64.wrap (((BitVec.ofInt 64 (q:Int))&&&BitVec.ofInt 64 1).toNat:Int)=((q%2:Nat):Int):=by
 have h:((BitVec.ofInt 64 (q:Int))&&&BitVec.ofInt 64 1).toNat=q%2:=by
  rw[BitVec.toNat_and,BitVec.ofInt_natCast,BitVec.toNat_ofNat];show q%2^64&&&1=_;rw[Nat.and_one_is_mod];omega
 rw[h];have:q%2<2:=Nat.mod_lt _ (by decide);simp only[IntKind.wrap,IntKind.bits,IntKind.signed];simp;omega
def tD(n r:Nat):List Bool:=(List.range n).map fun i=>r.testBit i
theorem BM(w0:World)(c0 c1 c2 c3 c4 c5 c6 c7 c8 c9 aR aO aN aQ aM aL aP:Value)(p:aF)(r:Nat)(hp:aK w0 c0 c1 c2 c3 c4 c5 c6 c7 c8 c9 aR aO aN aQ aM aL aP p)(hb:p.bools.length≤60):
 Calls Tryz.prog 134 #[.agg #[c0,c1,c2,c3,c4,c5,c6,c7,c8,c9,aR,aO,aN,aQ,aM,aL,aP],.int .i64 (r:Int)] w0 fun x w'=>∃ u,x=.returned u∧(w'.ownsRow w0.heap.size 4 1 u p.bools.length ((tD p.bools.length r).map Value.bool)∧axO w0.heap.size w0 w'):=by
 obtain⟨iu,iq,rfl,-⟩:=SliceAt.form hp.bools (by decide)
 refine dD [] (fn:=Tryz.f134) Tryz.func134 rfl Tryz.ntmps134 rfl fun g w1 M1=>lq (ι:=Nat×Value) (fun(m,u)=>[(5,u),(6,.int .i64 (m:Int))]) (fun(m,u)=>[⟨u,4,1,m,(tD m r).map Value.bool⟩]) (fun(m,u) _=>m≤p.bools.length) (fun(m,u)=>p.bools.length-m) (0,.slice none 0 0)
  (an ⟨⟨rfl,rfl,trivial⟩,fun M=>⟨M.bM 4 1,axV _⟩⟩ ?_)
 rintro⟨m,u⟩ w M hm;refine lb 0 (an rfl (an (fun h=>?_) fun h M=>?_))
 ·simp only[decide_eq_true_eq] at h;have hq:((r:Int)/2^m)=((r/2^m:Nat):Int):=by simp
  refine ei<|an (fun a w o ho hv=>adH ho (oD hv) u3 aie (by omega))<|ei (x:=.int .i64 ((r/2^m:Nat):Int))<|an (fun a w o ho hv=>?_)<|ei<|an (ZV _) fun g2 w3 M=>ap 0 id rfl (M.slice 0 rfl rfl rfl (by simp[maxLen])) ⟨by unfold maxLen;omega,by omega⟩ fun v2 w4 M=>an (by omega) (bk (m+1,v2) ⟨rfl,rfl,trivial⟩ (fun M=>⟨(M.only (.cons _ (.refl _)) (.refl _)).cast rfl (by
   have:decide ((((r/2^m)%2:Nat):Int)=1)=r.testBit m:=by
    rw[Nat.testBit_eq_decide_div_mod_eq];exact decide_eq_decide.2 (by omega)
   simp only[tD,List.range_succ,List.map_append,List.map_cons,List.map_nil,this]),by omega⟩) (by simp;omega))
  have:=W8 (P:=Tryz.prog) (w:=w) ho (oD hv) (uf hv) (by omega) (by simp[IntKind.bits];omega);rw[this,← hq];rfl
 ·simp only[decide_eq_false_iff_not] at h;obtain rfl:m=p.bools.length:=by omega
  exact⟨_,rfl,M.r 0 rfl,M.below⟩
theorem Mc(w0:World)(v v':Value)(s s':List Bool)(h:fZ w0 v s)(h':fZ w0 v' s'):Calls Tryz.prog 136 #[v,v'] w0 fun r w'=>r=.returned (.bool (decide (s=s')))∧axO w0.heap.size w0 w':=by
 obtain⟨la,lk,rfl,-,xI,hcell⟩:=SliceAt.form h (by decide);obtain⟨la',lk',rfl,-,-,Cu⟩:=SliceAt.form h' (by decide);refine dD [] (fn:=Tryz.f136) Tryz.func136 rfl Tryz.ntmps136 rfl<|an (fun h M=>⟨?_,M.below⟩) fun h=>lr (ι:=Nat) (fun m=>[(5,.int .i64 (m:Int))]) (fun m _=>m≤s.length∧s.take m=s'.take m) (fun m=>s.length-m) 0 (an ⟨⟨rfl,trivial⟩,fun M=>⟨M,axV _,rfl⟩⟩ ?_)
 ·have:s≠s':=fun e=>by rw[e] at h;simp at h
  rw[decide_eq_false this];rfl
 have hll:s.length=s'.length:=Int.ofNat_inj.1 (by simpa using h);rintro m w M ⟨hm,ht⟩;refine an (fun h2=>?_) fun h2 M=>⟨?_,M.below⟩
 ·simp only[decide_eq_true_eq] at h2;obtain⟨b,off,rfl,hc⟩:=hcell m (by omega);obtain⟨b',off',rfl,hc'⟩:=Cu m (by omega);have hlt:m<s.length:=by omega
  have hlt':m<s'.length:=by omega
  refine dr (by kernel_rfl)<|ia<|an ⟨rfl,rfl,hlt⟩<|lc (x:=.bool s[m])<|an (axZ M.below (hc 0 _ (by simp[hlt])))<|ia<|an ⟨rfl,rfl,hlt'⟩<|lc (x:=.bool s'[m])<|an (axZ M.below (hc' 0 _ (by simp[hlt']))) fun w2 hb2 M=>an (fun h3 M=>⟨?_,M.below⟩) fun h3=>an (by omega) (bk (m+1) ⟨rfl,trivial⟩ (fun M=>⟨M,by omega,?_⟩) (by dsimp only;omega))
  ·have:s≠s':=fun e=>by subst e;simp at h3
   rw[decide_eq_false this];rfl
  ·rw[List.take_add_one,List.take_add_one,ht,axQ hlt,axQ hlt'];have:s[m]=s'[m]:=by simpa using h3
   rw[this]
 ·simp only[decide_eq_false_iff_not] at h2;have:s=s':=by rw[← axY (l:=s),← axY (l:=s'),← hll,← show m=s.length by omega];exact ht
  rw[decide_eq_true this];rfl
theorem VF{K T C s t c:Nat}(hK:K≤3)(hT:T≤256)(hC:C≤256)(hs:s<T)(ht:t<T)(hc:c<C):K*T≤768∧K*T+s<4*T∧(K*T+s)*T≤262144∧(K*T+s)*T+t<4*T*T∧((K*T+s)*T+t)*C≤67108864∧((K*T+s)*T+t)*C+c<4*T*T*C:=by
 have h1:K*T≤3*256:=Nat.mul_le_mul hK hT;have h1':K*T≤3*T:=axR _ hK;have h2:K*T+s<4*T:=by omega
 have h3:(K*T+s)*T≤(4*256)*256:=Nat.mul_le_mul (by omega) hT
 have h4:(K*T+s)*T+t<4*T*T:=by
  have:=axR T (show K*T+s+1≤4*T by omega);rw[Nat.succ_mul] at this;omega
 have h4':(K*T+s)*T+t<262144:=by
  have:4*T*T≤(4*256)*256:=Nat.mul_le_mul (Nat.mul_le_mul_left _ hT) hT;omega
 have h5:((K*T+s)*T+t)*C≤262144*256:=Nat.mul_le_mul (by omega) hC;refine⟨by omega,h2,by omega,h4,by omega,?_⟩;have:=axR C (show(K*T+s)*T+t+1≤4*T*T by omega);rw[Nat.succ_mul] at this;omega
theorem Yl{xs:List Int}{j:Nat}{v:Int}(hj:j<xs.length):(xs.flatMap oH).take (j*1)++bg (.int .u32 v)++(xs.flatMap oH).drop (j*1+1)=(xs.set j v).flatMap oH:=by
 have h:∀ l:List Int,l.flatMap oH=l.map (Value.int .u32):=fun l=>by induction l with
  | nil=>rfl
  | cons x r ih=>rw[List.flatMap_cons,ih];rfl
 rw[h,h,Nat.mul_one,List.map_set,List.set_eq_take_append_cons_drop,if_pos (by simpa using hj)];simp[bg]
def OZ(r:aj)(s q:Nat):List (Nat×Nat):=if r.src.has s=true then (cA (r.tgts s) q).map fun t=>(s,t) else []
theorem FE(w0:World)(r:aj)(hr:r.Ok):
 Calls Tryz.prog 212 #[.agg #[.int .i64 r.kind,.int .u64 r.src.a,.int .u64 r.src.b,.int .u64 r.src.c,.int .u64 r.src.d,.int .u64 r.tgt.a,.int .u64 r.tgt.b,.int .u64 r.tgt.c,.int .u64 r.tgt.d,.bool r.self,.int .i64 r.cls,.int .u32 r.perms,.int .i64 r.cond]] w0 fun e w'=>∃ v,e=.returned v∧(w'.ownsRow w0.heap.size 111 2 v r.pairs.length (eE r.pairs)∧axO w0.heap.size w0 w'):=by
 refine dD [] (fn:=Tryz.f212) Tryz.func212 rfl Tryz.ntmps212 rfl<|fun g1 w1 M1=>lq (ι:=Nat×Value) (fun(s,u)=>[(3,u),(4,.int .i64 (s:Int))]) (fun(s,u)=>[⟨u,111,2,(r.bZ (cA r.src s)).length,eE (r.bZ (cA r.src s))⟩]) (fun(s,u) _=>s≤256) (fun(s,u)=>256-s) (0,.slice none 0 0) (an ⟨⟨rfl,rfl,trivial⟩,fun M=>⟨M.bM 111 2,axV _⟩⟩ ?_)
 rintro⟨s,u⟩ w M hs;have hP:=mQ r (cA r.src s);have hP2:=dY r.src s;refine an (fun h=>?_) fun h=>?_
 ·have hlt:s<256:=by simp at h;omega
  refine lq (ι:=Nat×Value) (fun(q,u)=>[(3,u),(5,.int .i64 (q:Int))]) (fun(q,u)=>[⟨u,111,2,(r.bZ (cA r.src s)++OZ r s q).length,eE (r.bZ (cA r.src s)++OZ r s q)⟩]) (fun(q,u) _=>q≤256) (fun(q,u)=>256-q) (0,u) (an ⟨⟨rfl,rfl,trivial⟩,fun M=>⟨M.cast rfl (by dsimp only;rw[show OZ r s 0=[] by unfold OZ cA;simp,List.append_nil]),axV _⟩⟩ ?_);rintro⟨q,u⟩ w M hq
  have hX:(r.bZ (cA r.src s)++OZ r s q).length≤65536+256:=by
   have h3:=dY (r.tgts s) q;rw[ax0];unfold OZ;split
   ·rw[axW];omega
   ·simp;omega
  refine lb 0<|an (fun _=>rfl)<|cl<|an (fun _=>uI _ r.src hr.src s) fun w2 M2=>?_
  refine an (fun h2=>?_) fun h2=>?_
  ·obtain⟨h3,h4⟩:q<256∧r.src.has s=true:=by rw[ay.rG r.src hlt] at h2;simp at h2;exact⟨by omega,h2.2⟩
   refine lb 0<|an rfl<|cl<|an (uI _ r.tgt hr.tgt q) fun w3 M3=>lb 0<|an (fun _=>rfl)<|?_
   have hth:=Uu r hlt h3;refine an (fun h5=>?_) fun h5=>?_
   ·have h6:(r.tgts s).has q=true:=by rw[hth,← ay.rG r.tgt h3];revert h5;cases r.tgt.mem (q:Int)<;>cases r.self<;>simp<;>omega
    refine ei (x:=.agg #[.int .i64 (s:Int),.int .i64 (q:Int)])<|an (bd (by kernel_rfl))<|fun g2 w4 M4=>ap 0 id rfl (M4.slice 0 rfl (k:=2) (n:=1) rfl rfl (by simp[maxLen])) ⟨by unfold maxLen;omega,by omega⟩ fun v3 w5 M5=>?_
    exact an (by omega)<|bk (q+1,v3) ⟨rfl,rfl,trivial⟩ (fun M=>⟨(M.only (.cons _ (.refl _)) (.refl _)).cast rfl (by dsimp only;rw[show OZ r s (q+1)=OZ r s q++[(s,q)] by unfold OZ;rw[if_pos h4,if_pos h4,qO h6,List.map_append];rfl,← List.append_assoc,lP _ [(s,q)],ax0 (bs:=[(s,q)])];rfl),by dsimp only;omega⟩) (by dsimp only;omega)
   ·have h6:(r.tgts s).has q=false:=by rw[hth,← ay.rG r.tgt h3];revert h5;cases r.tgt.mem (q:Int)<;>cases r.self<;>simp<;>omega
    exact an (by omega)<|bk (q+1,u) ⟨rfl,rfl,trivial⟩ (fun M=>⟨M.cast rfl (by dsimp only;rw[show OZ r s (q+1)=OZ r s q by unfold OZ;rw[tR h6]]),by dsimp only;omega⟩) (by dsimp only;omega)
  ·have h3:r.bZ (cA r.src s)++OZ r s q=r.bZ (cA r.src (s+1)):=by
    unfold OZ
    cases hh:r.src.has s with
    | true=>
     obtain rfl:q=256:=by rw[ay.rG r.src hlt,hh] at h2;simp at h2;omega
     rw[if_pos rfl,qO hh,kS];rfl
    | false=>rw[tR hh];simp
   exact an (by omega)<|bk (s+1,u) ⟨rfl,rfl,trivial⟩ (fun M=>⟨M.cast rfl (by dsimp only;rw[h3]),by dsimp only;omega⟩) (by dsimp only;omega)
 obtain rfl:s=256:=by simp at h;omega
 exact fun M=>⟨_,rfl,M.r 0 rfl,M.below⟩
theorem Ke(w0:World)(c0 c1 c2 c3 c4 c5 c6 c7 c8 c9 aR aO aN aQ aM aL aP v:Value)(p:aF)(s:List Bool)(hp:aK w0 c0 c1 c2 c3 c4 c5 c6 c7 c8 c9 aR aO aN aQ aM aL aP p)(hs:fZ w0 v s)(hb:p.bools.length≤1000)(hc:p.conds.length≤1000)(hT:p.types.length≤256)(hC:p.classes.length≤256)
 (hR:∀ r∈p.rules,RV p.types.length p.classes.length r∧r.oC) :
 Calls Tryz.prog 133 #[.agg #[c0,c1,c2,c3,c4,c5,c6,c7,c8,c9,aR,aO,aN,aQ,aM,aL,aP],v] w0 fun x w'=>∃ u,x=.returned u∧(w'.ownsRow w0.heap.size 50 1 u (4*p.types.length*p.types.length*p.classes.length) ((bY p.types.length p.classes.length (fun r=>lS p.bools.length p.conds s r.cond) p.rules).flatMap oH)∧axO w0.heap.size w0 w'):=by
 obtain⟨la0,lk0,rfl,-⟩:=aC.form hp.classes (by decide);obtain⟨la1,lk1,rfl,-⟩:=aC.form hp.types (by decide);obtain⟨YW,Vt,rfl,-,hm9,-⟩:=SliceAt.form hp.rules (by decide);generalize hTd:p.types.length=T at *;generalize hCd:p.classes.length=C at *
 have hN1:4*T*T*C≤67108864:=by
  have h1:4*T*T≤(4*256)*256:=Nat.mul_le_mul (Nat.mul_le_mul_left _ hT) hT;have h2:4*T*T*C≤((4*256)*256)*256:=Nat.mul_le_mul h1 hC;omega
 have hTT:4*T*T≤262144:=Nat.mul_le_mul (Nat.mul_le_mul_left _ hT) hT;refine dD [] (fn:=Tryz.f133) Tryz.func133 rfl Tryz.ntmps133 rfl fun g w1 M1=>dr (by kernel_rfl)<|lb 0<|an rfl<|lb 0<|an rfl ?_
 refine fun w2 hb2 M2=>?_
 have e1:(4*(T:Int))*(T:Int)=((4*T*T:Nat):Int):=by simp
 have e2:(4*(T:Int))*(T:Int)*(C:Int)=((4*T*T*C:Nat):Int):=by simp
 refine an (by omega)<|an (by omega)<|an (by omega)<|mz M2 aif afx ah5 rfl e2 ⟨by omega,by unfold maxLen;omega⟩ fun g2 w3 M3=>?_
 refine lq (ι:=Nat) (fun m=>[(8,.int .i64 (m:Int))]) (fun m=>[⟨.slice (some ⟨g2,0,none⟩) (4*T*T*C) (4*T*T*C),50,1,4*T*T*C,(bY T C (fun r=>lS p.bools.length p.conds s r.cond) (p.rules.take m)).flatMap oH⟩]) (fun m _=>m≤p.rules.length) (fun m=>p.rules.length-m) 0
  (an ⟨⟨rfl,trivial⟩,fun M=>⟨M.cast rfl ?_,axV _⟩⟩ ?_)
 ·have:∀ n:Nat,List.replicate n (Value.int .u32 0)=(List.replicate n (0:Int)).flatMap oH:=fun n=>by induction n with
   | zero=>rfl
   | succ n ih=>rw[List.replicate_succ,List.replicate_succ,List.flatMap_cons,← ih];rfl
  exact congrArg (fun x=>[(⟨_,50,1,_,x⟩:Rw)]) (this _)
 intro m w M hm;refine lb 0<|an rfl<|an (fun h=>?_) fun h M=>?_
 ·simp only[decide_eq_true_eq] at h;obtain⟨y,hy⟩:∃ y,p.rules[m]?=some y:=⟨_,axQ (by omega)⟩;obtain⟨hRV,hyk⟩:=hR y (axT hy);obtain⟨b0,o0,rfl,hcell⟩:=SliceAt.elt hp.rules (f:=aj.cells) (fun _=>rfl) (by decide) hy (by omega)
  have hstep:∀ out,fU T C (fun r=>lS p.bools.length p.conds s r.cond) out (p.rules.take (m+1))=if lS p.bools.length p.conds s y.cond=true then pP T C y (fU T C (fun r=>lS p.bools.length p.conds s r.cond) out (p.rules.take m)) y.pairs else fU T C (fun r=>lS p.bools.length p.conds s r.cond) out (p.rules.take m):=fun out=>by
   unfold fU;rw[List.take_add_one,hy];simp
  refine lb 0<|an rfl<|ia<|an ⟨rfl,rfl,by omega⟩<|lc<|an (dH M.below hcell)<|ei<|an mJ fun g3 w4 M=>lb 0<|an ⟨rfl,rfl⟩ fun w5 M=>?_
  refine lb 1<|an rfl<|lb 0<|an rfl<|cl<|an (vK _ _ _ _ _ _ _ _ _ _ _ _ _ _ _ _ _ _ _ p s y.cond (hp.keep M.below) (hs.keep M.below) hb hc hyk.cond) fun w6 M=>an (fun hoff=>?_) fun hon=>?_
  ·refine an (by omega)<|bk (m+1) ⟨rfl,trivial⟩ (fun M=>⟨(M.only (.cons _ (.refl _)) (.refl _)).cast rfl ?_,by omega⟩) (by dsimp only;omega);refine congrArg (fun x=>[(⟨_,50,1,_,List.flatMap oH x⟩:Rw)]) ?_;unfold bY;rw[hstep,if_neg (by simpa using hoff)]
  ·have ajs:lS p.bools.length p.conds s y.cond=true:=by simpa using hon
   obtain⟨K,hK⟩:∃ K:Nat,y.kind=(K:Int)+1:=⟨(y.kind-1).toNat,by have:=hRV.kind;omega⟩;obtain⟨c,hcl⟩:∃ c:Nat,y.cls=(c:Int):=⟨y.cls.toNat,by have:=hRV.cls;omega⟩;have nE:K≤3:=by have:=hRV.kind;omega
   have hcC:c<C:=by have:=hRV.cls;omega
   refine lb 0<|an rfl<|cw M (FE _ y ⟨hyk.src,hyk.tgt⟩) fun u w7 M=>?_
   refine lq (ι:=Nat) (fun k=>[(11,.int .i64 (k:Int))]) (fun k=>[⟨u,111,2,y.pairs.length,eE y.pairs⟩,⟨.slice (some ⟨g2,0,none⟩) (4*T*T*C) (4*T*T*C),50,1,4*T*T*C,(pP T C y (bY T C (fun r=>lS p.bools.length p.conds s r.cond) (p.rules.take m)) (y.pairs.take k)).flatMap oH⟩]) (fun k _=>k≤y.pairs.length) (fun k=>y.pairs.length-k) 0
    (an ⟨⟨rfl,trivial⟩,fun M=>⟨M,axV _⟩⟩ ?_)
   intro k w M hk;obtain⟨ua,uc,rfl,xI⟩:=M.shape 0 rfl;refine an (fun h2=>?_) fun h2=>?_
   ·simp only[decide_eq_true_eq] at h2;obtain⟨q,hq⟩:∃ q,y.pairs[k]?=some q:=⟨_,axQ (by omega)⟩;obtain⟨hq1,hq2⟩:=hRV.pairs q (axT hq);obtain⟨gp,cp,hup⟩:=M.own 0 rfl (by omega);cases hup;have hcp:=M.elt 0 (f:=yQ) (l:=y.pairs) rfl (fun _=>rfl) hq;obtain⟨x1,x2,x3,x4,x5,x6⟩:=VF nE hT hC hq1 hq2 hcC;have i1:y.kind-1=(K:Int):=by omega
    have i2:(y.kind-1)*(T:Int)=((K*T:Nat):Int):=by rw[i1];simp
    have i3:(y.kind-1)*(T:Int)+(q.1:Int)=((K*T+q.1:Nat):Int):=by rw[i2];simp
    have i4:((y.kind-1)*(T:Int)+(q.1:Int))*(T:Int)=(((K*T+q.1)*T:Nat):Int):=by rw[i3];simp
    have i5:((y.kind-1)*(T:Int)+(q.1:Int))*(T:Int)+(q.2:Int)=(((K*T+q.1)*T+q.2:Nat):Int):=by rw[i4];simp
    have i6:(((y.kind-1)*(T:Int)+(q.1:Int))*(T:Int)+(q.2:Int))*(C:Int)=((((K*T+q.1)*T+q.2)*C:Nat):Int):=by rw[i5];simp
    have i7:(((y.kind-1)*(T:Int)+(q.1:Int))*(T:Int)+(q.2:Int))*(C:Int)+y.cls=((((K*T+q.1)*T+q.2)*C+c:Nat):Int):=by rw[i6,hcl];simp
    have hix:Ap T C y q=((K*T+q.1)*T+q.2)*C+c:=by unfold Ap;rw[hcl,i1];simp
    refine dr (by kernel_rfl)<|lb 0<|an rfl<|an (by omega)<|an (by omega)<|ia<|an ⟨rfl,rfl,by omega⟩<|ei (x:=0)<|an ⟨rfl,by decide⟩<|lc<|an (hcp 0 _ rfl)<|an (by omega)<|an (by omega)<|ia<|an ⟨rfl,rfl,by omega⟩<|ei (x:=1)<|an ⟨rfl,by decide⟩<|lc<|an (hcp 1 _ rfl)<|an (by omega)<|an (by omega)<|lb 0<|an rfl<|an (by omega) fun w8 R9 M=>?_
    have hol:(pP T C y (bY T C (fun r=>lS p.bools.length p.conds s r.cond) (p.rules.take m)) (y.pairs.take k)).length=4*T*T*C:=by rw[uN,gE]
    obtain⟨vo,hvo⟩:∃ vo,(pP T C y (bY T C (fun r=>lS p.bools.length p.conds s r.cond) (p.rules.take m)) (y.pairs.take k))[((K*T+q.1)*T+q.2)*C+c]?=some vo:=⟨_,axQ (by rw[hol];exact x6)⟩;have hco:=M.elt 1 (f:=oH) rfl (fun _=>rfl) hvo;refine dr (by kernel_rfl)<|ia<|an ⟨rfl,i7,x6⟩<|lc<|an (hco 0 _ rfl)<|lb 0<|an rfl<|ei<|an rfl<|ia<|an ⟨rfl,i7,x6⟩ fun w9 hb9 M=>sr 1 _ ⟨rfl,Nat.zero_add _,x6⟩ rfl fun rz M=>an (by omega)<|bk (k+1) ⟨rfl,trivial⟩ (fun M=>⟨M.cast rfl ?_,by omega⟩) (by dsimp only;omega)
    refine congrArg (fun x=>[(⟨_,111,2,_,_⟩:Rw),⟨_,50,1,_,x⟩]) ?_
    have hput:pP T C y (bY T C (fun r=>lS p.bools.length p.conds s r.cond) (p.rules.take m)) (y.pairs.take (k+1))=(pP T C y (bY T C (fun r=>lS p.bools.length p.conds s r.cond) (p.rules.take m)) (y.pairs.take k)).set (((K*T+q.1)*T+q.2)*C+c) (bits .or .u32 vo y.perms):=by
     have e9:y.pairs.take (k+1)=y.pairs.take k++[q]:=by rw[List.take_add_one,hq];rfl
     have hs1:pP T C y (bY T C (fun r=>lS p.bools.length p.conds s r.cond) (p.rules.take m)) (y.pairs.take k++[q])=wV (Ap T C y q) y.perms (pP T C y (bY T C (fun r=>lS p.bools.length p.conds s r.cond) (p.rules.take m)) (y.pairs.take k)):=by
      unfold pP;rw[List.foldl_append];rfl
     rw[e9,hs1,wV,hix,axP,hvo];rfl
    rw[hput,← Yl (by rw[hol];exact x6),Nat.zero_add];rfl
   ·simp only[decide_eq_false_iff_not] at h2;obtain rfl:k=y.pairs.length:=by omega
    refine an (by omega)<|bk (m+1) ⟨rfl,trivial⟩ (fun M=>⟨(M.only (.cons _ (.refl _)) (.cons _ (.refl _))).cast rfl ?_,by omega⟩) (by dsimp only;omega);refine congrArg (fun x=>[(⟨_,50,1,_,List.flatMap oH x⟩:Rw)]) ?_;unfold bY;rw[hstep,if_pos ajs,axY]
 ·simp only[decide_eq_false_iff_not] at h;obtain rfl:m=p.rules.length:=by omega
  exact⟨_,rfl,by have h1:=M.r 0 rfl;simp only[axY] at h1;exact h1,M.below⟩
theorem X8(l:List Int):∀ u∈l.flatMap oH,u.oneCell'=true:=fun u hu=>by
 obtain⟨x,-,hx⟩:=List.mem_flatMap.1 hu;simp only[oH,List.mem_singleton] at hx;rw[hx];rfl
theorem JB(w0:World)(c0 c1 c2 c3 c4 c5 c6 c7 c8 c9 aR aO aN aQ aM aL aP:Value)(p:aF)(r:Nat)(hp:aK w0 c0 c1 c2 c3 c4 c5 c6 c7 c8 c9 aR aO aN aQ aM aL aP p)(hb:p.bools.length≤60):
 Calls Tryz.prog 134 #[.agg #[c0,c1,c2,c3,c4,c5,c6,c7,c8,c9,aR,aO,aN,aQ,aM,aL,aP],.int .i64 (r:Int)] w0 fun x w'=>∃ u,x=.returned u∧(fZ w' u (tD p.bools.length r)∧axO w0.heap.size w0 w'):=
 (BM w0 c0 c1 c2 c3 c4 c5 c6 c7 c8 c9 aR aO aN aQ aM aL aP p r hp hb).mono fun _ _ ⟨u,h1,h2,h3⟩=>⟨u,h1,Az h2 (by simp[tD]) rfl,h3⟩
def DE(p:aF)(i:Nat):List Int:=bY p.types.length p.classes.length (fun r=>lS p.bools.length p.conds (tD p.bools.length i) r.cond) p.rules
def iV(p:aF):List (List Int):=(List.range (2^p.bools.length)).map (DE p)
def UR(wb:World)(n:Nat)(l:List Int):Value→World→Prop:=fun v w=>w.ownsRow wb.heap.size 50 1 v n (l.flatMap oH)
theorem tK(wb:World)(n:Nat)(l:List Int):eC (UR wb n l):=fun _ _ _ h hb=>gu hb h (Nat.le_refl _)
theorem Bv{wb:World}{n:Nat}{l:List Int}{u:Value}{w:World}(h:UR wb n l u w):u.cells=#[u]:=by
 obtain⟨a,c,rfl,-⟩:=fB h;rfl
theorem Yu{wb:World}{n:Nat}{l:List Int}{u:Value}{w:World}{q:Nat}(h:UR wb n l u w)(hq:u.ownBlock=some q):q<w.heap.size:=(World.ownsRow.lt h q hq).2
theorem aeS(n:Nat)(h:n≤10):2^n≤1024:=Nat.pow_le_pow_right (by decide) h
theorem jS(w0:World)(c0 c1 c2 c3 c4 c5 c6 c7 c8 c9 aR aO aN aQ aM aL aP:Value)(p:aF)(hp:aK w0 c0 c1 c2 c3 c4 c5 c6 c7 c8 c9 aR aO aN aQ aM aL aP p)(hS:vM p):
 Calls Tryz.prog 70 #[.agg #[c0,c1,c2,c3,c4,c5,c6,c7,c8,c9,aR,aO,aN,aQ,aM,aL,aP]] w0 fun x w'=>∃ u,x=.returned u∧(q6 w' u (iV p)∧axO w0.heap.size w0 w'):=by
 obtain⟨iu,iq,rfl,-⟩:=SliceAt.form hp.bools (by decide);have afM:=aeS _ hS.bools;have hNl:∀ i,(DE p i).length=4*p.types.length*p.types.length*p.classes.length:=fun i=>gE ..
 refine dD [] (fn:=Tryz.f70) Tryz.func70 rfl Tryz.ntmps70 rfl fun g w1 M1=>lq (ι:=Nat×Value×List Rw) (fun(m,u,T)=>[(3,u),(4,.int .i64 (m:Int))]) (fun(m,u,T)=>⟨u,224,1,m,T.map (·.v)⟩::T)
  (fun(m,u,T) _=>m≤2^p.bools.length∧T.length=m∧∀ (i:Nat) r,T[i]?=some r→r=⟨r.v,50,1,4*p.types.length*p.types.length*p.classes.length,(DE p i).flatMap oH⟩) (fun(m,u,T)=>2^p.bools.length-m) (0,.slice none 0 0,[])
  (an ⟨⟨rfl,rfl,trivial⟩,fun M=>⟨M.bM 224 1,axV _,rfl,fun i r h=>by simp at h⟩⟩ ?_)
 rintro⟨m,u,T⟩ w M ⟨hm,Wb,hT⟩;refine lb 0<|an rfl<|ei (x:=.int .i64 ((2^p.bools.length:Nat):Int))<|an (fun a w o ho hv=>?_)<|an (fun h=>?_) fun h M=>?_
 ·have:=mX (P:=Tryz.prog) (w:=w) ho (oD hv) (uf hv) (by omega) (by simp[IntKind.bits];have:=hS.bools;omega);rw[this]
  have hw:IntKind.i64.wrap (1*2^(p.bools.length:Int).toNat)=((2^p.bools.length:Nat):Int):=by
   rw[Int.toNat_natCast,Int.one_mul,wrap_i64]
   ·simp
   ·have e:(2:Int)^p.bools.length=((2^p.bools.length:Nat):Int):=by simp
    rw[e];omega
  rw[hw]
 ·simp only[decide_eq_true_eq] at h;have hlt:m<2^p.bools.length:=by omega
  refine dr (by kernel_rfl)<|lb 0<|an rfl<|lb 0<|an rfl<|cr (fun u w=>fZ w u (tD p.bools.length m))<|an (xE _)<|an (fun w' hb' M'=>JB _ _ _ _ _ _ _ _ _ _ _ _ _ _ _ _ _ _ p m (hp.keep M'.below) (ax1 hS.bools (by decide)))<|cv (UR w (4*p.types.length*p.types.length*p.classes.length) (DE p m))<|an (tK _ _ _)<|an (fun s _ w' hb' M' hR=>?_)<|br (ad8 w 224 (UR w (4*p.types.length*p.types.length*p.classes.length) (DE p m)))<|an (Nf (tK _ _ _))<|an (fun u=>b1 (tK _ _ _) (fun _ _=>Bv) (fun _ _ _=>Yu) (b:=24) (by kernel_rfl)) fun v w2 hR hb2 M2=>?_
  ·exact(Ke w' _ _ _ _ _ _ _ _ _ _ _ _ _ _ _ _ _ s p _ (hp.keep M'.below) hR (ax1 hS.bools (by decide)) hS.conds hS.types hS.classes hS.rules).mono fun _ _ ⟨u,h1,h2,h3⟩=>⟨u,h1,kT h2 hb'.size,h3⟩
  obtain⟨ur,gr,rfl,hW,hge,hne,hur⟩:=hR;have M3:=M.YP hb2 hW hge (r:=⟨ur,50,1,4*p.types.length*p.types.length*p.classes.length,(DE p m).flatMap oH⟩) hur hne;have huc:=Bv hur;obtain⟨ua,uc,rfl,-⟩:=fB hur;have hp:∀ a:Rw,(a::T).Perm (T++[a]):=fun a=>by simpa using List.perm_append_comm (l₁:=[a]) (l₂:=T)
  refine ap 1 (fun _=>M3) rfl (M3.slice 0 rfl rfl rfl (by simp[maxLen])) ⟨by unfold maxLen;omega,by omega⟩ fun v2 w4 M=>an (by omega)<|bk (m+1,v2,T++[⟨.slice ua (4*p.types.length*p.types.length*p.classes.length) uc,50,1,4*p.types.length*p.types.length*p.classes.length,(DE p m).flatMap oH⟩]) ⟨rfl,rfl,trivial⟩ (fun M=>⟨((M.only (.cons _ (.refl _)) (.refl _)).perm ((List.Perm.swap _ _ _).trans (.cons _ (hp _)))).cast rfl ?_,?_⟩) (by dsimp only;omega)
  ·refine congrArg (fun x=>(⟨v2,224,1,m+1,x⟩:Rw)::(T++[_])) ?_;simp
  ·refine⟨by omega,by simp[Wb],fun i r hr=>?_⟩;by_cases hi:i<m
   ·rw[ax2 (by omega)] at hr;exact hT i r hr
   ·have hlen:=(ax3.1 hr).1;rw[ax0,Wb,List.length_singleton] at hlen;obtain rfl:i=m:=by omega
    rw[ax4 (by omega),Wb,Nat.sub_self] at hr;obtain rfl:=ax5 hr;rfl
 ·simp only[decide_eq_false_iff_not] at h;obtain rfl:m=2^p.bools.length:=by omega
  have hml:(iV p).length=2^p.bools.length:=by simp[iV]
  have hs1:SliceAt w u 1 (2^p.bools.length) (T.map (·.v)):=SliceAt.bC (M.r 0 rfl) fun x hx=>by
   obtain⟨r,hr,rfl⟩:=axU.1 hx;obtain⟨a,c,e,-⟩:=fB (M.row r (ax6 _ hr));rw[e];rfl
  refine⟨_,rfl,⟨T.map (·.v),by rw[axW,Wb,hml],by rw[hml];exact hs1,fun i v row hv hrow=>?_⟩,M.below⟩
  ·rw[axX] at hv
   cases hr:T[i]? with
   | none=>rw[hr] at hv;cases hv
   | some r=>
    rw[hr] at hv;obtain rfl:=ax5 hv;have h1:=M.row r (ax6 _ (axT hr));rw[hT i r hr] at h1;have hi:i<2^p.bools.length:=Wb▸(ax3.1 hr).1
    have afH:row=DE p i:=by
     unfold iV at hrow;rw[axX,List.getElem?_range hi] at hrow;exact(ax5 hrow).symm
    rw[afH,hNl];exact SliceAt.bC h1 (X8 _)
theorem mO(w0:World)(v v':Value)(a b:List (List Int))(ha:q6 w0 v a)(hb:q6 w0 v' b):Calls Tryz.prog 69 #[v,v'] w0 fun r w'=>r=.returned (.bool (decide (a=b)))∧axO w0.heap.size w0 w':=by
 obtain⟨la,ka,rfl,hma,hca⟩:=ha.get;obtain⟨lb',kb',rfl,-,hcb⟩:=hb.get;have no:a≠b→Ending.returned (kQ [Value.bool false])=.returned (.bool (decide (a=b))):=fun h=>by rw[decide_eq_false h];rfl
 refine dD [] (fn:=Tryz.f69) Tryz.func69 rfl Tryz.ntmps69 rfl<|an (fun h M=>⟨no fun e=>by rw[e] at h;simp at h,M.below⟩) fun h=>lr (ι:=Nat) (fun m=>[(5,.int .i64 (m:Int))]) (fun m _=>m≤a.length∧a.take m=b.take m) (fun m=>a.length-m) 0 (an ⟨⟨rfl,trivial⟩,fun M=>⟨M,axV _,rfl⟩⟩ ?_)
 have hll:a.length=b.length:=Int.ofNat_inj.1 (by simpa using h);intro m w M ⟨hm,ht⟩;refine an (fun h2=>?_) fun h2 M=>⟨?_,M.below⟩
 ·simp only[decide_eq_true_eq] at h2;obtain⟨x,hx⟩:∃ x,a[m]?=some x:=⟨_,axQ (by omega)⟩;obtain⟨y,hy⟩:∃ y,b[m]?=some y:=⟨_,axQ (by omega)⟩;obtain⟨b1,o1,a1,c1,rfl,hc1,hm1,hr1⟩:=hca m x hx;obtain⟨b2,o2,a2,c2,rfl,hc2,hm2,Nu⟩:=hcb m y hy;refine dr (by kernel_rfl)<|ia<|an ⟨rfl,rfl,by omega⟩<|lc<|an (axZ M.below hc1)<|ia<|an ⟨rfl,rfl,by omega⟩<|lc<|an (axZ M.below hc2) fun w2 hb2 M2=>an (fun h3 M=>⟨no fun e=>?_,M.below⟩) fun h3=>?_
  ·subst e;rw[hx] at hy;obtain rfl:=ax5 hy;simp at h3
  have hxy:x.length=y.length:=Int.ofNat_inj.1 (by simpa using h3);refine lr (ι:=Nat) (fun k=>[(6,.int .i64 (k:Int))]) (fun k _=>k≤x.length∧x.take k=y.take k) (fun k=>x.length-k) 0 (an ⟨⟨rfl,trivial⟩,fun M=>⟨M,axV _,rfl⟩⟩ ?_);intro k w M ⟨hk,hkt⟩;refine ia<|an ⟨rfl,rfl,by omega⟩<|lc<|an (axZ M.below hc1)<|an (fun h4=>?_) fun h4=>?_
  ·simp only[decide_eq_true_eq] at h4;obtain⟨p,hp⟩:∃ p,x[k]?=some p:=⟨_,axQ (by omega)⟩;obtain⟨q,hq⟩:∃ q,y[k]?=some q:=⟨_,axQ (by omega)⟩;obtain⟨b3,o3,e3,hc3⟩:=hr1 k p hp;obtain⟨b4,o4,e4,R8⟩:=Nu k q hq;refine dr (by kernel_rfl)<|ia<|an ⟨rfl,rfl,by omega⟩<|lc<|an (axZ M.below hc1)<|ia<|an ⟨e3,rfl,by omega⟩<|lc<|an (axZ M.below hc3)<|ia<|an ⟨rfl,rfl,by omega⟩<|lc<|an (axZ M.below hc2)<|ia<|an ⟨e4,rfl,by omega⟩<|lc<|an (axZ M.below R8) fun w3 sG M=>an (fun h5 M=>⟨no fun e=>?_,M.below⟩) fun h5=>an (by omega)<|bk (k+1) ⟨rfl,trivial⟩ (fun M=>⟨M,by omega,jd hkt hp hq (by simpa using h5)⟩) (by dsimp only;omega)
   subst e;rw[hx] at hy;obtain rfl:=ax5 hy;rw[hp] at hq;obtain rfl:=ax5 hq;simp at h5
  ·simp only[decide_eq_false_iff_not] at h4;exact an (by omega)<|bk (m+1) ⟨rfl,trivial⟩ (fun M=>⟨M,by omega,jd ht hx hy (ql hkt hxy (by omega))⟩) (by dsimp only;omega)
 ·simp only[decide_eq_false_iff_not] at h2;rw[decide_eq_true (ql ht hll (by omega))];rfl
def mN(p:aF)(k:Int):List Bool:=(List.range (2^p.bools.length)).map fun i=>lS p.bools.length p.conds (tD p.bools.length i) k
def Bf(p:aF)(y:bV):Option (bV×List Bool):=if (mN p y.cond).any id=true then some ({ y with cond:=0 },mN p y.cond) else none
def iB(p:aF):List (bV×List Bool):=p.trans.filterMap (Bf p)
theorem Ux(L:List (bV×List Bool)):∀ u∈L.flatMap QH,u.oneCell'=true:=fun u hu=>by
 obtain⟨x,-,hx⟩:=List.mem_flatMap.1 hu;simp only[QH,bV.cells,List.mem_cons,List.not_mem_nil,or_false] at hx;rcases hx with rfl|rfl|rfl|rfl|rfl|rfl|rfl|rfl|rfl|rfl|rfl|rfl|rfl<;>rfl
theorem yI(w0:World)(c0 c1 c2 c3 c4 c5 c6 c7 c8 c9 aR aO aN aQ aM aL aP:Value)(p:aF)(hp:aK w0 c0 c1 c2 c3 c4 c5 c6 c7 c8 c9 aR aO aN aQ aM aL aP p)(hS:vM p)(ht:p.trans.length≤1000)(hk:∀ y∈p.trans,iX y.cond):
 Calls Tryz.prog 135 #[.agg #[c0,c1,c2,c3,c4,c5,c6,c7,c8,c9,aR,aO,aN,aQ,aM,aL,aP]] w0 fun x w'=>∃ v,x=.returned v∧((∃ u1 u2,v=.tuple #[u1,u2]∧ng w' u1 u2 (iB p))∧axO w0.heap.size w0 w'):=by
 obtain⟨iu,iq,rfl,-⟩:=SliceAt.form hp.bools (by decide);obtain⟨RR,RL,rfl,-⟩:=SliceAt.form hp.trans (by decide);have afM:=aeS _ hS.bools;have hwl:∀ k,(mN p k).length=2^p.bools.length:=fun k=>by simp[mN]
 have ajf:∀ (a:Act) (w:World) (o:Oper) (x y:Operand) (ty yt:TypeId),o.op=.binOp .shl ty x y yt→a.eval x=.int .i64 1→a.eval y=.int .i64 (p.bools.length:Int)→(execOp a.eval o).run Tryz.prog w=.ok (.value (.int .i64 ((2^p.bools.length:Nat):Int))) w:=fun a w o x y ty yt ho hx hy=>by
  have:=mX (P:=Tryz.prog) (w:=w) ho hx hy (by omega) (by simp[IntKind.bits];have:=hS.bools;omega);rw[this]
  have hw:IntKind.i64.wrap (1*2^(p.bools.length:Int).toNat)=((2^p.bools.length:Nat):Int):=by
   have e:(2:Int)^p.bools.length=((2^p.bools.length:Nat):Int):=by simp
   rw[Int.toNat_natCast,Int.one_mul,e];generalize 2^p.bools.length=P2 at afM;exact wrap_i64 ⟨by omega,by omega⟩
  rw[hw]
 refine dD [] (fn:=Tryz.f135) Tryz.func135 rfl Tryz.ntmps135 rfl fun g w1 M1=>lq (ι:=Nat×Value×Value×List Rw×List (bV×List Bool)) (fun(m,u1,u2,T,L)=>[(4,u1),(5,u2),(6,.int .i64 (m:Int))]) (fun(m,u1,u2,T,L)=>⟨u1,84,13,L.length,L.flatMap QH⟩::⟨u2,40,1,L.length,T.map (·.v)⟩::T)
  (fun(m,u1,u2,T,L) _=>m≤p.trans.length∧(p.trans.take m).filterMap (Bf p)=L∧T.length=L.length∧∀ (i:Nat) r z,T[i]?=some r→L[i]?=some z→r=⟨r.v,4,1,z.2.length,z.2.map Value.bool⟩) (fun(m,u1,u2,T,L)=>p.trans.length-m) (0,.slice none 0 0,.slice none 0 0,[],[])
  (an ⟨⟨rfl,rfl,rfl,trivial⟩,fun M=>⟨(M.bM 40 1).bM 84 13,axV _,rfl,rfl,fun i r z h=>by simp at h⟩⟩ ?_)
 rintro⟨m,u1,u2,T,L⟩ w M ⟨hm,hLd,Wb,hT⟩;have hL:L.length≤m:=by rw[← hLd];exact ax1 (List.length_filterMap_le ..) (by simp;omega)
 refine lb 0<|an rfl<|an (fun h=>?_) fun h M=>?_
 ·simp only[decide_eq_true_eq] at h;obtain⟨y,hy⟩:∃ y,p.trans[m]?=some y:=⟨_,axQ (by omega)⟩;have hky:=hk y (axT hy);obtain⟨b0,o0,rfl,hcell⟩:=SliceAt.elt hp.trans (f:=bV.cells) (fun _=>rfl) (by decide) hy (by omega)
  have hnext:(p.trans.take (m+1)).filterMap (Bf p)=L++(Bf p y).toList:=by
   rw[List.take_add_one,hy,List.filterMap_append,hLd];cases hq:Bf p y<;>simp[hq]
  refine lq (ι:=Nat×Value) (fun(k,v7)=>[(7,v7),(8,.bool (((mN p y.cond).take k).any id)),(9,.int .i64 (k:Int))]) (fun(k,v7)=>⟨v7,4,1,k,((mN p y.cond).take k).map Value.bool⟩::⟨u1,84,13,L.length,L.flatMap QH⟩::⟨u2,40,1,L.length,T.map (·.v)⟩::T) (fun(k,v7) _=>k≤2^p.bools.length) (fun(k,v7)=>2^p.bools.length-k) (0,.slice none 0 0)
   (an ⟨⟨rfl,rfl,rfl,trivial⟩,fun M=>⟨M.bM 4 1,axV _⟩⟩ ?_)
  rintro⟨k,v7⟩ w M hk2;refine lb 0<|an rfl<|ei<|an (fun a w o ho hv=>ajf a w o _ _ _ _ ho (oD hv) (uf hv))<|an (fun h2=>?_) fun h2=>?_
  ·simp only[decide_eq_true_eq] at h2;have hlt:k<2^p.bools.length:=by omega
   have hwk:(mN p y.cond)[k]?=some (lS p.bools.length p.conds (tD p.bools.length k) y.cond):=by
    unfold mN;rw[axX,List.getElem?_range hlt];rfl
   refine dr (by kernel_rfl)<|lb 0<|an rfl<|lb 0<|an rfl<|cr (fun u w=>fZ w u (tD p.bools.length k))<|an (xE _)<|an (fun w' hb' M'=>JB _ _ _ _ _ _ _ _ _ _ _ _ _ _ _ _ _ _ p k (hp.keep M'.below) (ax1 hS.bools (by decide)))<|lb 0<|an rfl<|ia<|an ⟨rfl,rfl,by omega⟩<|lc<|an (axZ M.below (hcell 12 _ rfl))<|cu<|an (fun u _ w' hb' M' hR=>vK w' _ _ _ _ _ _ _ _ _ _ _ _ _ _ _ _ _ u p _ y.cond (hp.keep M'.below) hR (ax1 hS.bools (by decide)) hS.conds hky) fun w2 hb2 M=>?_
   refine fun g3 w3 M=>ap 0 id rfl (M.slice 0 rfl rfl rfl (by simp[maxLen])) ⟨by unfold maxLen;omega,by omega⟩ fun v3 w4 M=>an (by omega)<|bk (k+1,v3) ⟨rfl,congrArg (fun b=>some (Value.bool b)) ?_,rfl,trivial⟩ (fun M=>⟨(M.only (.cons _ (.refl _)) (.refl _)).cast rfl ?_,by omega⟩) (by dsimp only;omega)
   ·rw[List.take_add_one,hwk];simp
   ·show _=(⟨v3,4,1,k+1,((mN p y.cond).take (k+1)).map Value.bool⟩:Rw)::_;rw[List.take_add_one,hwk];simp
  ·simp only[decide_eq_false_iff_not] at h2;obtain rfl:k=2^p.bools.length:=by omega
   have htk:(mN p y.cond).take (2^p.bools.length)=mN p y.cond:=List.take_of_length_le (by rw[hwl];exact Nat.le_refl _);refine an (fun h3=>?_) fun h3=>?_
   ·rw[htk] at h3;have hO:Bf p y=some ({ y with cond:=0 },mN p y.cond):=if_pos h3;obtain⟨a7,k7,rfl,-⟩:=M.shape 0 rfl;refine lb 0<|an rfl<|ia<|an ⟨rfl,rfl,by omega⟩<|lc<|an (dH M.below hcell)<|ei<|an Qq fun g4 w5 M=>lb 0<|an ⟨rfl,rfl⟩ fun w6 M=>lb 0<|an ⟨rfl,rfl⟩ fun w7 M=>lb 0<|an rfl fun g5 w8 M=>ap 1 id rfl (M.slice 0 rfl rfl rfl (by simp[maxLen])) ⟨by unfold maxLen;omega,by omega⟩ fun u1' w9 M=>fun g6 rz M=>ap 2 id rfl (M.slice 0 rfl rfl rfl (by simp[maxLen])) ⟨by unfold maxLen;omega,by omega⟩ fun u2' Dp M=>an (by omega)<|bk (m+1,u1',u2',T++[⟨.slice a7 (2^p.bools.length) k7,4,1,2^p.bools.length,(mN p y.cond).map Value.bool⟩],L++[({ y with cond:=0 },mN p y.cond)]) ⟨rfl,rfl,rfl,trivial⟩ (fun M=>?_) (by dsimp only;omega)
    have hp:∀ a b c:Rw,(a::b::c::T).Perm (b::c::(T++[a])):=fun a b c=>by
     have h1:(a::(b::c::T)).Perm ((b::c::T)++[a]):=by simpa using List.perm_append_comm (l₁:=[a]) (l₂:=b::c::T)
     simpa using h1
    refine⟨((M.only (.cons _ (.cons _ (.cons _ (.refl _)))) (.refl _)).perm (hp _ _ _)).cast rfl ?_,by omega,by rw[hnext,hO];rfl,by simp[Wb],fun i r z hr hz=>?_⟩
    ·simp only[ax7,List.map_append,ax0,List.length_singleton,htk];rfl
    ·by_cases hi:i<T.length
     ·rw[ax2 hi] at hr;rw[ax2 (Wb▸hi)] at hz;exact hT i r z hr hz
     ·have hlen:=(ax3.1 hr).1;rw[ax0,List.length_singleton] at hlen;obtain rfl:i=T.length:=by omega
      rw[ax4 (Nat.le_refl _),Nat.sub_self] at hr;rw[Wb,ax4 (Nat.le_refl _),Nat.sub_self] at hz;obtain rfl:=ax5 hr;obtain rfl:=ax5 hz;rw[hwl]
   ·rw[htk] at h3;have hO:Bf p y=none:=if_neg (by rw[h3];decide);refine an (by omega)<|bk (m+1,u1,u2,T,L) ⟨rfl,rfl,rfl,trivial⟩ (fun M=>?_) (by dsimp only;omega);exact⟨M.only (.refl _) (.cons _ (.refl _)),by omega,by rw[hnext,hO];simp,Wb,hT⟩
 ·simp only[decide_eq_false_iff_not] at h;obtain rfl:m=p.trans.length:=by omega
  rw[axY] at hLd;have hLt:L=iB p:=hLd.symm;rw[← hLt];refine⟨_,rfl,⟨_,_,rfl,⟨SliceAt.bC (M.r 0 rfl) (Ux _),T.map (·.v),by rw[axW,Wb],SliceAt.bC (M.r 1 rfl) ?_,fun i v z hv hz=>?_⟩⟩,M.below⟩
  ·intro x hx;obtain⟨r,hr,rfl⟩:=axU.1 hx;obtain⟨a,c,e,-⟩:=fB (M.row r (ax6 _ (ax6 _ hr)));rw[e];rfl
  ·rw[axX] at hv
   cases hr:T[i]? with
   | none=>rw[hr] at hv;cases hv
   | some r=>
    rw[hr] at hv;obtain rfl:=ax5 hv;have h1:=M.row r (ax6 _ (ax6 _ (axT hr)));rw[hT i r z hr hz] at h1;exact Az h1 rfl rfl
theorem zN(w0:World)(c0 c1 c2 c3 c4 c5 c6 c7 c8 c9 aR aO aN aQ aM aL aP d0 d1 d2 d3 d4 d5 d6 d7 d8 d9 sQ sP sO sM sK sJ sI:Value)(p q:aF)(hp:aK w0 c0 c1 c2 c3 c4 c5 c6 c7 c8 c9 aR aO aN aQ aM aL aP p)(hq:aK w0 d0 d1 d2 d3 d4 d5 d6 d7 d8 d9 sQ sP sO sM sK sJ sI q)(hS:vM p)(hS':vM q)(ht:p.trans.length≤1000)(ht':q.trans.length≤1000)(hk:∀ y∈p.trans,iX y.cond)(hk':∀ y∈q.trans,iX y.cond):
 Calls Tryz.prog 71 #[.agg #[c0,c1,c2,c3,c4,c5,c6,c7,c8,c9,aR,aO,aN,aQ,aM,aL,aP],.agg #[d0,d1,d2,d3,d4,d5,d6,d7,d8,d9,sQ,sP,sO,sM,sK,sJ,sI]] w0 fun x w'=>x=.returned (.bool (decide (iB p=iB q)))∧axO w0.heap.size w0 w':=by
 have no:iB p≠iB q→Ending.returned (kQ [Value.bool false])=.returned (.bool (decide (iB p=iB q))):=fun h=>by rw[decide_eq_false h];rfl
 refine dD [] (fn:=Tryz.f71) Tryz.func71 rfl Tryz.ntmps71 rfl fun g1 w1 M1=>fun g2 w2 M2=>lb 1<|an rfl<|cg<|an (yI w2 _ _ _ _ _ _ _ _ _ _ _ _ _ _ _ _ _ p (hp.keep M2.below) hS ht hk) fun v w3 hR=>?_
 obtain⟨⟨u1,u2,rfl,hT⟩,sG⟩:=hR;refine⟨_,_,M2.keep sG,lb 0<|an rfl<|cg<|an (yI w3 _ _ _ _ _ _ _ _ _ _ _ _ _ _ _ _ _ q (hq.keep (M2.keep sG).below) hS' ht' hk') fun v w4 hR=>?_⟩;obtain⟨⟨u3,u4,rfl,hT'⟩,hb4⟩:=hR;have hT:=hT.keep hb4;generalize iB p=a at *;generalize iB q=b at *;obtain⟨a1,k1,a2,k2,rfl,rfl,hml,-⟩:=hT.get;obtain⟨a3,k3,a4,k4,rfl,rfl,-,-⟩:=hT'.get;refine⟨_,_,(M2.keep sG).keep hb4,an (fun h M=>⟨no fun e=>by rw[e] at h;simp at h,M.below⟩) fun h=>lr (ι:=Nat) (fun m=>[(9,.int .i64 (m:Int))]) (fun m w=>m≤a.length∧a.take m=b.take m∧ng w (.slice a1 a.length k1) (.slice a2 a.length k2) a∧ng w (.slice a3 b.length k3) (.slice a4 b.length k4) b) (fun m=>a.length-m) 0 (an ⟨⟨rfl,trivial⟩,fun M=>⟨M,axV _,rfl,hT,hT'⟩⟩ ?_)⟩;have hll:a.length=b.length:=Int.ofNat_inj.1 (by simpa using h);rintro m w M ⟨hm,ht,hT,hT'⟩;refine an (fun h2=>?_) fun h2 M=>⟨?_,M.below⟩
 ·simp only[decide_eq_true_eq] at h2;obtain⟨x,hx⟩:∃ x,a[m]?=some x:=⟨_,axQ (by omega)⟩;obtain⟨y,hy⟩:∃ y,b[m]?=some y:=⟨_,axQ (by omega)⟩
  obtain⟨b1,o1,b2,o2,v1,e1,hc1,e2,hv1,hs1⟩:∃ b off b' off' v,a1=some ⟨b,off,none⟩∧(∀ j u,x.1.cells[j]?=some u→w.cell? ⟨b,off+m*13+j,none⟩=some u)∧a2=some ⟨b',off',none⟩∧w.cell? ⟨b',off'+m*1,none⟩=some v∧fZ w v x.2:=by
   obtain⟨_,_,_,_,e1,e2,-,hg⟩:=hT.get;injection e1 with e1;injection e2 with e2;subst e1 e2;exact hg m x hx
  obtain⟨b3,o3,b4,o4,v2,e3,hc2,e4,hv2,hs2⟩:∃ b off b' off' v,a3=some ⟨b,off,none⟩∧(∀ j u,y.1.cells[j]?=some u→w.cell? ⟨b,off+m*13+j,none⟩=some u)∧a4=some ⟨b',off',none⟩∧w.cell? ⟨b',off'+m*1,none⟩=some v∧fZ w v y.2:=by
   obtain⟨_,_,_,_,e1,e2,-,hg⟩:=hT'.get;injection e1 with e1;injection e2 with e2;subst e1 e2;exact hg m y hy
  refine dr (by kernel_rfl)<|ia<|an ⟨e1,rfl,by omega⟩<|lc<|an hc1<|ia<|an ⟨e3,rfl,by omega⟩<|lc<|an hc2<|ei<|an ⟨adA,fun w=>WK x.1 y.1 w⟩<|ia<|an (fun _=>⟨e2,rfl,by omega⟩)<|lc (x:=v1)<|an (fun _=>hv1)<|ia<|an (fun _=>⟨e4,rfl,by omega⟩)<|lc (x:=v2)<|an (fun _=>hv2)<|cl<|an (fun _ w' hb' M'=>Mc w' v1 v2 _ _ (hs1.keep hb') (hs2.keep hb')) fun w5 V8 M=>an (fun h3 M=>⟨no fun e=>?_,M.below⟩) fun h3=>an (by omega)<|bk (m+1) ⟨rfl,trivial⟩ (fun M=>⟨M,by omega,jd ht hx hy ?_,hT.keep V8,hT'.keep V8⟩) (by dsimp only;omega)
  ·subst e;rw[hx] at hy;obtain rfl:=ax5 hy;simp at h3
  ·have h4:x.1=y.1∧x.2=y.2:=by simpa using h3
   exact Prod.ext h4.1 h4.2
 ·simp only[decide_eq_false_iff_not] at h2;rw[decide_eq_true (ql ht hll (by omega))];rfl
theorem Ez(l:List (List Int)):eC (fun u w=>q6 w u l):=fun _ _ _ h hb=>h.keep hb
def Ec(p q:aF):Bool:=(gJ (kA p) (kA q)&&decide (iV p=iV q))&&decide (iB p=iB q)
theorem Bq(w0:World)(c0 c1 c2 c3 c4 c5 c6 c7 c8 c9 aR aO aN aQ aM aL aP d0 d1 d2 d3 d4 d5 d6 d7 d8 d9 sQ sP sO sM sK sJ sI:Value)(p q:aF)(hp:aK w0 c0 c1 c2 c3 c4 c5 c6 c7 c8 c9 aR aO aN aQ aM aL aP p)(hq:aK w0 d0 d1 d2 d3 d4 d5 d6 d7 d8 d9 sQ sP sO sM sK sJ sI q)(hS:vM p)(hS':vM q)(ht:p.trans.length≤1000)(ht':q.trans.length≤1000)(hk:∀ y∈p.trans,iX y.cond)(hk':∀ y∈q.trans,iX y.cond):
 Calls Tryz.prog 25 #[.agg #[c0,c1,c2,c3,c4,c5,c6,c7,c8,c9,aR,aO,aN,aQ,aM,aL,aP],.agg #[d0,d1,d2,d3,d4,d5,d6,d7,d8,d9,sQ,sP,sO,sM,sK,sJ,sI]] w0 fun r w'=>r=.returned (.bool (Ec p q))∧axO w0.heap.size w0 w':=by
 obtain⟨_,_,_,_,_,_,_,_,_,_,_,_,_,_,_,_,_,_,_,_,_,_,_,_,_,_,_,_,_,_,_,_,_,_,rfl,rfl,rfl,rfl,rfl,rfl,rfl,rfl,rfl,rfl,rfl,rfl,rfl,rfl,rfl,rfl,rfl⟩:=hp.open;obtain⟨_,_,_,_,_,_,_,_,_,_,_,_,_,_,_,_,_,_,_,_,_,_,_,_,_,_,_,_,_,_,_,_,_,_,rfl,rfl,rfl,rfl,rfl,rfl,rfl,rfl,rfl,rfl,rfl,rfl,rfl,rfl,rfl,rfl,rfl⟩:=hq.open;refine dD [] (fn:=Tryz.f25) Tryz.func25 rfl Tryz.ntmps25 rfl fun g1 w1 M1=>fun g2 w2 M2=>dp (by kernel_rfl)<|lb 1<|an rfl<|lb 0<|an rfl<|ei<|ei<|an ⟨lJ,lJ⟩<|an ⟨rfl,rfl⟩ fun g3 g4 w3 sG M3=>?_
 refine lb 0<|an ⟨rfl,rfl⟩ fun w4 M4=>lb 0<|an ⟨rfl,rfl⟩ fun w5 M5=>lb 0<|an ⟨rfl,rfl⟩ fun w6 M6=>lb 1<|an ⟨rfl,rfl⟩ fun w7 M7=>lb 1<|an ⟨rfl,rfl⟩ fun w8 M8=>lb 1<|an ⟨rfl,rfl⟩ fun w9 M9=>?_
 refine dr (by kernel_rfl)<|lb 0<|an rfl<|lb 1<|an rfl<|cl<|an (fun w' hb' M'=>n_ _ _ _ _ _ _ _ _ _ _ _ _ _ _ _ _ _ _ _ _ _ _ _ _ _ _ _ _ _ _ _ _ _ _ _ (kA p) (kA q) (AA (hp.keep M'.below)) (AA (hq.keep M'.below)))<|lb 3<|an (fun _=>rfl)<|cr (fun u w=>q6 w u (iV p))<|an (Ez _)<|an (fun _ w' hb' M'=>jS _ _ _ _ _ _ _ _ _ _ _ _ _ _ _ _ _ _ p (hp.keep M'.below) hS)<|lb 2<|an (fun _=>rfl)<|cr (fun u w=>q6 w u (iV q))<|an (Ez _)<|an (fun _ w' hb' M'=>jS _ _ _ _ _ _ _ _ _ _ _ _ _ _ _ _ _ _ q (hq.keep M'.below) hS')<|cu<|an (fun u1 u2 h w' hb' M' hR=>mO _ _ _ (iV p) (iV q) (hR.1 h) (hR.2 h))<|lb 3<|an (fun _=>rfl)<|lb 2<|an (fun _=>rfl)<|cl<|an (fun _ w' hb' M'=>zN _ _ _ _ _ _ _ _ _ _ _ _ _ _ _ _ _ _ _ _ _ _ _ _ _ _ _ _ _ _ _ _ _ _ _ p q (hp.keep M'.below) (hq.keep M'.below) hS hS' ht ht' hk hk') fun rz xJ M=>?_
 exact fun M=>⟨rfl,M.below⟩
end Go.Proofs.YtdcofoaihmongaaGreat
namespace Go.Proofs.YtdcofoaihmongaaGreat
section
variable {α:Type} (J:α→α→Option α)
theorem Vi(l:List α):cH J (tF J l)=none:=by
 have key:∀ (n:Nat) (l:List α),l.length≤n→cH J (tF J l)=none:=by
  intro n
  induction n with
  | zero=>intro l h;cases l with
   | nil=>rfl
   | cons a r=>simp at h
  | succ n ih=>
   intro l h
   cases e:cH J l with
   | none=>rw[uT J e];exact e
   | some l'=>
    rw[uR J e];have:=jE J e;exact ih l' (by omega)
 exact key _ l (Nat.le_refl _)
end
end Go.Proofs.YtdcofoaihmongaaGreat
namespace Go.Proofs.YtdcofoaihmongaaGreat
open Go Go.RowKit
theorem Br(w0:World)(x y:ay)(hx:x.Ok)(hy:y.Ok):Calls Tryz.prog 228 #[.agg #[.int .u64 x.a,.int .u64 x.b,.int .u64 x.c,.int .u64 x.d],.agg #[.int .u64 y.a,.int .u64 y.b,.int .u64 y.c,.int .u64 y.d]] w0 (fun(r:Ending) (w':World)=>r=.returned (.agg #[.int .u64 ((x.or y).a),.int .u64 ((x.or y).b),.int .u64 ((x.or y).c),.int .u64 ((x.or y).d)])∧axO w0.heap.size w0 w'):=by
 refine dD [] (fn:=Tryz.f228) Tryz.func228 rfl Tryz.ntmps228 rfl<|fun gx w1 M1=>fun gy w2 M2=>ei<|an Im fun go w3 M3=>lp (ι:=Nat) (fun m=>[(5,.int .i64 (m:Int))]) (fun m=>[(go,54,#[.int .u64 0,.int .u64 0,.int .u64 0,.int .u64 0]),(gy,54,#[.int .u64 y.a,.int .u64 y.b,.int .u64 y.c,.int .u64 y.d]),(gx,54,#[.int .u64 ((orW m x y 0:Nat):Int),.int .u64 ((orW m x y 1:Nat):Int),.int .u64 ((orW m x y 2:Nat):Int),.int .u64 ((orW m x y 3:Nat):Int)])]) (fun _=>[]) (fun m _=>m≤4) (fun m=>4-m) 0 (an ⟨⟨rfl,trivial⟩,fun M=>⟨M,axV _⟩⟩ ?_)
 intro m w M hm;refine an (fun h=>?_) fun h=>?_
 ·have hlt:m<4:=by simp at h;omega
  obtain rfl|rfl|rfl|rfl:m=0∨m=1∨m=2∨m=3:=by omega
  all_goals
   refine dr (by kernel_rfl)<|ei<|an ⟨rfl,by decide⟩<|lb 2<|an rfl<|ei<|an ⟨rfl,by decide⟩<|lb 1<|an rfl<|ei<|an rfl<|ei<|an ⟨rfl,by decide⟩<|fun w hb M=>lb 2<|an ⟨rfl,rfl⟩ fun w M=>an (by omega)<|bk _ ⟨rfl,trivial⟩ (fun M=>⟨M.cast ?_ rfl,by decide⟩) (by decide)
  ·exact congrArg (fun v:Int=>[(_:Bx),_,(gx,54,(#[Value.int .u64 v,_,_,_]:Array Value))]) (bits_or_u64_nat _ _ hx.a hy.a)
  ·exact congrArg (fun v:Int=>[(_:Bx),_,(gx,54,(#[_,Value.int .u64 v,_,_]:Array Value))]) (bits_or_u64_nat _ _ hx.b hy.b)
  ·exact congrArg (fun v:Int=>[(_:Bx),_,(gx,54,(#[_,_,Value.int .u64 v,_]:Array Value))]) (bits_or_u64_nat _ _ hx.c hy.c)
  ·exact congrArg (fun v:Int=>[(_:Bx),_,(gx,54,(#[_,_,_,Value.int .u64 v]:Array Value))]) (bits_or_u64_nat _ _ hx.d hy.d)
 obtain rfl:m=4:=by simp at h;omega
 exact lb 2<|an rfl<|lb 0<|an ⟨rfl,rfl⟩ fun w M=>ei (x:=0)<|an rfl fun M=>⟨rfl,M.below⟩
theorem Ra(w0:World)(a b:aj)(ha:a.Ok)(hb:b.Ok):Calls Tryz.prog 170 #[.agg #[.int .i64 a.kind,.int .u64 a.src.a,.int .u64 a.src.b,.int .u64 a.src.c,.int .u64 a.src.d,.int .u64 a.tgt.a,.int .u64 a.tgt.b,.int .u64 a.tgt.c,.int .u64 a.tgt.d,.bool a.self,.int .i64 a.cls,.int .u32 a.perms,.int .i64 a.cond],.agg #[.int .i64 b.kind,.int .u64 b.src.a,.int .u64 b.src.b,.int .u64 b.src.c,.int .u64 b.src.d,.int .u64 b.tgt.a,.int .u64 b.tgt.b,.int .u64 b.tgt.c,.int .u64 b.tgt.d,.bool b.self,.int .i64 b.cls,.int .u32 b.perms,.int .i64 b.cond]] w0 (fun(r:Ending) (w':World)=>r=.returned (.tuple #[.agg #[.int .i64 (((aD a b).getD a).kind),.int .u64 (((aD a b).getD a).src.a),.int .u64 (((aD a b).getD a).src.b),.int .u64 (((aD a b).getD a).src.c),.int .u64 (((aD a b).getD a).src.d),.int .u64 (((aD a b).getD a).tgt.a),.int .u64 (((aD a b).getD a).tgt.b),.int .u64 (((aD a b).getD a).tgt.c),.int .u64 (((aD a b).getD a).tgt.d),.bool (((aD a b).getD a).self),.int .i64 (((aD a b).getD a).cls),.int .u32 (((aD a b).getD a).perms),.int .i64 (((aD a b).getD a).cond)],.bool (aD a b).isSome])∧axO w0.heap.size w0 w'):=by
 refine dD [] (fn:=Tryz.f170) Tryz.func170 rfl Tryz.ntmps170 rfl<|fun g1 w1 M1=>fun g2 w2 M2=>ei<|an mJ fun g3 w3 M3=>lb 2<|an rfl<|lb 1<|an rfl<|lb 2<|an (fun _=>rfl)<|lb 1<|an (fun _=>rfl)<|lb 2<|an (fun _=>rfl)<|lb 1<|an (fun _=>rfl)<|lb 2<|an (fun _=>rfl)<|lb 1<|an (fun _=>rfl)<|an (fun h1=>?_) fun h1=>?_
 ·exact lb 2<|an rfl<|lb 0<|an ⟨rfl,rfl⟩ fun w4 M4=>ei (x:=0)<|an rfl fun M=>⟨join_none (by unfold aD;rw[if_pos h1]),M.below⟩
 refine lb 2<|an rfl<|lb 1<|an rfl<|ei (x:=decide (a.src=b.src))<|an ⟨rV,fun w=>pK a.src b.src w⟩<|lb 2<|an (fun _=>rfl)<|lb 1<|an (fun _=>rfl)<|ei (x:=decide (a.tgt=b.tgt))<|an (fun _=>⟨rV,fun w=>pK a.tgt b.tgt w⟩)<|an (fun h2=>?_) fun h2=>?_
 ·exact lb 2<|an rfl<|lb 1<|an rfl<|ei (x:=bits .or .u32 a.perms b.perms)<|an rfl<|lb 2<|an ⟨rfl,rfl⟩ fun w5 M5=>lb 2<|an rfl<|lb 0<|an ⟨rfl,rfl⟩ fun w6 M6=>ei (x:=0)<|an rfl fun M=>⟨join_some (by unfold aD;rw[if_neg (by rw[h1];decide),if_pos h2]),M.below⟩
 refine lb 2<|an rfl<|lb 1<|an rfl<|lb 2<|an (fun _=>rfl)<|lb 1<|an (fun _=>rfl)<|ei (x:=decide (a.src=b.src))<|an (fun _=>⟨rV,fun w=>pK a.src b.src w⟩)<|an (fun h3=>?_) fun h3=>?_
 ·exact lb 2<|an rfl<|lb 1<|an rfl<|cl<|an (Br _ a.tgt b.tgt ha.tgt hb.tgt) fun w7 M7=>lb 2<|an ⟨rfl,rfl⟩ fun w8 M8=>lb 2<|an rfl<|lb 0<|an ⟨rfl,rfl⟩ fun w9 M9=>ei (x:=0)<|an rfl fun M=>⟨join_some (by unfold aD;rw[if_neg (by rw[h1];decide),if_neg (by rw[h2];decide),if_pos h3]),M.below⟩
 refine lb 2<|an rfl<|lb 1<|an rfl<|lb 2<|an (fun _=>rfl)<|lb 1<|an (fun _=>rfl)<|ei (x:=decide (a.tgt=b.tgt))<|an (fun _=>⟨rV,fun w=>pK a.tgt b.tgt w⟩)<|an (fun h4=>?_) fun h4=>?_
 ·exact lb 2<|an rfl<|lb 1<|an rfl<|cl<|an (Br _ a.src b.src ha.src hb.src) fun rz nI=>lb 2<|an ⟨rfl,rfl⟩ fun Dp M11=>lb 2<|an rfl<|lb 0<|an ⟨rfl,rfl⟩ fun Ie EW=>ei (x:=0)<|an rfl fun M=>⟨join_some (by unfold aD;rw[if_neg (by rw[h1];decide),if_neg (by rw[h2];decide),if_neg (by rw[h3];decide),if_pos h4]),M.below⟩
 exact lb 2<|an rfl<|lb 0<|an ⟨rfl,rfl⟩ fun LK zC=>ei (x:=0)<|an rfl fun M=>⟨join_none (by unfold aD;rw[if_neg (by rw[h1];decide),if_neg (by rw[h2];decide),if_neg (by rw[h3];decide),if_neg (by rw[h4];decide)]),M.below⟩
theorem Sy{P:Program}{a:Act}{w:World}{o:Oper}{t e:TypeId}{x lo:Operand}{g off n c l k:Nat}{lk:IntKind}(ho:o.op=.slice t x (some lo) none none)(hx:a.eval x=.slice (some ⟨g,off,none⟩) n c)(hl:a.eval lo=.int lk (l:Int))(hln:l≤n)
 (hu:P.underlying t=some (.slice e)) (hs:(P.info? e).map (·.size)=some k):(execOp a.eval o).run P w=.ok (.value (.slice (if c=l then some ⟨g,off,none⟩ else some ⟨g,off+l*k,none⟩) (n-l) (c-l))) w:=by
 have hadd:(⟨g,off,none⟩:Addr).add (l*k)=⟨g,off+l*k,none⟩:=by unfold Addr.add;split<;>simp_all
 have h1:(0:Int)≤(l:Int)∧(l:Int)≤(n:Int):=by omega
 unfold execOp;simp only[ho,hx,hl,Option.map_some,Option.map_none,Instr.sliceAt,Sem.run_bind,run_underlying hu w,Result.andThen_ok,Instr.slice,Instr.sliceBounds,Instr.sliceBound,asIntOf,Sem.run_pure,h1,and_self,if_true,Int.toNat_natCast];by_cases h:c=l
 ·subst h;simp[run_sizeOf hs]
 ·simp[h,run_sizeOf hs,hadd]
theorem oQ(p:aF):eC (vN p):=fun _ _ _ ⟨c0,c1,c2,c3,c4,c5,c6,c7,c8,c9,aR,aO,aN,aQ,aM,aL,aP,e,h⟩ hb=>⟨c0,c1,c2,c3,c4,c5,c6,c7,c8,c9,aR,aO,aN,aQ,aM,aL,aP,e,h.keep hb⟩
theorem aW.vg{B:Nat}{w0 w:World}{g e k:Nat}{bs:List Bx}{rs:List Rw}(M:aW B w0 w ((g,e,#[])::bs) rs)(ht:Nat.blt e 9000=true:=by rfl):aW B w0 w bs (⟨.slice (some ⟨g,0,none⟩) 0 0,e,k,0,[]⟩::rs):=by
 have M':=M.only (.cons _ (.refl _)) (.refl _);refine M'.Dc ⟨by simp,.inr ⟨g,0,#[],rfl,M.lo _ (ax8 ..),M.b 0 rfl ht,Nat.le_refl _,axV _,by simp,by simp⟩⟩ (fun b hb e=>?_) fun s hs=>.inr fun e=>M.far s hs _ (ax8 ..) e.symm
 have h:=(List.nodup_cons.1 M.nd).1;have e:g=b.1:=ax5 e;exact h (e▸axU.2 ⟨b,hb,rfl⟩)
theorem R_(w0:World)(v:Value)(l:List Int)(h:SliceAt w0 v 1 l.length (l.flatMap anyI))(x:Int):Calls Tryz.prog 83 #[v,.int .i64 x] w0 (fun(r:Ending) (w':World)=>r=.returned (.bool (l.contains x))∧axO w0.heap.size w0 w'):=by
 obtain⟨_,_,rfl,-,hm5,-⟩:=SliceAt.form h (by decide);refine dD [] (fn:=Tryz.f83) Tryz.func83 rfl Tryz.ntmps83 rfl<|lr (ι:=Nat) (fun m=>[(5,.int .i64 (m:Int))]) (fun m _=>m≤l.length∧∀ j z,j<m→l[j]?=some z→x≠z) (fun m=>l.length-m) 0 (an ⟨⟨rfl,trivial⟩,fun M=>⟨M,axV _,fun j z h=>absurd h (Nat.not_lt_zero j)⟩⟩ ?_);intro m w M ⟨hm,hne⟩;refine an (fun h1=>?_) fun h1 M=>⟨rb ?_,M.below⟩
 ·have hlt:m<l.length:=by simp at h1;omega
  obtain⟨y,hy⟩:∃ y,l[m]?=some y:=⟨_,axQ hlt⟩;obtain⟨b,o,e,hc⟩:=SliceAt.elt h (fun _=>rfl) (by decide) hy hlt;refine ia<|an ⟨e,rfl,hlt⟩<|lc (x:=.int .i64 y)<|an (dH M.below hc 0 _ rfl)<|an (fun h2 M=>⟨rb ?_,M.below⟩) fun h2=>an (by omega)<|bk (m+1) ⟨rfl,trivial⟩ (fun M=>⟨M,by omega,JY hy hne fun e=>by simp[e] at h2⟩) (by dsimp only;omega)
  have e2:y=x:=by simpa using h2
  subst e2;simpa using axT hy
 ·rw[← Px,← Py (show m=l.length by simp at h1;omega) hne];rfl
theorem su(w0:World)(c0 c1 c2 c3 c4 c5 c6 c7 c8 c9 aR aO aN aQ aM aL aP:Value)(p:aF)(hp:aK w0 c0 c1 c2 c3 c4 c5 c6 c7 c8 c9 aR aO aN aQ aM aL aP p)(hsR:p.rules.length≤1000)(lv:Value)(o:List Int)(hlv:SliceAt w0 lv 1 o.length (o.flatMap anyI)):Calls Tryz.prog 31 #[.agg #[c0,c1,c2,c3,c4,c5,c6,c7,c8,c9,aR,aO,aN,aQ,aM,aL,aP],lv] w0 (fun(r:Ending) (w':World)=>∃ v,r=.returned v∧(vN (mK p o) v w'∧axO w0.heap.size w0 w')):=by
 obtain⟨_,_,-,-,hmR,-⟩:=SliceAt.form hp.rules (by decide);obtain⟨a0,a1,a2,a3,a4,a5,a6,a7,a8,a9,Qi,Qh,a12,XQ,Qg,Qf,Qe,k0,k1,k2,k3,k4,k5,k6,k7,k8,k9,k10,k11,k12,k13,k14,k15,k16,rfl,rfl,rfl,rfl,rfl,rfl,rfl,rfl,rfl,rfl,rfl,rfl,rfl,rfl,rfl,rfl,rfl⟩:=hp.open;refine dD [] (fn:=Tryz.f31) Tryz.func31 rfl Tryz.ntmps31 rfl<|fun g1 w1 M1=>ei<|an lJ fun g2 w2 M2=>lb 1<|an rfl<|ei<|an lJ fun g3 w3 M3=>lb 0<|an ⟨rfl,rfl⟩ fun w4 M4=>lb 0<|an ⟨rfl,rfl⟩ fun w5 M5=>lp (ι:=Nat×Value) (fun(k,v)=>[(6,.int .i64 (k:Int))]) (fun(k,v)=>(g3,39,#[.slice a0 p.classes.length k0,.slice a1 p.types.length k1,.slice a2 p.attrs.length k2,.slice a3 p.roles.length k3,.slice a4 p.users.length k4,.slice a5 p.bools.length k5,.slice a6 p.bf.length k6,.slice a7 p.cats.length k7,.slice a8 p.conds.length k8,v,.slice Qi p.trans.length k10,.slice Qh p.aT.length k11,.slice a12 p.ranges.length k12,.slice XQ p.cons.length k13,.slice Qg p.bL.length k14,.slice Qf p.files.length k15,.slice Qe p.asserts.length k16])::_) (fun(k,v)=>⟨v,56,13,(nk p.rules o k).length,(nk p.rules o k).flatMap aj.cells⟩::_) (fun(k,v) _=>k≤p.rules.length) (fun(k,v)=>p.rules.length-k) (0,.slice none 0 0) (an ⟨⟨rfl,trivial⟩,fun M=>⟨M.bM 56 13,axV _⟩⟩ ?_)
 rintro⟨k,v⟩ w M hk;refine lb 2<|an rfl<|an (fun h=>?_) fun h=>?_
 ·have hlt:k<p.rules.length:=by simp at h;omega
  obtain⟨y,hy⟩:∃ y,p.rules[k]?=some y:=⟨_,axQ hlt⟩;obtain⟨b,of,e,hc⟩:=SliceAt.elt hp.rules (fun _=>rfl) (by decide) hy hlt;have hsl:=wF (l:=p.rules) (o:=o) k;refine cl<|an (R_ _ lv o (hlv.keep M.below) k) fun w6 M6=>an (fun hq=>?_) fun hq=>?_
  ·refine dr (by kernel_rfl)<|lb 0<|an rfl<|lb 2<|an rfl<|ia<|an ⟨e,rfl,hlt⟩<|lc<|an (dH M6.below hc)<|.inl<|fun g4 w7 hb7 M7=>Ii 0 id rfl (M7.slice 0 rfl (k:=13) (n:=1) rfl rfl (by simp[maxLen])) ⟨by unfold maxLen;omega,by omega⟩ fun va vc w8 M8=>?_
   exact lb 1<|an ⟨rfl,rfl⟩ fun w9 M9=>an (by omega)<|bk (k+1,.slice va ((nk p.rules o k).length+1) vc) ⟨rfl,trivial⟩ (fun M=>⟨(M.only (.cons _ (.refl _)) (.refl _)).cast rfl (Uf hy (by simpa using hq)),by dsimp only;omega⟩) (by dsimp only;omega)
  ·exact an (by omega)<|bk (k+1,v) ⟨rfl,trivial⟩ (fun M=>⟨M.cast rfl (by dsimp only;rw[aaf (by simpa using hq)]),by dsimp only;omega⟩) (by dsimp only;omega)
 obtain rfl:k=p.rules.length:=by simp at h;omega
 obtain⟨xa9,xc9,rfl⟩:=M.form 0 rfl;exact lb 0<|an rfl<|lb 1<|an ⟨rfl,rfl⟩ fun w M=>ei (x:=1)<|an rfl fun M=>⟨_,rfl,⟨_,_,_,_,_,_,_,_,_,_,_,_,_,_,_,_,_,rfl,{ hp.keep M.below with rules:=SliceAt.bC (M.r 0 rfl) (dX fun _=>rfl) }⟩,M.below⟩
theorem adK{n i:Nat}{a:Int}(h0:0≤a)(h1:a<n):ZS (DP n (tD n i)) a=i.testBit a.toNat:=by
 have ha:a.toNat<n:=by omega
 unfold ZS DP tD;rw[decide_eq_true h0,Bool.true_and,axX,List.getElem?_range ha];simp only[Option.map_some,Option.getD_some];unfold ZS;rw[decide_eq_true (Int.natCast_nonneg _),Bool.true_and,Int.toNat_natCast,axX,List.getElem?_range ha];rfl
theorem abJ{n i:Nat}{e:aA}(h:nj n e):gZ (DP n (tD n i)) e=NR n i e:=by
 induction h with
 | @bool a rel b ns s h0 h1=>
  rw[nQ,F8];show lM _ 1 a []=ZC n i 1 a []
  have hb:iM n 1 a 0=false:=by
   have:¬ a<0:=by omega
   have h2:¬ (n:Int)≤a:=by omega
   simp[iM,BI,this,h2]
  unfold lM ZC;rw[if_pos rfl,List.length_nil,hb,if_neg (by decide),if_pos rfl,adK h0 h1]
 | @not a rel b ns s k hk ih=>
  rw[nQ,F8];show lM _ 2 a [gZ _ k]=ZC n i 2 a [NR n i k];rw[ih];have hb:iM n 2 a 1=false:=by simp[iM,BI]
  unfold lM ZC;simp[hb]
 | @bin op a rel b ns s k l h3 h7 hk hl ihk ihl=>
  rw[nQ,F8];show lM _ op a [gZ _ k,gZ _ l]=ZC n i op a [NR n i k,NR n i l];rw[ihk,ihl]
  have hb:iM n op a 2=false:=by
   have h1:¬ op=1:=by omega
   have h2:¬ op=2:=by omega
   simp[iM,BI,h1,h2]
  unfold lM ZC;have e:op=3∨op=4∨op=5∨op=6∨op=7:=by omega
  generalize NR n i k=x;generalize NR n i l=y;rcases e with rfl|rfl|rfl|rfl|rfl<;>simp[hb]<;>cases x<;>cases y<;>rfl
theorem ae8{n i:Nat}{conds:List aA}(hc:∀ e∈conds,nj n e){k:Int}(hk:-(conds.length:Int)≤k∧k≤conds.length):lS n conds (tD n i) k=YJ n conds k i:=by
 have get:∀ m,m<conds.length→((kK n conds (tD n i))[m]?).getD false=match conds[m]? with|some e=>NR n i e|none=>false:=fun m hm=>by
  obtain⟨e,he⟩:∃ e,conds[m]?=some e:=⟨_,axQ hm⟩;rw[he];unfold kK;rw[axX,he];exact abJ (hc e (axT he))
 unfold lS YJ;by_cases h1:0<k∧k≤conds.length
 ·rw[if_pos h1,if_pos h1,get _ (by omega)];cases conds[(k-1).toNat]?<;>rfl
 ·rw[if_neg h1,if_neg h1];by_cases h2:k<0∧0-(conds.length:Int)≤k
  ·rw[if_pos h2,if_pos h2,get _ (by omega)];cases conds[(0-k-1).toNat]?<;>rfl
  ·rw[if_neg h2,if_neg h2,decide_eq_true (by omega)]
theorem u_{T C:Nat}{f g:aj→Bool}:∀ (l:List aj) (out:List Int),(∀ r∈l,f r=g r)→fU T C f out l=fU T C g out l
 | [],_,_=>rfl
 | r::l,out,h=>by
  unfold fU;rw[List.foldl_cons,List.foldl_cons,h r (ax8 ..)];exact u_ l _ fun x hx=>h x (ax6 _ hx)
theorem UQ{p:aF}(h:pO p)(i:Nat):DE p i=bY p.types.length p.classes.length (fun r=>YJ p.bools.length p.conds r.cond i) p.rules:=
 u_ _ _ fun r hr=>ae8 h.conds (h.zo r hr)
theorem Vo{p q:aF}(hp:pO p)(hq:pO q)(hT:p.types.length=q.types.length)(hC:p.classes.length=q.classes.length)(hB:p.bools.length=q.bools.length):iV p=iV q↔(uY (eD p) (eD q)=true∧uY (eD q) (eD p)=true):=by
 have h:=Vp (T:=p.types.length) (C:=p.classes.length) hp.bools (ca:=p.conds) (cb:=q.conds) hp.rv (hT▸hC▸hq.rv) hp.four hq.four;have e1:rlM p.bools.length p.conds p.rules=eD p:=rfl;have e2:rlM p.bools.length q.conds q.rules=eD q:=by rw[hB];rfl
 rw[e1,e2] at h;rw[← h];unfold iV;rw[← hB,List.map_inj_left];refine forall_congr' fun i=>?_
 rw[List.mem_range,UQ hp,UQ hq,← hT,← hC,← hB]
theorem mE{α:Type}{P:α→α→Bool}(h:∀ x,P x x=true):∀ l:List α,au P l l=true
 | []=>rfl
 | x::l=>by show(P x x&&au P l l)=true;rw[h,mE h l];rfl
mutual
theorem sZ:∀ e:aA,eW e e=true
 | .node op a rel b names set kids=>by rw[eW];simp[aA.op,aA.a,aA.rel,aA.b,aA.set,aA.names,aA.kids,yN kids]
theorem yN:∀ l:List aA,nu l l=true
 | []=>by rw[nu]
 | x::l=>by rw[nu,sZ x,yN l];rfl
end
theorem kR(p:aF):gJ p p=true:=by
 unfold gJ kE;rw[mE (P:=mP) (fun x=>by simp[mP]),mE (P:=nZ) (fun x=>by simp[nZ]),mE (P:=eW) sZ,mE (P:=sC) (fun x=>by simp[sC,sZ])];simp
def Zu(T C:Nat)(on:aj→Bool)(j k:Nat)(r:aj):Bool:=(on r&&r.pairs.any fun p=>decide (Ap T C r p=j))&&ib r.perms k
theorem F5{T C:Nat}{on:aj→Bool}{j k:Nat}{r:aj}:Zu T C on j k r=true↔on r=true∧∃ s t,((s,t)∈r.pairs∧ib r.perms k=true)∧Ap T C r (s,t)=j:=by
 unfold Zu;simp only[axS,List.any_eq_true,decide_eq_true_eq];constructor
 ·rintro⟨⟨h1,⟨s,t⟩,h2,h3⟩,h4⟩;exact⟨h1,s,t,⟨h2,h4⟩,h3⟩
 ·rintro⟨h1,s,t,⟨h2,h4⟩,h3⟩;exact⟨⟨h1,(s,t),h2,h3⟩,h4⟩
theorem VD{T C:Nat}{on:aj→Bool}{j k:Nat}{a b c:aj}(ha:fS a.perms)(hb:fS b.perms)(hon:∀ x y:aj,x.cond=y.cond→on x=on y)(h:aD a b=some c):Zu T C on j k c=(Zu T C on j k a||Zu T C on j k b):=by
 obtain⟨⟨k1,k2,k3⟩,⟨l1,l2,l3⟩,-,-,hg⟩:=tM ha hb h;have e:∀ (x y:aj) (p:Nat×Nat),x.kind=y.kind→x.cls=y.cls→Ap T C x p=Ap T C y p:=fun x y p e1 e2=>by unfold Ap;rw[e1,e2]
 rw[Bool.eq_iff_iff,Bool.or_eq_true,F5,F5,F5,hon c a k3,hon b a l3];constructor
 ·rintro⟨h1,s,t,h2,h3⟩;obtain⟨hs,ht⟩:=iT h2.1;rcases(hg s t k hs ht).1 h2 with h4|h4
  ·exact .inl ⟨h1,s,t,h4,by rw[← e c a _ k1 k2];exact h3⟩
  ·exact .inr ⟨h1,s,t,h4,by rw[e b c _ (l1.trans k1.symm) (l2.trans k2.symm)];exact h3⟩
 ·rintro(⟨h1,s,t,h2,h3⟩|⟨h1,s,t,h2,h3⟩)
  ·obtain⟨hs,ht⟩:=iT h2.1;exact⟨h1,s,t,(hg s t k hs ht).2 (.inl h2),by rw[e c a _ k1 k2];exact h3⟩
  ·obtain⟨hs,ht⟩:=iT h2.1;exact⟨h1,s,t,(hg s t k hs ht).2 (.inr h2),by rw[← e b c _ (l1.trans k1.symm) (l2.trans k2.symm)];exact h3⟩
theorem Y1{T C:Nat}{a b c:aj}(ha:RV T C a)(hb:RV T C b)(h:aD a b=some c):RV T C c:=by
 obtain⟨⟨k1,k2,k3⟩,-,hw,hp,-⟩:=tM ha.perms hb.perms h;refine⟨by rw[k1];exact ha.kind,by rw[k2];exact ha.cls,hw,fun p hq=>?_⟩;obtain⟨hs,ht⟩:=iT hq;rcases hp p.1 p.2 hs ht hq with h|h
 ·exact ha.pairs _ h
 ·exact hb.pairs _ h
theorem MG{T C:Nat}{on:aj→Bool}{l l':List aj}(hl:∀ r∈l,RV T C r)(hon:∀ x y:aj,x.cond=y.cond→on x=on y)(h:cH aD l=some l'):(∀ r∈l',RV T C r)∧bY T C on l'=bY T C on l:=by
 obtain⟨p,a,m,b,r,c,rfl,hj,rfl⟩:=tC h;have ha:=hl a (by simp);have hb:=hl b (by simp)
 have hl':∀ x∈p++c::(m++r),RV T C x:=fun x hx=>by
  simp only[List.mem_append,List.mem_cons] at hx;rcases hx with hx|rfl|hx|hx
  ·exact hl x (by simp[hx])
  ·exact Y1 ha hb hj
  ·exact hl x (by simp[hx])
  ·exact hl x (by simp[hx])
 refine⟨hl',?_⟩;obtain⟨w1,g1⟩:=lG (on:=on) hl';obtain⟨w2,g2⟩:=lG (on:=on) hl
 have e1:(bY T C on (p++c::(m++r))).length=(bY T C on (p++a::(m++b::r))).length:=by
  unfold bY;rw[oU,oU]
 refine List.ext_getElem e1 fun j hj1 hj2=>?_
 have h1:=g1 j;have h2:=g2 j;rw[axP,axQ hj1] at h1;rw[axP,axQ hj2] at h2;refine Co (w1 _ (List.getElem_mem hj1)).1 (w2 _ (List.getElem_mem hj2)).1 fun k=>?_
 refine(h1 k).trans (Eq.trans ?_ (h2 k).symm);show List.any _ (Zu T C on j k)=List.any _ (Zu T C on j k);simp only[List.any_append,List.any_cons,VD ha.perms hb.perms hon hj];cases Zu T C on j k a<;>cases Zu T C on j k b<;>simp
theorem JC{T C:Nat}{on:aj→Bool}{l:List aj}(hl:∀ r∈l,RV T C r)(hon:∀ x y:aj,x.cond=y.cond→on x=on y):(∀ r∈tF aD l,RV T C r)∧bY T C on (tF aD l)=bY T C on l:=by
 have key:∀ (n:Nat) (l:List aj),(∀ r∈l,RV T C r)→(∀ r∈MO aD n l,RV T C r)∧bY T C on (MO aD n l)=bY T C on l:=by
  intro n
  induction n with
  | zero=>exact fun l hl=>⟨hl,rfl⟩
  | succ n ih=>
   intro l hl;unfold MO
   cases e:cH aD l with
   | none=>exact⟨hl,rfl⟩
   | some l'=>
    obtain⟨h1,h2⟩:=MG (on:=on) hl hon e;obtain⟨h3,h4⟩:=ih l' h1;exact⟨h3,h4.trans h2⟩
 exact key _ l hl
theorem JF{p:aF}(hR:∀ r∈p.rules,RV p.types.length p.classes.length r):iV (dQ p)=iV p:=by
 unfold iV;refine List.map_congr_left fun n _=>?_
 unfold DE;exact(JC hR fun x y e=>by rw[e]).2
theorem Fx{p:aF}(hR:∀ r∈p.rules,RV p.types.length p.classes.length r):Ec p (dQ p)=true:=by
 unfold Ec;rw[show kA (dQ p)=kA p from rfl,show iB (dQ p)=iB p from rfl,JF hR,kR];simp
theorem Fy(p:aF):dQ (dQ p)=dQ p:=by
 unfold dQ;rw[uT aD (Vi aD p.rules)]
theorem vM.rj{p:aF}(h:vM p):vM (dQ p):={ h with rules:=fun r hr=>⟨(JC (on:=fun _=>true) (fun r hr=>(h.rules r hr).1) fun _ _ _=>rfl).1 r hr,Aj (J:=aD) (Q:=fun r=>r.oC) (fun _ _ _ ha hb h=>Cg ha hb h) (fun r hr=>(h.rules r hr).2) r hr⟩ }
theorem Ve{α:Type}{J:α→α→Option α}{l:List α}{i:Nat}{x:α}(hN:Dh J (l.take i) (l.drop i))(hx:l[i]?=some x)(h:∀ j y,i<j→l[j]?=some y→J x y=none):Dh J (l.take (i+1)) (l.drop (i+1)):=by
 obtain⟨hi,rfl⟩:=ax3.1 hx;rw[List.take_add_one,axQ hi];refine Dh.append J ?_ ⟨fun y hy=>?_,trivial⟩
 ·rw[List.drop_eq_getElem_cons hi] at hN;exact hN
 ·obtain⟨j,hj⟩:=List.getElem?_of_mem (by simpa using hy:y∈l.drop (i+1));rw[List.getElem?_drop] at hj;exact h _ y (by omega) hj
theorem YI{α:Type}{J:α→α→Option α}{l:List α}{i k:Nat}{x y c:α}(hN:Dh J (l.take i) (l.drop i))(hik:i<k)(hx:l[i]?=some x)(hy:l[k]?=some y)(h:∀ j z,i<j→j<k→l[j]?=some z→J x z=none)(hc:J x y=some c):cH J l=some ((l.take k++l.drop (k+1)).set i c):=by
 obtain⟨hi,rfl⟩:=ax3.1 hx;obtain⟨hk,rfl⟩:=ax3.1 hy;obtain⟨m,hm⟩:∃ m,m=(l.drop (i+1)).take (k-(i+1)):=⟨_,rfl⟩
 have e1:l.drop i=l[i]::(m++l[k]::l.drop (k+1)):=by
  rw[List.drop_eq_getElem_cons hi,hm,← List.drop_eq_getElem_cons hk];congr 1
  conv=>lhs;rw[← List.take_append_drop (k-(i+1)) (l.drop (i+1))]
  rw[List.drop_drop,show i+1+(k-(i+1))=k by omega]
 have e2:l=l.take i++l[i]::(m++l[k]::l.drop (k+1)):=by
  rw[← e1,List.take_append_drop]
 have e3:l.take k=l.take i++l[i]::m:=by
  have hk2:k=i+((k-(i+1))+1):=by omega
  conv=>lhs;rw[hk2,List.take_add,List.drop_eq_getElem_cons hi,List.take_succ_cons]
  rw[hm]
 have e4:(l.take k++l.drop (k+1)).set i c=l.take i++c::(m++l.drop (k+1)):=by
  rw[e3,List.append_assoc,List.cons_append,List.set_append_right _ _ (by rw[ax9];omega),ax9,Nat.min_eq_left (by omega),Nat.sub_self,List.set_cons_zero]
 rw[e4]
 conv=>lhs;rw[e2]
 refine Jx J ?_ (fun z hz=>?_) hc
 ·rw[← e1];exact hN
 ·rw[hm] at hz;obtain⟨j,hj⟩:=List.getElem?_of_mem hz;rw[List.getElem?_take] at hj;split at hj
  ·rw[List.getElem?_drop] at hj;exact h _ z (by omega) (by omega) hj
  ·cases hj
theorem xT:∀ (l:List aj) (k:Nat),(l.flatMap aj.cells).take (k*13)=(l.take k).flatMap aj.cells
 | [],k=>by simp
 | x::l,0=>by simp
 | x::l,k+1=>by
  rw[List.take_succ_cons,List.flatMap_cons,List.flatMap_cons,← xT l k,show(k+1)*13=x.cells.length+k*13 by show(k+1)*13=13+k*13;omega,List.take_length_add_append]
theorem xU:∀ (l:List aj) (k:Nat),(l.flatMap aj.cells).drop (k*13)=(l.drop k).flatMap aj.cells
 | [],k=>by simp
 | x::l,0=>by simp
 | x::l,k+1=>by
  rw[List.drop_succ_cons,List.flatMap_cons,← xU l k,show(k+1)*13=x.cells.length+k*13 by show(k+1)*13=13+k*13;omega,List.drop_length_add_append]
theorem U9{l:List aj}{i k:Nat}{z:aj}(hik:i<k)(hk:k<l.length):(([]++(l.flatMap aj.cells).take (k*13))++(l.flatMap aj.cells).drop ((k+1)*13)).take (0+i*13)++z.cells++(([]++(l.flatMap aj.cells).take (k*13))++(l.flatMap aj.cells).drop ((k+1)*13)).drop (0+i*13+13)=((l.take k++l.drop (k+1)).set i z).flatMap aj.cells:=by
 rw[Nat.zero_add,List.nil_append,xT,xU,← ax7,xT,show i*13+13=(i+1)*13 by omega,xU,List.set_eq_take_append_cons_drop,if_pos (by rw[ax0,ax9];omega),ax7,List.flatMap_cons,List.append_assoc]
theorem MH(w0:World)(v:Value)(l:List aj)(h:SliceAt w0 v 13 l.length (l.flatMap aj.cells))(hok:∀ r∈l,r.Ok)(hl:l.length≤1000):Calls Tryz.prog 86 #[v] w0 fun e w'=>∃ u,e=.returned u∧((match cH aD l with
 | some l'=>∃ x,u=.tuple #[x,.bool true]∧w'.ownsRow w0.heap.size 56 13 x l'.length (l'.flatMap aj.cells)
 | none=>u=.tuple #[v,.bool false])∧axO w0.heap.size w0 w'):=by
 obtain⟨a,c,rfl,hcl,-⟩:=SliceAt.form h (by decide);refine dD [] (fn:=Tryz.f86) Tryz.func86 rfl Tryz.ntmps86 rfl<|lr (ι:=Nat) (fun i=>[(4,.int .i64 (i:Int))]) (fun i _=>i≤l.length∧Dh aD (l.take i) (l.drop i)) (fun i=>l.length-i) 0 (an ⟨⟨rfl,trivial⟩,fun M=>⟨M,axV _,trivial⟩⟩ ?_);intro i w M ⟨hi,hN⟩;refine an (fun h1=>?_) fun h1 M=>?_
 ·have hlt:i<l.length:=by simp at h1;omega
  obtain⟨x,hx⟩:∃ x,l[i]?=some x:=⟨_,axQ hlt⟩;obtain⟨b,o,e1,hc1⟩:=SliceAt.elt h (fun _=>rfl) (by decide) hx hlt;subst e1;refine an (by omega)<|lr (ι:=Nat) (fun k=>[(5,.int .i64 (k:Int))]) (fun k _=>i<k∧k≤l.length∧∀ j y,i<j→j<k→l[j]?=some y→aD x y=none) (fun k=>l.length-k) (i+1) (an ⟨⟨rfl,trivial⟩,fun M=>⟨M,by omega,by omega,fun j y h1 h2=>absurd h1 (by omega)⟩⟩ ?_);intro k w M ⟨hk1,hk2,hne⟩;refine an (fun h2=>?_) fun h2=>an (by omega)<|bk (i+1) ⟨rfl,trivial⟩ (fun M=>⟨M,by omega,Ve hN hx fun j y h3 h4=>hne j y h3 (by have:=(ax3.1 h4).1;simp at h2;omega) h4⟩) (by dsimp only;omega)
  have hlt2:k<l.length:=by simp at h2;omega
  obtain⟨y,hy⟩:∃ y,l[k]?=some y:=⟨_,axQ hlt2⟩;obtain⟨_,_,e2,hc2⟩:=SliceAt.elt h (fun _=>rfl) (by decide) hy hlt2;cases e2;have hj:=fun w'=>Ra w' x y (hok x (axT hx)) (hok y (axT hy))
  obtain⟨z,hz⟩:∃ z,z=(aD x y).getD x:=⟨_,rfl⟩;obtain⟨s,hs⟩:∃ s,s=(aD x y).isSome:=⟨_,rfl⟩;rw[← hz,← hs] at hj;refine spk [(8,32,.tuple #[.agg #[.int .i64 z.kind,.int .u64 z.src.a,.int .u64 z.src.b,.int .u64 z.src.c,.int .u64 z.src.d,.int .u64 z.tgt.a,.int .u64 z.tgt.b,.int .u64 z.tgt.c,.int .u64 z.tgt.d,.bool z.self,.int .i64 z.cls,.int .u32 z.perms,.int .i64 z.cond],.bool s])] [0,1,2,3,4,5,6,7,9,10,11] (.alt (.step 8 (.step 12 (.step 13 (.step 14 .done)))) (.step 12 (.step 8 (.step 13 (.step 14 .done))))) [] (by rfl) (by kernel_rfl)<|ia<|an ⟨rfl,rfl,hlt⟩<|lc<|an (fun u hb=>dH hb hc1)<|ia<|an ⟨rfl,rfl,hlt2⟩<|lc<|an (fun u hb=>dH hb hc2)<|fun w3 sG M3=>an (cl<|an (hj _) fun w4 M4=>an rfl<|an rfl<|ei<|an mJ<|fun g w5 M5=>an rfl<|lb 0<|an ⟨rfl,rfl⟩ fun w6 M6=>an rfl<|an rfl<|?_) (ei<|an mJ fun g w4 M4=>an rfl<|cl<|an (hj _) fun w5 M5=>an rfl<|an rfl<|lb 0<|an ⟨rfl,rfl⟩ fun w6 M6=>an rfl<|an rfl<|?_)
  all_goals
   refine an (fun h3=>?_) fun h3=>?_
   ·have hjz:aD x y=some z:=by
     rw[h3] at hs
     cases hj:aD x y with
     | none=>rw[hj] at hs;cases hs
     | some q=>rw[hj] at hz;rw[hz];rfl
    have e86:=YI hN hk1 hx hy hne hjz;refine sp [1,2,3,5,6,7,8] (.step 0 (.step 4 (.step 9 (.step 10 .done)))) [] (by kernel_rfl)<|ei (x:=.slice (some ⟨b,o,none⟩) k c)<|an (fun a w o ho hv=>EJ ho (oD hv) (uf hv) (by omega) (by omega) u30 qm)<|an (by omega)<|ei<|an (fun a w o ho hv=>Sy (l:=k+1) ho (oD hv) (uf hv) (by omega) u30 qm)<|fun w7 hb7 M7=>fun g0 w8 M8=>an rfl<|Ii 0 (fun M=>M.vg (k:=13)) rfl (SliceAt.hi (h.keep M8.below) (by omega)) ⟨by unfold maxLen;omega,by omega⟩ fun va vc w9 M9=>an rfl<|Ii 0 id rfl (SliceAt.lo (h.keep M9.below) (by omega)) ⟨by unfold maxLen;omega,by omega⟩ fun va vc rz nI=>an rfl<|an rfl<|?_
    obtain⟨g9,c9,e9⟩:=nI.own 0 rfl (by omega);cases e9
    exact lb 0<|an rfl<|ia<|an ⟨rfl,rfl,by omega⟩<|sr 0 i ⟨rfl,by show 0+i*13=i*13;omega,by omega⟩ rfl fun Dp M11=>fun M=>⟨_,rfl,by rw[e86];exact⟨_,rfl,by
     have h5:=M.r 0 rfl;rw[← U9 hk1 hlt2,show((l.take k++l.drop (k+1)).set i z).length=0+k+(l.length-(k+1)) by rw[List.length_set,ax0,ax9,List.length_drop];omega];exact h5⟩,M.below⟩
   ·exact an (by omega)<|bk (k+1) ⟨rfl,trivial⟩ (fun M=>⟨M.only (.cons _ (.refl _)) (.refl _),by omega,by omega,fun j y' h4 h5 h6=>by
     by_cases hjk:j=k
     ·subst hjk;obtain rfl:y=y':=ax5 (hy.symm.trans h6);rw[h3] at hs;exact Option.isSome_eq_false_iff.1 hs.symm |> Option.isNone_iff_eq_none.1
     ·exact hne j y' h4 (by omega) h6⟩) (by dsimp only;omega)
 ·have hN2:cH aD l=none:=BP aD (by
   obtain rfl:i=l.length:=by simp at h1;omega
   simpa using hN)
  exact⟨_,rfl,by rw[hN2];rfl,M.below⟩
theorem Jk(w0:World)(c0 c1 c2 c3 c4 c5 c6 c7 c8 c9 aR aO aN aQ aM aL aP:Value)(p:aF)(hp:aK w0 c0 c1 c2 c3 c4 c5 c6 c7 c8 c9 aR aO aN aQ aM aL aP p)(hop:p.Ok)(hl:p.rules.length≤1000):Calls Tryz.prog 33 #[.agg #[c0,c1,c2,c3,c4,c5,c6,c7,c8,c9,aR,aO,aN,aQ,aM,aL,aP]] w0 fun r w'=>∃ v,r=.returned v∧(vN (dQ p) v w'∧axO w0.heap.size w0 w'):=by
 have hpr:=hp.rules;obtain⟨a0,a1,a2,a3,a4,a5,a6,a7,a8,a9,Qi,Qh,a12,XQ,Qg,Qf,Qe,k0,k1,k2,k3,k4,k5,k6,k7,k8,k9,k10,k11,k12,k13,k14,k15,k16,rfl,rfl,rfl,rfl,rfl,rfl,rfl,rfl,rfl,rfl,rfl,rfl,rfl,rfl,rfl,rfl,rfl⟩:=hp.open;refine dD [] (fn:=Tryz.f33) Tryz.func33 rfl Tryz.ntmps33 rfl<|fun g1 w1 M1=>ei<|an lJ fun g2 w2 M2=>lp (ι:=Bool×List aj×Value×Bool) (fun(b,l,v,f)=>[(3,.bool b)]) (fun(b,l,v,f)=>_::(g1,39,#[.slice a0 p.classes.length k0,.slice a1 p.types.length k1,.slice a2 p.attrs.length k2,.slice a3 p.roles.length k3,.slice a4 p.users.length k4,.slice a5 p.bools.length k5,.slice a6 p.bf.length k6,.slice a7 p.cats.length k7,.slice a8 p.conds.length k8,v,.slice Qi p.trans.length k10,.slice Qh p.aT.length k11,.slice a12 p.ranges.length k12,.slice XQ p.cons.length k13,.slice Qg p.bL.length k14,.slice Qf p.files.length k15,.slice Qe p.asserts.length k16])::[]) (fun(b,l,v,f)=>bif f then [⟨v,56,13,l.length,l.flatMap aj.cells⟩] else []) (fun(b,l,v,f) _=>(∃ a c,v=.slice a l.length c)∧(f=false→SliceAt w0 v 13 l.length (l.flatMap aj.cells))∧tF aD l=tF aD p.rules∧(b=false→cH aD l=none)∧(∀ r∈l,r.Ok)∧l.length≤1000) (fun(b,l,v,f)=>bif b then l.length+1 else 0) (true,p.rules,.slice a9 p.rules.length k9,false) (an ⟨⟨rfl,trivial⟩,fun M=>⟨M,⟨_,_,rfl⟩,fun _=>hpr,rfl,fun h=>(by cases h),fun r hr=>⟨(hop.rules r hr).src,(hop.rules r hr).tgt⟩,hl⟩⟩ ?_)
 rintro⟨b,l,v,f⟩ w M ⟨⟨va,vc,rfl⟩,hv,hnf,za,hok,hll⟩
 have hsl:∀ w' bs,aW w0.heap.size w0 w' bs (bif f then [⟨.slice va l.length vc,56,13,l.length,l.flatMap aj.cells⟩] else [])→SliceAt w' (.slice va l.length vc) 13 l.length (l.flatMap aj.cells):=fun w' bs M=>by
  cases f with
  | false=>exact(hv rfl).keep M.below
  | true=>exact SliceAt.bC (M.r 0 rfl) (dX fun _=>rfl)
 refine an (fun h=>?_) fun h=>?_
 ·refine lb 1<|an rfl<|cg<|an (MH _ _ l (hsl _ _ M) hok hll) fun u w3 hR=>?_
  obtain⟨hm,hb⟩:=hR
  cases e:cH aD l with
  | none=>
   rw[e] at hm;replace hm:u=.tuple #[.slice va l.length vc,.bool false]:=hm;subst hm;refine⟨_,_,M.keep hb,lb 1<|an ⟨rfl,rfl⟩ fun w4 M4=>bk (false,l,.slice va l.length vc,f) ⟨rfl,trivial⟩ (fun M=>⟨M,⟨_,_,rfl⟩,hv,hnf,fun _=>e,hok,hll⟩) ?_⟩;subst h;exact Nat.succ_pos _
  | some l'=>
   rw[e] at hm;obtain⟨x,rfl,ho⟩:=hm;obtain⟨xa,xc,rfl,-⟩:=fB ho;have hlen:=jE aD e;refine⟨_,_,M.xO hb ho,lb 1<|an ⟨rfl,rfl⟩ fun w4 M4=>bk (true,l',.slice xa l'.length xc,true) ⟨rfl,trivial⟩ (fun M=>⟨M.only (.refl _) (.cons_cons _ (List.nil_sublist _)),⟨_,_,rfl⟩,fun h=>(by cases h),(uR aD e).symm.trans hnf,fun h=>(by cases h),wZ (J:=aD) (Q:=fun r=>r.Ok) (fun _ _ _ ha hb h=>FX ha hb h) hok e,by omega⟩) ?_⟩;subst h;dsimp only;show l'.length+1<l.length+1;omega
 ·have hE:=za h;have hN:tF aD p.rules=l:=by rw[← hnf,uT aD hE]
  refine lb 1<|an rfl<|lb 0<|an ⟨rfl,rfl⟩ fun w5 M5=>ei (x:=0)<|an rfl fun M=>⟨_,rfl,⟨_,_,_,_,_,_,_,_,_,_,_,_,_,_,_,_,_,rfl,{ hp.keep M.below with rules:=?_ }⟩,M.below⟩
  show SliceAt _ _ 13 (tF aD p.rules).length ((tF aD p.rules).flatMap aj.cells);rw[hN]
  cases f with
  | false=>exact(hv rfl).keep M.below
  | true=>exact SliceAt.bC (M.r 0 rfl) (dX fun _=>rfl)
theorem RU(w0:World)(c0 c1 c2 c3 c4 c5 c6 c7 c8 c9 aR aO aN aQ aM aL aP:Value)(p:aF)(hp:aK w0 c0 c1 c2 c3 c4 c5 c6 c7 c8 c9 aR aO aN aQ aM aL aP p)(hop:p.Ok):Calls Tryz.prog 7 #[.agg #[c0,c1,c2,c3,c4,c5,c6,c7,c8,c9,aR,aO,aN,aQ,aM,aL,aP]] w0 fun r w'=>r=.returned (.bool true)∧axO w0.heap.size w0 w':=by
 refine dD [] (fn:=Tryz.f7) Tryz.func7 rfl Tryz.ntmps7 rfl<|fun g1 w1 M1=>lb 0<|an rfl<|cg<|an (F7 _ _ _ _ _ _ _ _ _ _ _ _ _ _ _ _ _ _ p (hp.keep M1.below) hop) fun v w2 hR=>?_
 obtain⟨⟨b,rfl,hb⟩,hB⟩:=hR;have M2:=M1.keep hB;refine⟨_,_,M2,an (fun h=>cl<|an (jL _) fun w M=>fun M=>⟨rfl,M.below⟩) fun h=>?_⟩;have fp:=hb (by simpa using h);obtain⟨tp,sp⟩:=CG fp hop;have sm:=NQ fp;have zp:=fp.small.sizes;have rR:∀ w d0 d1 d2 d3 d4 d5 d6 d7 d8 d9 sQ sP sO sM sK sJ sI,aK w d0 d1 d2 d3 d4 d5 d6 d7 d8 d9 sQ sP sO sM sK sJ sI p→_:=fun w d0 d1 d2 d3 d4 d5 d6 d7 d8 d9 sQ sP sO sM sK sJ sI h=>tA w d0 d1 d2 d3 d4 d5 d6 d7 d8 d9 sQ sP sO sM sK sJ sI p h hop sm (ax1 zp.rules (by decide))
 have r24:∀ w d0 d1 d2 d3 d4 d5 d6 d7 d8 d9 sQ sP sO sM sK sJ sI,aK w d0 d1 d2 d3 d4 d5 d6 d7 d8 d9 sQ sP sO sM sK sJ sI p→_:=fun w d0 d1 d2 d3 d4 d5 d6 d7 d8 d9 sQ sP sO sM sK sJ sI h=>Jk w d0 d1 d2 d3 d4 d5 d6 d7 d8 d9 sQ sP sO sM sK sJ sI p h hop (ax1 zp.rules (by decide))
 refine lb 0<|an rfl<|cg<|an (rR _ _ _ _ _ _ _ _ _ _ _ _ _ _ _ _ _ _ (hp.keep M2.below)) fun v w3 hR=>?_
 obtain⟨⟨x0,n0,x1,n1,x2,n2,x3,n3,x4,n4,x5,n5,x6,n6,x7,n7,x8,n8,x9,n9,x10,n10,pH,n11,pG,n12,IE,n13,IC,n14,IB,n15,Iz,n16,T,rfl,hT,hQ⟩,sG⟩:=hR;refine⟨_,_,M2.eA sG hT,ei<|an lJ fun g2 w4 M4=>lb 0<|an ⟨rfl,rfl⟩ fun w5 M5=>?_⟩;have hE:=Fy p;have hS:=Fx (p:=p) fun r hr=>(sp.rules r hr).1
 have zq:(dQ p).rules.length≤1000:=ax1 (uS _ _) (ax1 zp.rules (by decide));have zqt:(dQ p).trans.length≤1000:=ax1 zp.trans (by decide);have oq:=aaq hop;have mq:=aap sm;have sq:=sp.rj;generalize dQ p=q at *
 refine dr (by kernel_rfl)<|lb 0<|an rfl<|lb 1<|an rfl<|cr (vN q)<|an (oQ _)<|an (fun w' hb' M'=>r24 w' _ _ _ _ _ _ _ _ _ _ _ _ _ _ _ _ _ (hp.keep M'.below))<|cu<|an (fun u _ w' hb' M' hR=>vN.same ⟨_,_,_,_,_,_,_,_,_,_,_,_,_,_,_,_,_,rfl,hQ _ _ M'.dW⟩ hR)<|
  lb 1<|an (fun _=>rfl)<|lb 0<|an (fun _=>rfl)<|cl<|an (fun _ w' hb' M'=>Bq w' _ _ _ _ _ _ _ _ _ _ _ _ _ _ _ _ _ _ _ _ _ _ _ _ _ _ _ _ _ _ _ _ _ _ p q (hp.keep M'.below) (hQ _ _ M'.dW) sp sq (ax1 zp.trans (by decide)) zqt (fun y hy=>(hop.trans y hy).cond) (fun y hy=>(oq.trans y hy).cond))<|
  lb 0<|an (fun _=>rfl)<|cr (vN q)<|an (oQ _)<|an (fun _ w' hb' M'=>(tA w' _ _ _ _ _ _ _ _ _ _ _ _ _ _ _ _ _ q (hQ _ _ M'.dW) oq mq zq).mono fun _ _ ⟨v,e,h1,h2⟩=>⟨v,e,by rw[hE] at h1;exact h1.o,h2⟩)<|
  lb 0<|an (fun _=>rfl)<|cu<|an (fun u h w' hb' M' hR=>vN.same (hR h) ⟨_,_,_,_,_,_,_,_,_,_,_,_,_,_,_,_,_,rfl,hQ _ _ M'.dW⟩)<|cl<|an (fun _ w' hb' M'=>jL w') fun rz xJ nI=>?_
 exact fun M=>⟨by rw[hS,kR];simp[kQ],M.below⟩
theorem aan(p:aF)(o:List Nat):eD (mK p (LU o))=gA (eD p) o:=by
 unfold eD;rw[JI];unfold mK;rw[OH]
theorem Ml{p:aF}(h:pO p):Il (eD p):=FD h.bools (conds:=p.conds) fun r hr=>(h.rv r hr).perms
theorem Eu{p:aF}(h:pO p)(o:List Nat):iV (mK p (LU o))=iV p↔jM (gA (eD p) o) (eD p):=by
 rw[Vo (h.wo _) h rfl rfl rfl,aan,Aq ((Ml h).sub uV) (Ml h),Aq (Ml h) ((Ml h).sub uV)];exact⟨fun⟨h1,h2⟩ kind cls s t k r hs ht=>⟨h1 kind cls s t k r hs ht,h2 kind cls s t k r hs ht⟩,fun H=>⟨fun kind cls s t k r hs ht=>(H kind cls s t k r hs ht).1,fun kind cls s t k r hs ht=>(H kind cls s t k r hs ht).2⟩⟩
def iE(p:aF):Nat→List Nat
 | 0=>[]
 | m+1=>if iV (mK p (LU (iE p m++[m])))=iV p then iE p m++[m] else iE p m
theorem O_{p:aF}(h:pO p):∀ m,m≤p.rules.length→iE p m=dA (eD p) m
 | 0,_=>rfl
 | m+1,hm=>by
  have ih:=O_ h m (by omega);obtain⟨x,hx⟩:∃ x,(eD p)[m]?=some x:=⟨_,axQ (by unfold eD;rw[axW];omega)⟩;unfold iE dA;rw[ih,hx];have h1:=UY (Ml h) hx;have h2:=Eu h (dA (eD p) m++[m]);by_cases hc:f_ x (g_ (eD p) (dA (eD p) m) m)=true
  ·rw[if_pos (h2.2 (h1.1 hc))];exact(if_pos hc).symm
  ·rw[if_neg fun h3=>hc (h1.2 (h2.1 h3))];exact(if_neg hc).symm
theorem Jq(p:aF):∀ m,(iE p m).length≤m
 | 0=>Nat.le_refl _
 | m+1=>by
  have:=Jq p m;unfold iE;split
  ·rw[ax0];simp;omega
  ·omega
theorem QZ{p:aF}(h:pO p):Ec p (mK p (LU (j8 p)))=true:=by
 unfold Ec;rw[show kA (mK p (LU (j8 p)))=kA p from rfl,show iB (mK p (LU (j8 p)))=iB p from rfl,(Eu h (j8 p)).2 (lN (Ml h) _),kR];simp
theorem Jp(l:List (aj×Int)){k:Nat}:∀ {m n:Nat},m≤n→k∈dA l m→k∈dA l n:=by
 intro m n hmn hk
 induction n with
 | zero=>
  obtain rfl:m=0:=by omega
  exact hk
 | succ n ih=>
  by_cases e:m=n+1
  ·subst e;exact hk
  have:=ih (by omega);unfold dA;split
  ·split
   ·exact List.mem_append_left _ this
   ·exact this
  ·exact this
theorem Wx{α β:Type}{f:α→Option β}:∀ {I:List α} {m:Nat} {x:β},I.Nodup→(I.filterMap f)[m]?=some x→∃ k∈I,f k=some x∧∀ j y,j≠m→(I.filterMap f)[j]?=some y→∃ i∈I,i≠k∧f i=some y
 | [],m,x,_,h=>by cases m<;>cases h
 | a::I,m,x,hn,h=>by
  obtain⟨h0,h1⟩:=List.nodup_cons.1 hn;have up:∀ (y:β) (j:Nat),(I.filterMap f)[j]?=some y→∃ i∈I,f i=some y:=fun y j hj=>List.mem_filterMap.1 (axT hj)
  rw[List.filterMap_cons] at h ⊢
  cases e:f a with
  | none=>
   rw[e] at h;obtain⟨k,h2,h3,h4⟩:=Wx h1 h;refine⟨k,ax6 _ h2,h3,fun j y hj hy=>?_⟩;obtain⟨i,h5,h6⟩:=h4 j y hj hy;exact⟨i,ax6 _ h5,h6⟩
  | some b=>
   rw[e] at h
   cases m with
   | zero=>
    obtain rfl:b=x:=by simpa using h
    refine⟨a,ax8 ..,e,fun j y hj hy=>?_⟩;obtain⟨j,rfl⟩:∃ i,j=i+1:=⟨j-1,by omega⟩;obtain⟨i,h5,h6⟩:=up y j (by simpa using hy);exact⟨i,ax6 _ h5,fun h=>h0 (h▸h5),h6⟩
   | succ m=>
    obtain⟨k,h2,h3,h4⟩:=Wx h1 (by simpa using h:(I.filterMap f)[m]?=some x);refine⟨k,ax6 _ h2,h3,fun j y hj hy=>?_⟩
    cases j with
    | zero=>
     obtain rfl:b=y:=by simpa using hy
     exact⟨a,ax8 ..,fun h=>h0 (h▸h2),e⟩
    | succ j=>
     obtain⟨i,h5,h6⟩:=h4 j y (by omega) (by simpa using hy);exact⟨i,ax6 _ h5,h6⟩
theorem Xh{x:aj×Int}{l l':List (aj×Int)}(hx:fS x.1.perms)(hw:vY x.2)(hl:Il l)(hl':Il l')(hs:∀ y∈l,y∈l')(h:f_ x l=true):f_ x l'=true:=by
 rw[vw hx hw hl] at h;rw[vw hx hw hl'];intro s t k r hs1 ht hg hk hr;obtain⟨y,hy,h2⟩:=h s t k r hs1 ht hg hk hr;exact⟨y,hs y hy,h2⟩
theorem Jo{l:List (aj×Int)}(hl:Il l):∀ m,dA (gA l (dA l l.length)) m=[]
 | 0=>rfl
 | m+1=>by
  have ih:=Jo hl m;unfold dA;split
  ·rename_i x hx;rw[if_neg,ih];rw[ih];intro hc;unfold gA at hx;obtain⟨k,h1,h2,h3⟩:=Wx List.nodup_range hx;split at h2
   ·cases h2
   rename_i hk;have hxm:=axT h2;have hlt:k<l.length:=List.mem_range.1 h1;refine hk ?_
   have hin:f_ x (g_ l (dA l k) k)=true:=by
    refine Xh (hl.perms x hxm) (hl.yD x hxm) (hl.sub fun y hy=>uV y (oM y hy)) (hl.sub oM) (fun y hy=>?_) hc;obtain⟨j,-,g1,g2⟩:=lV.1 hy;unfold gA at g2;obtain⟨i,g3,g4,g5⟩:=h3 j y g1 g2;split at g5
    ·cases g5
    rename_i hi;exact lV.2 ⟨i,fun h=>hi (by simpa using Jp l (by omega:k≤l.length) h),g4,g5⟩
   have:k∈dA l (k+1):=by
    unfold dA;rw[h2];show k∈if f_ x (g_ l (dA l k) k)=true then dA l k++[k] else dA l k
    rw[if_pos hin];exact List.mem_append_right _ (List.mem_singleton.2 rfl)
   simpa using Jp l (by omega:k+1≤l.length) this
  ·exact ih
theorem Rf{p:aF}(h:pO p):j8 (mK p (LU (j8 p)))=[]:=by
 unfold j8;rw[aan];have e:p.rules.length=(eD p).length:=by unfold eD;rw[axW]
 conv=>lhs;arg 1;rw[e]
 exact Jo (Ml h) _
def aii:Tr:=.alt (.step 1 (.alt (.step 3 (.step 5 (.step 6 (.step 7 (.step 8 (.step 10 .done)))))) (.step 5 (.step 3 (.step 6 (.step 7 (.step 8 (.step 10 .done)))))))) (.step 5 (.step 1 (.step 3 (.step 6 (.step 7 (.step 8 (.step 10 .done)))))))
theorem Ut(o:List Nat):(LU o).flatMap anyI=ints o:=by
 unfold LU ints
 induction o with
 | nil=>rfl
 | cons a l ih=>rw[List.map_cons,List.flatMap_cons,ih];rfl
theorem Rg(w0:World)(c0 c1 c2 c3 c4 c5 c6 c7 c8 c9 aR aO aN aQ aM aL aP:Value)(p:aF)(hp:aK w0 c0 c1 c2 c3 c4 c5 c6 c7 c8 c9 aR aO aN aQ aM aL aP p)(hS:vM p)(hsR:p.rules.length≤900):Calls Tryz.prog 29 #[.agg #[c0,c1,c2,c3,c4,c5,c6,c7,c8,c9,aR,aO,aN,aQ,aM,aL,aP]] w0 (fun(r:Ending) (w':World)=>∃ v,r=.returned v∧(w'.ownsRow w0.heap.size 3 1 v (iE p p.rules.length).length (ints (iE p p.rules.length))∧axO w0.heap.size w0 w')):=by
 obtain⟨_,_,_,_,_,_,_,_,_,_,_,_,_,_,_,_,_,_,_,_,_,_,_,_,_,_,_,_,_,_,_,_,_,_,rfl,rfl,rfl,rfl,rfl,rfl,rfl,rfl,rfl,rfl,rfl,rfl,rfl,rfl,rfl,rfl,rfl⟩:=hp.open;refine aeM [] [3] (fn:=Tryz.f29) Tryz.func29 rfl Tryz.ntmps29 rfl<|fun g1 w1 M1=>lb 0<|an rfl<|cg<|an (jS _ _ _ _ _ _ _ _ _ _ _ _ _ _ _ _ _ _ p (hp.keep M1.below) hS) fun um w2 ⟨akb,hb2⟩=>⟨_,_,M1.keep hb2,?_⟩
 have hp2:=hp.keep (M1.keep hb2).below;have hc:=yC ((M1.keep hb2).b 0 rfl);have h9:=hc 9 _ rfl;clear M1;refine lq (ι:=Nat×Value) (fun(m,u)=>[(3,u),(5,.int .i64 (m:Int))]) (fun(m,u)=>[⟨u,3,1,(iE p m).length,ints (iE p m)⟩]) (fun(m,u) w=>m≤p.rules.length) (fun(m,u)=>p.rules.length-m) (0,.slice none 0 0) (an ⟨⟨rfl,rfl,trivial⟩,fun M=>⟨M.bM 3 1,axV _⟩⟩ ?_);rintro⟨m,u⟩ w M hm;refine lc<|an (axZ M.below h9)<|an (fun h=>?_) fun h=>?_
 ·have hlt:m<p.rules.length:=by simp at h;omega
  have hl:=Jq p m;obtain⟨ua,uc,rfl⟩:=M.form 0 rfl;have hrow:∀ w' bs rs,aW w2.heap.size w2 w' bs (⟨.slice ua (iE p m).length uc,3,1,(iE p m).length,ints (iE p m)⟩::rs)→SliceAt w' (.slice ua (iE p m).length uc) 1 (iE p m).length (ints (iE p m)):=fun _ _ _ M=>SliceAt.bC (M.r 0 rfl) (uW _)
  have hbd:0+(iE p m).length≤maxLen∧(0+(iE p m).length)*8≤140737488355328:=⟨by unfold maxLen;omega,by omega⟩
  refine sp [0,2,4,9] aii [] (by kernel_rfl)<|lc<|an (fun u hb=>dH hb hc)<|fun w3 sG M3=>an
   (fun g2 w4 M4=>an rfl<|an
    (ap 0 (fun M=>M.vg (k:=1)) rfl (hrow _ _ _ M4) hbd fun va w5 M5=>an rfl<|fun g4 w6 M6=>an rfl<|?_)
    (fun g4 w5 M5=>an rfl<|ap 0 (fun M=>(aW.swap M).vg (k:=1)) rfl (hrow _ _ _ M5) hbd fun va w6 M6=>an rfl<|?_))
   (fun g4 w4 M4=>an rfl<|fun g2 w5 M5=>an rfl<|ap 0 (fun M=>M.vg (k:=1)) rfl (hrow _ _ _ M5) hbd fun va w6 M6=>an rfl<|?_)
  all_goals
   refine Ii 0 id rfl (M6.slice 0 rfl (k:=1) (n:=1) rfl rfl (by simp[maxLen])) ⟨by unfold maxLen;omega,by omega⟩ fun va2 vc2 w7 M7=>an rfl<|cg<|an (su w7 _ _ _ _ _ _ _ _ _ _ _ _ _ _ _ _ _ p (hp2.keep M7.below) (by omega) _ (LU (iE p m++[m])) ?_) fun vq w8 hQ=>?_
   ·rw[Ut,show(LU (iE p m++[m])).length=0+(iE p m).length+1 by simp[LU],← rK];exact SliceAt.bC (M7.r 0 rfl) (by have:=uW (iE p m++[m]);rw[← rK] at this;exact this)
   ·obtain⟨⟨d0,d1,d2,d3,d4,d5,d6,d7,d8,d9,sQ,sP,sO,sM,sK,sJ,sI,rfl,hq⟩,R9⟩:=hQ;refine⟨_,_,M7.keep R9,an rfl<|cg<|an (jS _ _ _ _ _ _ _ _ _ _ _ _ _ _ _ _ _ _ _ hq (hS.wo _)) fun um2 w9 hM2=>?_⟩;obtain⟨hM2,hb9⟩:=hM2;refine⟨_,_,(M7.keep R9).keep hb9,an rfl<|cl<|an (mO _ _ _ _ _ hM2 (akb.keep ((M7.keep R9).keep hb9).below)) fun rz nI=>an rfl<|an (fun hd=>?_) fun hd=>?_⟩
    ·have e1:iE p (m+1)=iE p m++[m]:=by rw[iE,if_pos (of_decide_eq_true hd)]
     exact fun g6 Dp M11=>Ii 1 id rfl (M11.slice 0 rfl (k:=1) (n:=1) rfl rfl (by simp[maxLen])) ⟨by unfold maxLen;omega,by omega⟩ fun xa xc Ie EW=>an (by omega)<|bk (m+1,.slice xa ((iE p m).length+1) xc) ⟨rfl,rfl,trivial⟩ (fun M=>⟨(M.only (List.nil_sublist _) (.cons _ (.refl _))).cast rfl (by dsimp only;rw[e1,← rK,ax0];rfl),by dsimp only;omega⟩) (by dsimp only;omega)
    ·have e1:iE p (m+1)=iE p m:=by rw[iE,if_neg (of_decide_eq_false hd)]
     exact an (by omega)<|bk (m+1,.slice ua (iE p m).length uc) ⟨rfl,rfl,trivial⟩ (fun M=>⟨(M.only (List.nil_sublist _) (.cons _ (.refl _))).cast rfl (by dsimp only;rw[e1]),by dsimp only;omega⟩) (by dsimp only;omega)
 ·obtain rfl:m=p.rules.length:=by simp at h;omega
  exact fun M=>⟨_,rfl,M.r 0 rfl,M.below⟩
def Xz(l:List Int):Value→World→Prop:=fun v w=>SliceAt w v 1 l.length (l.flatMap anyI)
theorem Nc(l:List Int):eC (Xz l):=fun _ _ _ h hb=>h.keep hb
theorem Jl(w0:World)(c0 c1 c2 c3 c4 c5 c6 c7 c8 c9 aR aO aN aQ aM aL aP:Value)(p:aF)(hp:aK w0 c0 c1 c2 c3 c4 c5 c6 c7 c8 c9 aR aO aN aQ aM aL aP p)(hop:p.Ok)(lv:Value)(o:List Int)(hlv:SliceAt w0 lv 1 o.length (o.flatMap anyI)):Calls Tryz.prog 6 #[.agg #[c0,c1,c2,c3,c4,c5,c6,c7,c8,c9,aR,aO,aN,aQ,aM,aL,aP],lv] w0 fun r w'=>r=.returned (.bool true)∧axO w0.heap.size w0 w':=by
 obtain⟨la,lk,rfl,-⟩:=SliceAt.form hlv (by decide);refine dD [] (fn:=Tryz.f6) Tryz.func6 rfl Tryz.ntmps6 rfl<|fun g1 w1 M1=>lb 0<|an rfl<|cg<|an (F7 _ _ _ _ _ _ _ _ _ _ _ _ _ _ _ _ _ _ p (hp.keep M1.below) hop) fun v w2 hR=>?_
 obtain⟨⟨b,rfl,hb⟩,hB⟩:=hR;have M2:=M1.keep hB;refine⟨_,_,M2,an (fun h=>cl<|an (jL _) fun w M=>fun M=>⟨rfl,M.below⟩) fun h=>?_⟩;have fp:=hb (by cases b<;>simp_all);obtain⟨tp,sp⟩:=CG fp hop;have sm:=NQ fp;have zp:=fp.small.sizes;have eR:iE p p.rules.length=j8 p:=O_ tp _ (Nat.le_refl _);have r24:∀ w,aK w c0 c1 c2 c3 c4 c5 c6 c7 c8 c9 aR aO aN aQ aM aL aP p→Calls Tryz.prog 29 #[.agg #[c0,c1,c2,c3,c4,c5,c6,c7,c8,c9,aR,aO,aN,aQ,aM,aL,aP]] w fun r w'=>∃ v,r=.returned v∧(Xz (eM p) v w'∧axO w.heap.size w w'):=fun w h=>(Rg w _ _ _ _ _ _ _ _ _ _ _ _ _ _ _ _ _ p h sp (ax1 zp.rules (by decide))).mono fun _ _ ⟨v,e,h1,h2⟩=>⟨v,e,by rw[eR] at h1;exact wT h1,h2⟩
 have hq:=abg (WB fp hop) (eM p);have tq:=tp.wo (eM p);have sq:=sp.wo (eM p);have hS:Ec p (mK p (eM p))=true:=QZ tp;have hE:j8 (mK p (eM p))=[]:=Rf tp;have zq:(mK p (eM p)).rules.length≤900:=ax1 (wF _) (ax1 zp.rules (by decide));have zqt:(mK p (eM p)).trans.length≤1000:=ax1 zp.trans (by decide);have zqc:(mK p (eM p)).conds.length≤1000:=ax1 zp.conds (by decide);refine lb 0<|an rfl<|cw M2 (jR _ _ _ _ _ _ _ _ _ _ _ _ _ _ _ _ _ _ p (hp.keep M2.below) hop (ax1 fp.bools (by decide)) (ax1 zp.conds (by decide)) (ax1 zp.rules (by decide))) fun u w3 M3=>?_
 obtain⟨ua,uc,rfl,-⟩:=M3.shape 0 rfl;have gn:∀ w bs rs,aW w0.heap.size w0 w bs (⟨.slice ua (j8 p).length uc,3,1,(j8 p).length,ints (j8 p)⟩::rs)→SliceAt w (.slice ua (j8 p).length uc) 1 (eM p).length ((eM p).flatMap anyI):=fun w bs rs M=>wT (M.r 0 rfl)
 refine dr (by kernel_rfl)<|lb 0<|an rfl<|cr (Xz (eM p))<|an (Nc _)<|an (fun w' hb' M'=>r24 w' (hp.keep M'.below))<|cu<|an (fun u _ w' hb' M' hR=>Ci w' _ _ (eM p) (eM p) (gn _ _ _ M') hR)<|lb 0<|an (fun _=>rfl)<|cr (vN (mK p o))<|an (oQ _)<|an (fun _ w' hb' M'=>(pY w' _ _ _ _ _ _ _ _ _ _ _ _ _ _ _ _ _ p (hp.keep M'.below) hop sm _ o (hlv.keep M'.below)).mono fun _ _ ⟨v,e,h1,h2⟩=>⟨v,e,h1.o,h2⟩)<|
  lb 0<|an (fun _=>rfl)<|cr (vN (mK p o))<|an (oQ _)<|an (fun _ w' hb' M'=>su w' _ _ _ _ _ _ _ _ _ _ _ _ _ _ _ _ _ p (hp.keep M'.below) (ax1 zp.rules (by decide)) _ o (hlv.keep M'.below))<|
  cu<|an (fun u1 u2 h w' hb' M' hR=>vN.same (hR.1 h) (hR.2 h)) fun w4 hb4 M4=>?_
 refine an (fun h5=>?_) fun h5=>?_
 ·exfalso;rw[kR] at h5;simp at h5
 refine lb 0<|an rfl<|cg<|an (pY _ _ _ _ _ _ _ _ _ _ _ _ _ _ _ _ _ _ p (hp.keep M4.below) hop sm _ (eM p) (gn _ _ _ M4)) fun v w6 hQ=>?_
 obtain⟨⟨x0,n0,x1,n1,x2,n2,x3,n3,x4,n4,x5,n5,x6,n6,x7,n7,x8,n8,x9,n9,x10,n10,pH,n11,pG,n12,IE,n13,IC,n14,IB,n15,Iz,n16,T,rfl,hT,hQ⟩,Zo⟩:=hQ;refine⟨_,_,M4.eA Zo hT,ei<|an lJ fun g2 w7 M7=>lb 0<|an ⟨rfl,rfl⟩ fun w8 M8=>?_⟩;refine lb 1<|an rfl<|lb 0<|an rfl<|cl<|an (Bq _ _ _ _ _ _ _ _ _ _ _ _ _ _ _ _ _ _ _ _ _ _ _ _ _ _ _ _ _ _ _ _ _ _ _ p (mK p (eM p)) (hp.keep M8.below) (hQ _ _ M8.dW.right) sp sq (ax1 zp.trans (by decide)) zqt (fun y hy=>(hop.trans y hy).cond) (fun y hy=>(hop.trans y hy).cond)) fun w9 M9=>?_
 refine lb 0<|an (fun _=>rfl)<|cg (R:=fun v w'=>(∃ a c,v=.slice a 0 c)∧axO w9.heap.size w9 w')<|an (fun _=>?_)<|an (fun _=>⟨_,⟨none,0,rfl⟩,axO.refl _ _⟩) fun v rz hR=>?_
 ·refine(jR _ _ _ _ _ _ _ _ _ _ _ _ _ _ _ _ _ _ (mK p (eM p)) (hQ _ _ M9.dW.right) hq.ok hq.bools zqc zq).mono ?_;rintro _ _ ⟨v,e,h1,h2⟩;rw[hE] at h1;obtain⟨a,c,rfl,-⟩:=fB h1;exact⟨_,e,⟨_,_,rfl⟩,h2⟩
 obtain⟨⟨a,c,rfl⟩,xJ⟩:=hR;refine⟨_,_,M9.keep xJ,cl<|an (fun _=>jL _) fun Dp M11=>fun M=>⟨?_,M.below⟩⟩;rw[hS];rfl
end Go.Proofs.YtdcofoaihmongaaGreat

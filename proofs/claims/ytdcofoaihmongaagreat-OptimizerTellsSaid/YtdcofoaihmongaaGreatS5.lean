import Derived.Ground.Names2Prog
import Derived.Laws.Bits64b
import Derived.Shelf.Slices.CompactS
import Derived.Shelf.Slices.In.SortNone
import Derived.Shelf.Sort.Plain
import Derived.Sort.OwnSorted
import Derived.Test.YtdcofoaihmongaaGreatS4
open Bool renaming and_eq_true→at6
open Go renaming wp_seq_k→auc,wpList_nil→aud,wp_block→aue,wp_cond_split→auf,wp_cond_false→auh
open Go.RowKit renaming Below→atZ
open List renaming length_map→atV,mem_cons→atX,mem_map→atY,getElem?_map→at0,getElem?_eq_getElem→at1,mem_of_getElem?→at2,mem_cons_self→at3,mem_cons_of_mem→at4,mem_append→at7,filterMap_append→at8,length_append→aua,flatMap_append→aub,getElem?_eq_some_iff→aug,mem_singleton→auj
open Nat renaming zero_le→atW,le_trans→at9,lt_of_lt_of_le→aui
open Option.some renaming inj→at5
set_option maxRecDepth 100000
set_option maxHeartbeats 8000000
namespace Go.Proofs.YtdcofoaihmongaaGreat
open Go Go.RowKit
def lC(p:aG):aG:={ p with rules:=[],conds:=[],trans:=[] }
def mQ(N:List ((bJ×Int)×Nat)):List bJ:=N.map fun z=>z.1.1
theorem Gg{w:World}{v:Value}{N:List ((bJ×Int)×Nat)}(h:SliceAt w v 13 N.length (N.flatMap Cn)):SliceAt w v 13 (mQ N).length ((mQ N).flatMap bJ.cells):=by
 unfold mQ;rw[atV,List.flatMap_map];exact h
theorem cH.low{α:Type}{w:World}{b:Nat}{N:List ((α×Int)×Nat)}(h:cH w b N):cH w 0 N:=fun z hz=>⟨(h z hz).1,atW _⟩
theorem Cm(N:List ((bJ×Int)×Nat)):∀ u∈N.flatMap Cn,u.oneCell'=true:=fun u hu=>by
 obtain⟨z,-,hz⟩:=List.mem_flatMap.1 hu;simp only[Cn,bJ.cells,atX,List.not_mem_nil,or_false] at hz;rcases hz with rfl|rfl|rfl|rfl|rfl|rfl|rfl|rfl|rfl|rfl|rfl|rfl|rfl<;>rfl
def gY(p:aG):List (ak×Int):=p.rules.map fun y=>(y,dM (aY p.bools.length) p.bools.length p.conds (Ed y))
theorem gE.low{w:World}{b:Nat}{v:Value}{l:List (ak×Int)}(h:gE w b v l):gE w 0 v l:=by
 obtain⟨es,h1,h2,h3,h4⟩:=h
 exact⟨es,h1,h2,h3,fun i x y hx hy=>by
  obtain⟨v,e,hs⟩:=h4 i x y hx hy;exact⟨v,e,hs.low (atW _)⟩⟩
theorem DL{p:aG}(h:p.rules.length≤1000):(gY p).length≤1000:=by unfold gY;rw[atV];exact h
theorem Mv{p:aG}(h:p.Ok):∀ y∈gY p,y.1.Ok:=fun y hy=>by
 obtain⟨r,hr,rfl⟩:=atY.1 hy;exact⟨(h.rules r hr).src,(h.rules r hr).tgt⟩
theorem CD(w0:World)(c0 c1 c2 c3 c4 c5 c6 c7 c8 c9 aW aP aO aU aT aS aR:Value)(p:aG)(hp:aL w0 c0 c1 c2 c3 c4 c5 c6 c7 c8 c9 aW aP aO aU aT aS aR p)(hok:p.Ok)(hn:p.bools.length≤5)(hcl:p.conds.length≤1000)(hcr:p.rules.length≤1000):Calls Tryz.prog 78 #[.agg #[c0,c1,c2,c3,c4,c5,c6,c7,c8,c9,aW,aP,aO,aU,aT,aS,aR]] w0 fun e w'=>∃ v,e=.returned v∧(gE w' 0 v (gY p)∧atZ w0.heap.size w0 w'):=
 (zY w0 c0 c1 c2 c3 c4 c5 c6 c7 c8 c9 aW aP aO aU aT aS aR p hp hok hn hcl (by omega)).mono fun _ _ ⟨v,e,⟨N,hN,ho,hs⟩,hb⟩=>⟨v,e,(by have h:=(KH ho rfl hs).low;rw[hN] at h;exact h),hb⟩
def Cj(p:aG):List (bJ×Int):=p.trans.filterMap (xU (aY p.bools.length) p.bools.length p.conds)
def Cp{α:Type}(x y:α×Int):Bool:=decide ([x.2]=[y.2])
def pq(p q:aG):Bool:=eO (lC p) (lC q)&&((decide ((Cj p).map (·.1)=(Cj q).map (·.1))&&aq Cp (Cj p) (Cj q))&&(qI (gY p) (gY q)&&qI (gY q) (gY p)))
theorem xE{α β:Type}{f:α→β}{P:β→β→Bool}{P':α→α→Bool}(h:∀ x y,P' x y=P (f x) (f y)):∀ l m:List α,aq P' l m=aq P (l.map f) (m.map f)
 | [],[]=>rfl
 | [],_::_=>rfl
 | _::_,[]=>rfl
 | x::l,y::m=>by
  show(P' x y&&aq P' l m)=(P (f x) (f y)&&aq P (l.map f) (m.map f));rw[h,xE h l m]
section
variable {p q:aG} {Np Nq:List ((bJ×Int)×Nat)}
theorem YK(h:eO (lC p) (lC q)=false):false=pq p q:=by unfold pq;rw[h];rfl
theorem Rs(hp:Np.map (·.1)=Cj p)(hq:Nq.map (·.1)=Cj q):(decide (mQ Np=mQ Nq)&&aq mT Np Nq)=(decide ((Cj p).map (·.1)=(Cj q).map (·.1))&&aq Cp (Cj p) (Cj q)):=by
 rw[show aq mT Np Nq=aq Cp (Np.map (·.1)) (Nq.map (·.1)) from xE (f:=fun z:(bJ×Int)×Nat=>z.1) (P:=Cp) (P':=mT) (fun x y=>rfl) Np Nq,hp,hq];have e:∀ N:List ((bJ×Int)×Nat),mQ N=(N.map (·.1)).map (·.1):=fun N=>by unfold mQ;rw[List.map_map];rfl
 rw[e,e,hp,hq]
theorem YJ(hp:Np.map (·.1)=Cj p)(hq:Nq.map (·.1)=Cj q)(h:((!(decide (mQ Np=mQ Nq)))||(!(aq mT Np Nq)))=true):false=pq p q:=by
 rw[← Bool.not_and,Bool.not_eq_true',Rs hp hq] at h;unfold pq;rw[h,Bool.false_and,Bool.and_false]
theorem YI(hp:Np.map (·.1)=Cj p)(hq:Nq.map (·.1)=Cj q)(h1:eO (lC p) (lC q)=true)(h:((!(decide (mQ Np=mQ Nq)))||(!(aq mT Np Nq)))=false):(qI (gY p) (gY q)&&qI (gY q) (gY p))=pq p q:=by
 rw[← Bool.not_and,Bool.not_eq_false',Rs hp hq] at h;unfold pq;rw[h,h1,Bool.true_and,Bool.true_and]
end
theorem za{w:World}{c0 c1 c2 c3 c4 c5 c6 c7 c8 c9 aW aP aO aU aT aS aR:Value}{p:aG}(h:aL w c0 c1 c2 c3 c4 c5 c6 c7 c8 c9 aW aP aO aU aT aS aR p):aL w c0 c1 c2 c3 c4 c5 c6 c7 (.slice none 0 0) (.slice none 0 0) (.slice none 0 0) aP aO aU aT aS aR (lC p):=
 { h with conds:=⟨[],rfl,by simp,SliceAt.nil _ _,by simp⟩,rules:=SliceAt.nil _ _,trans:=SliceAt.nil _ _ }
theorem zI(w0:World)(c0 c1 c2 c3 c4 c5 c6 c7 c8 c9 aW aP aO aU aT aS aR d0 d1 d2 d3 d4 d5 d6 d7 d8 d9 ru q_ q8 q7 q6 q5 qZ:Value)(p q:aG)(hp:aL w0 c0 c1 c2 c3 c4 c5 c6 c7 c8 c9 aW aP aO aU aT aS aR p)(hq:aL w0 d0 d1 d2 d3 d4 d5 d6 d7 d8 d9 ru q_ q8 q7 q6 q5 qZ q)(V7:p.Ok)(Po:q.Ok)(hnp:p.bools.length≤5)(adI:p.conds.length≤1000)(ag5:p.trans.length≤4096)(hnq:q.bools.length≤5)(adH:q.conds.length≤1000)(ag4:q.trans.length≤4096)(ZG:p.rules.length≤1000)(ZF:q.rules.length≤1000):Calls Tryz.prog 26 #[.agg #[c0,c1,c2,c3,c4,c5,c6,c7,c8,c9,aW,aP,aO,aU,aT,aS,aR],.agg #[d0,d1,d2,d3,d4,d5,d6,d7,d8,d9,ru,q_,q8,q7,q6,q5,qZ]] w0 (fun(r:Ending) (w':World)=>r=.returned (.bool (pq p q))∧atZ w0.heap.size w0 w'):=by
 obtain⟨_,_,_,_,_,_,_,_,_,_,_,_,_,_,_,_,_,_,_,_,_,_,_,_,_,_,_,_,_,_,_,_,_,_,rfl,rfl,rfl,rfl,rfl,rfl,rfl,rfl,rfl,rfl,rfl,rfl,rfl,rfl,rfl,rfl,rfl⟩:=hp.open;obtain⟨_,_,_,_,_,_,_,_,_,_,_,_,_,_,_,_,_,_,_,_,_,_,_,_,_,_,_,_,_,_,_,_,_,_,rfl,rfl,rfl,rfl,rfl,rfl,rfl,rfl,rfl,rfl,rfl,rfl,rfl,rfl,rfl,rfl,rfl⟩:=hq.open;refine fL [] (fn:=Tryz.f26) Tryz.func26 rfl Tryz.ntmps26 rfl<|fun g1 w1 M1=>fun g2 w2 M2=>dp (by kernel_rfl)<|lb 1<|an rfl<|lb 0<|an rfl<|ei<|ei<|an ⟨oI,oI⟩<|an ⟨rfl,rfl⟩ fun g3 g4 w3 Pw M3=>?_
 refine lb 0<|an ⟨rfl,rfl⟩ fun w4 M4=>lb 0<|an ⟨rfl,rfl⟩ fun w5 M5=>lb 0<|an ⟨rfl,rfl⟩ fun w6 M6=>lb 1<|an ⟨rfl,rfl⟩ fun w7 M7=>lb 1<|an ⟨rfl,rfl⟩ fun w8 M8=>lb 1<|an ⟨rfl,rfl⟩ fun w9 M9=>lb 0<|an rfl<|lb 1<|an rfl<|cl<|an (Eh _ _ _ _ _ _ _ _ _ _ _ _ _ _ _ _ _ _ _ _ _ _ _ _ _ _ _ _ _ _ _ _ _ _ _ (lC p) (lC q) (za (hp.keep M9.below)) (za (hq.keep M9.below))) fun xR sA=>an (fun h1 M=>⟨rb (YK (by simpa using h1)).symm,M.below⟩) fun h1=>?_
 refine lb 3<|an rfl<|cf sA (oq _ _ _ _ _ _ _ _ _ _ _ _ _ _ _ _ _ _ p (hp.keep sA.below) V7 hnp adI ag5) fun _ JJ ⟨tp,up,Np,hv,adT,hop,hwp,hNp⟩ SQ M11=>?_
 subst hv;refine lb 2<|an rfl<|cf M11 (oq _ _ _ _ _ _ _ _ _ _ _ _ _ _ _ _ _ _ q (hq.keep M11.below) Po hnq adH ag4) fun _ Mg ⟨tq,uq,Nq,hv,adS,hoq,hwq,hNq⟩ H6 Jg=>?_
 subst hv;refine cb Jg (w_ _ _ _ (mQ Np) (mQ Nq) (Gg ((SliceAt.bM hop (Cm Np)).keep H6)) (Gg (SliceAt.bM hoq (Cm Nq)))) fun N_ Wl zh=>cl<|an (fun _=>Ei _ 0 _ _ Np Nq ((SliceAt.bM hwp (Ce Np)).keep (H6.trans (Wl.mono H6.size))) ((SliceAt.bM hwq (Ce Nq)).keep Wl) (hNp.keep (H6.trans (Wl.mono H6.size))).low (hNq.keep Wl).low) fun Ut Jf=>an (fun h2 M=>⟨rb (YJ adT adS h2).symm,M.below⟩) fun h2=>?_
 refine dr (by kernel_rfl)<|lb 3<|an rfl<|cr (fun u w=>gE w 0 u (gY p))<|an (fun _ _ _ h hb=>h.keep hb)<|an (fun w' hb' M'=>CD _ _ _ _ _ _ _ _ _ _ _ _ _ _ _ _ _ _ p (hp.keep M'.below) V7 hnp adI ZG)<|lb 2<|an rfl<|cr (fun u w=>gE w 0 u (gY q))<|an (fun _ _ _ h hb=>h.keep hb)<|an (fun w' hb' M'=>CD _ _ _ _ _ _ _ _ _ _ _ _ _ _ _ _ _ _ q (hq.keep M'.below) Po hnq adH ZF)<|mva (R:=fun u w=>gE w 0 u (gY p)) (fun _ _ _ h hb=>h.keep hb)<|mva (R:=fun u w=>gE w 0 u (gY q)) (fun _ _ _ h hb=>h.keep hb)<|fun u1 u2 N9 hR anN FK=>?_
 have hLp:gE N9 0 u2 (gY p):=hR.1;have hLq:gE N9 0 u1 (gY q):=hR.2;exact cb FK (tM _ 0 _ (gY q) hLq (DL ZF) (Mv Po) _ (gY p) hLp (DL ZG) (Mv V7)) fun Xb adL LO=>cl<|an (fun _=>tM _ 0 _ (gY p) (hLp.keep adL) (DL ZG) (Mv V7) _ (gY q) (hLq.keep adL) (DL ZF) (Mv Po)) fun Xa W4 M=>⟨rb (YI adT adS (by simpa using h1) h2).symm,M.below⟩
theorem CH(l:List (List Int)):eN (fun u w=>qh w u l):=fun _ _ _ h hb=>h.keep hb
def Ms(p q:aG):Bool:=(eO (lC p) (lC q)&&decide (kX p=kX q))&&decide (gV p=gV q)
theorem J5(w0:World)(c0 c1 c2 c3 c4 c5 c6 c7 c8 c9 aW aP aO aU aT aS aR d0 d1 d2 d3 d4 d5 d6 d7 d8 d9 ru q_ q8 q7 q6 q5 qZ:Value)(p q:aG)(hp:aL w0 c0 c1 c2 c3 c4 c5 c6 c7 c8 c9 aW aP aO aU aT aS aR p)(hq:aL w0 d0 d1 d2 d3 d4 d5 d6 d7 d8 d9 ru q_ q8 q7 q6 q5 qZ q)(hS:LN p)(hS':LN q)(ht:p.trans.length≤1000)(ht':q.trans.length≤1000)(hk:∀ y∈p.trans,jq y.cond)(hk':∀ y∈q.trans,jq y.cond):
 Calls Tryz.prog 25 #[.agg #[c0,c1,c2,c3,c4,c5,c6,c7,c8,c9,aW,aP,aO,aU,aT,aS,aR],.agg #[d0,d1,d2,d3,d4,d5,d6,d7,d8,d9,ru,q_,q8,q7,q6,q5,qZ]] w0 fun r w'=>r=.returned (.bool (Ms p q))∧atZ w0.heap.size w0 w':=by
 obtain⟨_,_,_,_,_,_,_,_,_,_,_,_,_,_,_,_,_,_,_,_,_,_,_,_,_,_,_,_,_,_,_,_,_,_,rfl,rfl,rfl,rfl,rfl,rfl,rfl,rfl,rfl,rfl,rfl,rfl,rfl,rfl,rfl,rfl,rfl⟩:=hp.open;obtain⟨_,_,_,_,_,_,_,_,_,_,_,_,_,_,_,_,_,_,_,_,_,_,_,_,_,_,_,_,_,_,_,_,_,_,rfl,rfl,rfl,rfl,rfl,rfl,rfl,rfl,rfl,rfl,rfl,rfl,rfl,rfl,rfl,rfl,rfl⟩:=hq.open;refine fL [] (fn:=Tryz.f25) Tryz.func25 rfl Tryz.ntmps25 rfl fun g1 w1 M1=>fun g2 w2 M2=>dp (by kernel_rfl)<|lb 1<|an rfl<|lb 0<|an rfl<|ei<|ei<|an ⟨oI,oI⟩<|an ⟨rfl,rfl⟩ fun g3 g4 w3 Pw M3=>?_
 refine lb 0<|an ⟨rfl,rfl⟩ fun w4 M4=>lb 0<|an ⟨rfl,rfl⟩ fun w5 M5=>lb 0<|an ⟨rfl,rfl⟩ fun w6 M6=>lb 1<|an ⟨rfl,rfl⟩ fun w7 M7=>lb 1<|an ⟨rfl,rfl⟩ fun w8 M8=>lb 1<|an ⟨rfl,rfl⟩ fun w9 M9=>?_
 refine dr (by kernel_rfl)<|lb 0<|an rfl<|lb 1<|an rfl<|cl<|an (fun w' hb' M'=>vu _ _ _ _ _ _ _ _ _ _ _ _ _ _ _ _ _ _ _ _ _ _ _ _ _ _ _ _ _ _ _ _ _ _ _ (lC p) (lC q) (za (hp.keep M'.below)) (za (hq.keep M'.below)))<|lb 3<|an (fun _=>rfl)<|cr (fun u w=>qh w u (kX p))<|an (CH _)<|an (fun _ w' hb' M'=>qV _ _ _ _ _ _ _ _ _ _ _ _ _ _ _ _ _ _ p (hp.keep M'.below) hS)<|lb 2<|an (fun _=>rfl)<|cr (fun u w=>qh w u (kX q))<|an (CH _)<|an (fun _ w' hb' M'=>qV _ _ _ _ _ _ _ _ _ _ _ _ _ _ _ _ _ _ q (hq.keep M'.below) hS')<|cu<|an (fun u1 u2 h w' hb' M' hR=>sV _ _ _ (kX p) (kX q) (hR.1 h) (hR.2 h))<|lb 3<|an (fun _=>rfl)<|lb 2<|an (fun _=>rfl)<|cl<|an (fun _ w' hb' M'=>xV _ _ _ _ _ _ _ _ _ _ _ _ _ _ _ _ _ _ _ _ _ _ _ _ _ _ _ _ _ _ _ _ _ _ _ p q (hp.keep M'.below) (hq.keep M'.below) hS hS' ht ht' hk hk') fun xR SR M=>?_
 exact fun M=>⟨rfl,M.below⟩
inductive nw (n:Nat):aA→Prop
 | bool {a rel b:Int} {ns:List ByteArray} {s:au}:0≤a→a<n→nw n (.node 1 a rel b ns s [])
 | not {a rel b:Int} {ns:List ByteArray} {s:au} {k:aA}:nw n k→nw n (.node 2 a rel b ns s [k])
 | bin {op a rel b:Int} {ns:List ByteArray} {s:au} {k l:aA}:3≤op→op≤7→nw n k→nw n l→nw n (.node op a rel b ns s [k,l])
theorem aas{n i:Nat}{a:Int}(h0:0≤a)(h1:a<n):WJ (BP n (rJ n i)) a=i.testBit a.toNat:=by
 have ha:a.toNat<n:=by omega
 unfold WJ BP rJ;rw[decide_eq_true h0,Bool.true_and,at0,List.getElem?_range ha];simp only[Option.map_some,Option.getD_some];unfold WJ;rw[decide_eq_true (Int.natCast_nonneg _),Bool.true_and,Int.toNat_natCast,at0,List.getElem?_range ha];rfl
theorem Ys{n i:Nat}{e:aA}(h:nw n e):gS (BP n (rJ n i)) e=Lr n i e:=by
 induction h with
 | @bool a rel b ns s h0 h1=>
  rw[mO,Ef];show kQ _ 1 a []=Ww n i 1 a []
  have hb:iD n 1 a 0=false:=by
   have:¬ a<0:=by omega
   have h2:¬ (n:Int)≤a:=by omega
   simp[iD,xZ,this,h2]
  unfold kQ Ww;rw[if_pos rfl,List.length_nil,hb,if_neg (by decide),if_pos rfl,aas h0 h1]
 | @not a rel b ns s k hk ih=>
  rw[mO,Ef];show kQ _ 2 a [gS _ k]=Ww n i 2 a [Lr n i k];rw[ih];have hb:iD n 2 a 1=false:=by simp[iD,xZ]
  unfold kQ Ww;simp[hb]
 | @bin op a rel b ns s k l h3 h7 hk hl ihk ihl=>
  rw[mO,Ef];show kQ _ op a [gS _ k,gS _ l]=Ww n i op a [Lr n i k,Lr n i l];rw[ihk,ihl]
  have hb:iD n op a 2=false:=by
   have h1:¬ op=1:=by omega
   have h2:¬ op=2:=by omega
   simp[iD,xZ,h1,h2]
  unfold kQ Ww;have e:op=3∨op=4∨op=5∨op=6∨op=7:=by omega
  generalize Lr n i k=x;generalize Lr n i l=y;rcases e with rfl|rfl|rfl|rfl|rfl<;>simp[hb]<;>cases x<;>cases y<;>rfl
theorem Xm{n i:Nat}{conds:List aA}(hc:∀ e∈conds,nw n e){k:Int}(hk:-(conds.length:Int)≤k∧k≤conds.length):kU n conds (rJ n i) k=Xn n conds k i:=by
 have get:∀ m,m<conds.length→((j8 n conds (rJ n i))[m]?).getD false=match conds[m]? with|some e=>Lr n i e|none=>false:=fun m hm=>by
  obtain⟨e,he⟩:∃ e,conds[m]?=some e:=⟨_,at1 hm⟩;rw[he];unfold j8;rw[at0,he];exact Ys (hc e (at2 he))
 unfold kU Xn;by_cases h1:0<k∧k≤conds.length
 ·rw[if_pos h1,if_pos h1,get _ (by omega)];cases conds[(k-1).toNat]?<;>rfl
 ·rw[if_neg h1,if_neg h1];by_cases h2:k<0∧0-(conds.length:Int)≤k
  ·rw[if_pos h2,if_pos h2,get _ (by omega)];cases conds[(0-k-1).toNat]?<;>rfl
  ·rw[if_neg h2,if_neg h2,decide_eq_true (by omega)]
theorem tS{T C:Nat}{f g:ak→Bool}:∀ (l:List ak) (out:List Int),(∀ r∈l,f r=g r)→fN T C f out l=fN T C g out l
 | [],_,_=>rfl
 | r::l,out,h=>by
  unfold fN;rw[List.foldl_cons,List.foldl_cons,h r (at3 ..)];exact tS l _ fun x hx=>h x (at4 _ hx)
structure rz (p:aG):Prop where
 bools:p.bools.length≤5
 rv:∀ r∈p.rules,RV p.types.length p.classes.length r
 four:∀ r∈p.rules,r.kind=4→r.cond=0
 conds:∀ e∈p.conds,nw p.bools.length e
 NC:∀ r∈p.rules,-(p.conds.length:Int)≤r.cond∧r.cond≤p.conds.length
 NA:∀ y∈p.trans,-(p.conds.length:Int)≤y.cond∧y.cond≤p.conds.length
theorem Ry{p:aG}(h:rz p)(i:Nat):DK p i=dH p.types.length p.classes.length (fun r=>Xn p.bools.length p.conds r.cond i) p.rules:=
 tS _ _ fun r hr=>Xm h.conds (h.NC r hr)
theorem R5{p q:aG}(hp:rz p)(hq:rz q)(hT:p.types.length=q.types.length)(hC:p.classes.length=q.classes.length)(hB:p.bools.length=q.bools.length):kX p=kX q↔(qI (gY p) (gY q)=true∧qI (gY q) (gY p)=true):=by
 have h:=R6 (T:=p.types.length) (C:=p.classes.length) hp.bools (ca:=p.conds) (cb:=q.conds) hp.rv (hT▸hC▸hq.rv) hp.four hq.four;have e1:Xh p.bools.length p.conds p.rules=gY p:=rfl;have e2:Xh p.bools.length q.conds q.rules=gY q:=by rw[hB];rfl
 rw[e1,e2] at h;rw[← h];unfold kX;rw[← hB,List.map_inj_left];refine forall_congr' fun i=>?_
 rw[List.mem_range,Ry hp,Ry hq,← hT,← hC,← hB]
def IQ(n:Nat)(z:bJ×Int):bJ×List Bool:=(z.1,(List.range (2^n)).map fun i=>ib z.2 i)
theorem UY{p:aG}(h:rz p){y:bJ}(hy:y∈p.trans):j7 p y.cond=(List.range (2^p.bools.length)).map fun i=>ib (dM (aY p.bools.length) p.bools.length p.conds y.cond) i:=by
 unfold j7;refine List.map_congr_left fun i hi=>?_
 rw[(wD h.bools p.conds y.cond).2,decide_eq_true (List.mem_range.1 hi),Bool.true_and,Xm h.conds (h.NA y hy)]
theorem I6{n:Nat}(hn:n≤5)(conds:List aA)(k:Int):dM (aY n) n conds k=0↔¬ ((List.range (2^n)).map fun i=>ib (dM (aY n) n conds k) i).any id=true:=by
 obtain⟨hw,hi⟩:=wD hn conds k;rw[D7 hw.1];constructor
 ·intro h;simp[h]
 ·intro h r
  cases hr:ib (dM (aY n) n conds k) r with
  | false=>rfl
  | true=>
   refine absurd (List.any_eq_true.2 ⟨true,atY.2 ⟨r,List.mem_range.2 ?_,hr⟩,rfl⟩) h;have:=hi r;rw[hr] at this;by_cases hlt:r<2^n
   ·exact hlt
   ·rw[decide_eq_false hlt] at this;cases this
theorem Ie{α β:Type}{f g:α→Option β}:∀ (l:List α),(∀ x∈l,f x=g x)→l.filterMap f=l.filterMap g
 | [],_=>rfl
 | x::l,h=>by rw[List.filterMap_cons,List.filterMap_cons,h x (at3 ..),Ie l fun y hy=>h y (at4 _ hy)]
theorem Ck{p:aG}(h:rz p):gV p=(Cj p).map (IQ p.bools.length):=by
 unfold gV Cj;rw[List.map_filterMap];refine Ie _ fun y hy=>?_
 unfold wN xU;rw[UY h hy];by_cases h0:dM (aY p.bools.length) p.bools.length p.conds y.cond=0
 ·rw[if_pos h0,if_neg ((I6 h.bools _ _).1 h0)];rfl
 ·rw[if_neg h0,if_pos (Decidable.not_not.1 fun hh=>h0 ((I6 h.bools _ _).2 hh))];rfl
def Uk(n:Nat)(z:bJ×Int):Prop:=uN z.2∧∀ r,ib z.2 r=true→r<2^n
theorem Xf{p:aG}(h:rz p):∀ z∈Cj p,Uk p.bools.length z:=fun z hz=>by
 unfold Cj at hz;obtain⟨y,hy,e⟩:=List.mem_filterMap.1 hz;unfold xU at e;split at e
 ·cases e
 ·obtain rfl:=at5 e;obtain⟨hw,hi⟩:=wD h.bools p.conds y.cond;refine⟨hw,fun r hr=>?_⟩;have:=hi r;rw[hr] at this;by_cases hlt:r<2^p.bools.length
  ·exact hlt
  ·rw[decide_eq_false hlt] at this;cases this
theorem T4{n:Nat}{x y:bJ×Int}(hx:Uk n x)(hy:Uk n y)(e:IQ n x=IQ n y):x=y:=by
 have e1:x.1=y.1:=by have h:=congrArg Prod.fst e;exact h
 have e2:=List.map_inj_left.1 (congrArg Prod.snd e);refine Prod.ext e1 (KY hx.1.1 hy.1.1 fun r=>?_);by_cases hr:r<2^n
 ·exact e2 r (List.mem_range.2 hr)
 ·cases h1:ib x.2 r with
  | true=>exact absurd (hx.2 r h1) hr
  | false=>
   cases h2:ib y.2 r with
   | true=>exact absurd (hy.2 r h2) hr
   | false=>rfl
theorem G2{n:Nat}:∀ {l m:List (bJ×Int)},(∀ z∈l,Uk n z)→(∀ z∈m,Uk n z)→(l.map (IQ n)=m.map (IQ n)↔l=m)
 | [],[],_,_=>by simp
 | [],_::_,_,_=>by simp
 | _::_,[],_,_=>by simp
 | x::l,y::m,hl,hm=>by
  rw[List.map_cons,List.map_cons,List.cons.injEq,List.cons.injEq,G2 (fun z hz=>hl z (at4 _ hz)) fun z hz=>hm z (at4 _ hz)];exact and_congr_left fun _=>⟨T4 (hl x (at3 ..)) (hm y (at3 ..)),fun e=>by rw[e]⟩
theorem GQ:∀ (l m:List (bJ×Int)),(decide (l.map (·.1)=m.map (·.1))&&aq Cp l m)=decide (l=m)
 | [],[]=>rfl
 | [],_::_=>rfl
 | _::_,[]=>rfl
 | (a,x)::l,(b,y)::m=>by
  have ih:=GQ l m;show(decide (a::l.map (·.1)=b::m.map (·.1))&&(decide ([x]=[y])&&aq Cp l m))=decide ((a,x)::l=(b,y)::m);have h1:decide (a::l.map (·.1)=b::m.map (·.1))=(decide (a=b)&&decide (l.map (·.1)=m.map (·.1))):=by simp
  have h2:decide ((a,x)::l=(b,y)::m)=((decide (a=b)&&decide (x=y))&&decide (l=m)):=by simp[Bool.and_assoc]
  have h3:decide ([x]=[y])=decide (x=y):=by simp
  rw[h1,h2,h3,← ih];cases decide (a=b)<;>cases decide (x=y)<;>cases decide (l.map (·.1)=m.map (·.1))<;>simp
theorem YD{p q:aG}(h:eO p q=true):p.types.length=q.types.length∧p.classes.length=q.classes.length∧p.bools.length=q.bools.length:=by
 unfold eO i_ at h;simp only[at6,decide_eq_true_eq] at h;obtain⟨⟨⟨⟨⟨⟨⟨⟨⟨h1,-⟩,-⟩,-⟩,-⟩,-⟩,-⟩,-⟩,-⟩,-⟩:=h;obtain⟨⟨⟨⟨⟨⟨⟨hC,hT⟩,-⟩,-⟩,-⟩,hB⟩,-⟩,-⟩:=h1;exact⟨qE hT,qE hC,by rw[hB]⟩
theorem Cl{p q:aG}(hp:rz p)(hq:rz q):pq p q=Ms p q:=by
 unfold pq Ms
 cases hS:eO (lC p) (lC q) with
 | false=>rfl
 | true=>
  obtain⟨hT,hC,hB⟩:=YD hS;have hm:=R5 hp hq hT hC hB
  have ht:decide (gV p=gV q)=decide (Cj p=Cj q):=by
   rw[Ck hp,Ck hq,← (show p.bools.length=q.bools.length from hB)];exact decide_eq_decide.2 (G2 (Xf hp) (by rw[show p.bools.length=q.bools.length from hB];exact Xf hq))
  have hd:decide (kX p=kX q)=(qI (gY p) (gY q)&&qI (gY q) (gY p)):=by
   rw[Bool.eq_iff_iff,decide_eq_true_iff,hm,at6]
  rw[GQ,ht,hd,Bool.true_and,Bool.true_and,Bool.and_comm]
end Go.Proofs.YtdcofoaihmongaaGreat
namespace Go.Proofs.YtdcofoaihmongaaGreat
section
variable {α:Type} (J:α→α→Option α)
def jy(a:α):List α→Option (α×List α)
 | []=>none
 | b::r=>match J a b with
  | some c=>some (c,r)
  | none=>(jy a r).map fun z=>(z.1,b::z.2)
def iq:List α→Option (List α)
 | []=>none
 | a::r=>match jy J a r with
  | some z=>some (z.1::z.2)
  | none=>(iq r).map (a::·)
def nfN:Nat→List α→List α
 | 0,l=>l
 | n+1,l=>match iq J l with
  | some l'=>nfN n l'
  | none=>l
def G0(l:List α):List α:=nfN J l.length l
theorem Au{a:α}:∀ {l:List α} {z:α×List α},jy J a l=some z→z.2.length+1=l.length
 | [],_,h=>by cases h
 | b::r,z,h=>by
  unfold jy at h
  cases e:J a b with
  | some c=>rw[e] at h;obtain rfl:=at5 h;rfl
  | none=>
   rw[e] at h
   cases e2:jy J a r with
   | none=>rw[e2] at h;cases h
   | some y=>rw[e2] at h;obtain rfl:=at5 h;have:=Au e2;simp;omega
theorem qw:∀ {l l':List α},iq J l=some l'→l'.length+1=l.length
 | [],_,h=>by cases h
 | a::r,l',h=>by
  unfold iq at h
  cases e:jy J a r with
  | some z=>rw[e] at h;obtain rfl:=at5 h;have:=Au J e;simp;omega
  | none=>
   rw[e] at h
   cases e2:iq J r with
   | none=>rw[e2] at h;cases h
   | some y=>rw[e2] at h;obtain rfl:=at5 h;have:=qw e2;simp;omega
theorem GZ{l l':List α}(h:iq J l=some l'):G0 J l=G0 J l':=by
 unfold G0;have:=qw J h;rw[← this,nfN,h]
theorem RX{l:List α}(h:iq J l=none):G0 J l=l:=by
 unfold G0
 cases l with
 | nil=>rfl
 | cons a r=>rw[List.length_cons,nfN,h]
def FJ:List α→List α→Prop
 | [],_=>True
 | x::p,r=>(∀ y∈p++r,J x y=none)∧FJ p r
theorem pU{a:α}:∀ {l:List α},(∀ y∈l,J a y=none)→jy J a l=none
 | [],_=>rfl
 | b::r,h=>by unfold jy;rw[h b (by simp),pU fun y hy=>h y (by simp[hy])];rfl
theorem CU{a b c:α}:∀ {l r:List α},(∀ y∈l,J a y=none)→J a b=some c→jy J a (l++b::r)=some (c,l++r)
 | [],r,_,h=>by show jy J a (b::r)=_;unfold jy;rw[h];rfl
 | x::l,r,hl,h=>by
  show jy J a (x::(l++b::r))=_;unfold jy;rw[hl x (by simp),CU (fun y hy=>hl y (by simp[hy])) h];rfl
theorem Cz:∀ {p r:List α},FJ J p r→iq J (p++r)=(iq J r).map (p++·)
 | [],r,_=>by cases h:iq J r<;>simp[h]
 | x::p,r,h=>by
  show iq J (x::(p++r))=_
  have e:iq J (x::(p++r))=(iq J (p++r)).map (x::·):=by
   rw[iq,pU J h.1]
  rw[e,Cz h.2];cases iq J r<;>rfl
theorem GX:∀ {p:List α},FJ J p []→iq J p=none
 | [],_=>rfl
 | x::p,h=>by unfold iq;rw[pU J (by simpa using h.1),GX h.2];rfl
theorem RP{p m r:List α}{a b c:α}(hp:FJ J p (a::(m++b::r)))(hm:∀ y∈m,J a y=none)(h:J a b=some c):iq J (p++a::(m++b::r))=some (p++c::(m++r)):=by
 rw[Cz J hp];unfold iq;rw[CU J hm h];rfl
theorem FJ.append{p q r:List α}(h1:FJ J p (q++r))(h2:FJ J q r):FJ J (p++q) r:=by
 induction p with
 | nil=>exact h2
 | cons x p ih=>exact⟨fun y hy=>h1.1 y (by simpa using hy),ih h1.2⟩
theorem FJ.left{p q r:List α}(h:FJ J (p++q) r):FJ J p (q++r):=by
 induction p with
 | nil=>trivial
 | cons x p ih=>exact⟨fun y hy=>h.1 y (by simpa using hy),ih h.2⟩
theorem FJ.right{p q r:List α}(h:FJ J (p++q) r):FJ J q r:=by
 induction p with
 | nil=>exact h
 | cons x p ih=>exact ih h.2
theorem FJ.mono{p r r':List α}(h:FJ J p r)(hr:∀ y∈r',y∈r):FJ J p r':=by
 induction p with
 | nil=>trivial
 | cons x p ih=>exact⟨fun y hy=>h.1 y (by
  rcases at7.1 hy with hy|hy
  ·exact at7.2 (.inl hy)
  ·exact at7.2 (.inr (hr y hy))),ih h.2⟩
def seg(f:Nat→Option α)(i n:Nat):List α:=(List.range' i (n-i)).filterMap f
theorem yH(f:Nat→Option α){i n:Nat}(h:n≤i):seg f i n=[]:=by unfold seg;rw[Nat.sub_eq_zero_of_le h];rfl
theorem iY(f:Nat→Option α){i n:Nat}(h:i<n):seg f i n=(f i).toList++seg f (i+1) n:=by
 unfold seg;rw[show n-i=(n-(i+1))+1 by omega,List.range'_succ,List.filterMap_cons];cases f i<;>rfl
theorem iI(f:Nat→Option α){i j n:Nat}(h1:i≤j)(h2:j≤n):seg f i n=seg f i j++seg f j n:=by
 unfold seg;have h:=List.range'_append_1 (s:=i) (m:=j-i) (n:=n-j);rw[show i+(j-i)=j by omega,show j-i+(n-j)=n-i by omega] at h;rw[← at8,h]
theorem vq{f g:Nat→Option α}{i n:Nat}(h:∀ k,i≤k→k<n→f k=g k):seg f i n=seg g i n:=by
 unfold seg
 have key:∀ l:List Nat,(∀ k∈l,f k=g k)→l.filterMap f=l.filterMap g:=by
  intro l
  induction l with
  | nil=>intro _;rfl
  | cons x l ih=>intro h;rw[List.filterMap_cons,List.filterMap_cons,h x (by simp),ih fun k hk=>h k (by simp[hk])]
 refine key _ fun k hk=>?_
 rw[List.mem_range'_1] at hk;exact h k hk.1 (by omega)
theorem MQ{f:Nat→Option α}{i n:Nat}{y:α}:y∈seg f i n↔∃ k,i≤k∧k<n∧f k=some y:=by
 unfold seg;rw[List.mem_filterMap];constructor
 ·rintro⟨k,hk,e⟩;rw[List.mem_range'_1] at hk;exact⟨k,hk.1,by omega,e⟩
 ·rintro⟨k,h1,h2,e⟩;exact⟨k,List.mem_range'_1.2 ⟨h1,by omega⟩,e⟩
def NP(f:Nat→Option α)(n i e:Nat):Prop:=∀ h x k y,h<i→f h=some x→h<k→k<n→k≠e→f k=some y→J x y=none
theorem RU{f:Nat→Option α}{n:Nat}:∀ {i s:Nat},s≤i→i≤n→(∀ h x k y,s≤h→h<i→f h=some x→h<k→k<n→f k=some y→J x y=none)→FJ J (seg f s i) (seg f i n):=by
 intro i s hsi hin H;obtain⟨d,hd⟩:∃ d,d=i-s:=⟨_,rfl⟩
 induction d generalizing s with
 | zero=>rw[yH f (by omega)];trivial
 | succ d ih=>
  have hlt:s<i:=by omega
  have h2:=ih (s:=s+1) (by omega) (fun h x k y h1=>H h x k y (by omega)) (by omega);rw[iY f hlt]
  cases e:f s with
  | none=>exact h2
  | some x=>
   refine⟨fun y hy=>?_,h2⟩
   change y∈seg f (s+1) i++seg f i n at hy
   rw[← iI f (by omega) hin] at hy;obtain⟨k,k1,k2,k3⟩:=MQ.1 hy;exact H s x k y (Nat.le_refl _) hlt e (by omega) k2 k3
def jY(f:Nat→Option α)(i:Nat)(v:Option α):Nat→Option α:=fun k=>if k=i then v else f k
theorem qp(f:Nat→Option α)(i:Nat)(v:Option α):jY f i v i=v:=if_pos rfl
theorem fC(f:Nat→Option α){i k:Nat}(v:Option α)(h:k≠i):jY f i v k=f k:=if_neg h
theorem Gy{f:Nat→Option α}{n i k:Nat}{a b c:α}(hi:i<k)(hk:k<n)(ha:f i=some a)(hb:f k=some b)(hc:J a b=some c)
 (hp:NP J f n i n) (hm:∀ j y,i<j→j<k→f j=some y→J a y=none):iq J (seg f 0 n)=some (seg (jY (jY f i (some c)) k none) 0 n):=by
 have e1:seg f 0 n=seg f 0 i++a::(seg f (i+1) k++b::seg f (k+1) n):=by
  rw[iI f (atW i) (by omega:i≤n),iY f (by omega:i<n),ha,iI f (by omega:i+1≤k) (by omega:k≤n),iY f hk,hb];rfl
 have e2:seg (jY (jY f i (some c)) k none) 0 n=seg f 0 i++c::(seg f (i+1) k++seg f (k+1) n):=by
  rw[iI _ (atW i) (by omega:i≤n),iY _ (by omega:i<n),iI _ (by omega:i+1≤k) (by omega:k≤n),iY _ hk,qp,fC _ _ (by omega:i≠k),qp,
   vq (g:=f) (i:=0) (n:=i) (fun j h1 h2=>by rw[fC _ _ (by omega),fC _ _ (by omega)]),
   vq (g:=f) (i:=i+1) (n:=k) (fun j h1 h2=>by rw[fC _ _ (by omega),fC _ _ (by omega)]),
   vq (g:=f) (i:=k+1) (n:=n) (fun j h1 h2=>by rw[fC _ _ (by omega),fC _ _ (by omega)])];rfl
 rw[e1,e2];refine RP J ?_ (fun y hy=>?_) hc
 ·have h:=RU J (f:=f) (n:=n) (atW i) (by omega) (fun h x k y _ h1 h2 h3 h4 h5=>hp h x k y h1 h2 h3 h4 (by omega) h5);rw[iY f (by omega:i<n),ha,iI f (by omega:i+1≤k) (by omega:k≤n),iY f hk,hb] at h;exact h
 ·obtain⟨j,j1,j2,j3⟩:=MQ.1 hy;exact hm j y (by omega) j2 j3
theorem NP.joined{f:Nat→Option α}{n i k:Nat}{c:α}(hp:NP J f n i n):NP J (jY (jY f i (some c)) k none) n i i:=by
 intro h x j y h1 h2 h3 h4 h5 h6;have hj:j≠k:=fun e=>by subst e;rw[qp] at h6;cases h6
 rw[fC _ _ hj,fC _ _ h5] at h6;have hh:h≠k:=fun e=>by subst e;rw[qp] at h2;cases h2
 rw[fC _ _ hh,fC _ _ (by omega)] at h2;exact hp h x j y h1 h2 h3 h4 (by omega) h6
end
end Go.Proofs.YtdcofoaihmongaaGreat
namespace Go.Proofs.YtdcofoaihmongaaGreat
open Go Go.RowKit
def au.or(x y:au):au:=⟨x.a|||y.a,x.b|||y.b,x.c|||y.c,x.d|||y.d⟩
def orW(m:Nat)(x y:au)(i:Nat):Nat:=if i<m then x.word i|||y.word i else x.word i
def aJ(a b:ak):Option ak:=
 if (((!decide (a.kind=b.kind)||!decide (a.cls=b.cls))||!decide (a.cond=b.cond))||!(a.self == b.self))=true then none
 else if (decide (a.src=b.src)&&decide (a.tgt=b.tgt))=true then some { a with perms:=bits .or .u32 a.perms b.perms }
 else if (decide (a.perms=b.perms)&&decide (a.src=b.src))=true then some { a with tgt:=a.tgt.or b.tgt }
 else if (decide (a.perms=b.perms)&&decide (a.tgt=b.tgt))=true then some { a with src:=a.src.or b.src }
 else none
theorem join_none{a b:ak}(h:aJ a b=none):Ending.returned (.tuple #[.agg #[.int .i64 a.kind,.int .u64 a.src.a,.int .u64 a.src.b,.int .u64 a.src.c,.int .u64 a.src.d,.int .u64 a.tgt.a,.int .u64 a.tgt.b,.int .u64 a.tgt.c,.int .u64 a.tgt.d,.bool a.self,.int .i64 a.cls,.int .u32 a.perms,.int .i64 a.cond],.bool false])=.returned (.tuple #[.agg #[.int .i64 (((aJ a b).getD a).kind),.int .u64 (((aJ a b).getD a).src.a),.int .u64 (((aJ a b).getD a).src.b),.int .u64 (((aJ a b).getD a).src.c),.int .u64 (((aJ a b).getD a).src.d),.int .u64 (((aJ a b).getD a).tgt.a),.int .u64 (((aJ a b).getD a).tgt.b),.int .u64 (((aJ a b).getD a).tgt.c),.int .u64 (((aJ a b).getD a).tgt.d),.bool (((aJ a b).getD a).self),.int .i64 (((aJ a b).getD a).cls),.int .u32 (((aJ a b).getD a).perms),.int .i64 (((aJ a b).getD a).cond)],.bool (aJ a b).isSome]):=by rw[h];rfl
theorem join_some{a b c:ak}(h:aJ a b=some c):Ending.returned (.tuple #[.agg #[.int .i64 c.kind,.int .u64 c.src.a,.int .u64 c.src.b,.int .u64 c.src.c,.int .u64 c.src.d,.int .u64 c.tgt.a,.int .u64 c.tgt.b,.int .u64 c.tgt.c,.int .u64 c.tgt.d,.bool c.self,.int .i64 c.cls,.int .u32 c.perms,.int .i64 c.cond],.bool true])=.returned (.tuple #[.agg #[.int .i64 (((aJ a b).getD a).kind),.int .u64 (((aJ a b).getD a).src.a),.int .u64 (((aJ a b).getD a).src.b),.int .u64 (((aJ a b).getD a).src.c),.int .u64 (((aJ a b).getD a).src.d),.int .u64 (((aJ a b).getD a).tgt.a),.int .u64 (((aJ a b).getD a).tgt.b),.int .u64 (((aJ a b).getD a).tgt.c),.int .u64 (((aJ a b).getD a).tgt.d),.bool (((aJ a b).getD a).self),.int .i64 (((aJ a b).getD a).cls),.int .u32 (((aJ a b).getD a).perms),.int .i64 (((aJ a b).getD a).cond)],.bool (aJ a b).isSome]):=by rw[h];rfl
theorem Ch(w0:World)(x y:au)(hx:x.Ok)(hy:y.Ok):Calls Tryz.prog 227 #[.agg #[.int .u64 x.a,.int .u64 x.b,.int .u64 x.c,.int .u64 x.d],.agg #[.int .u64 y.a,.int .u64 y.b,.int .u64 y.c,.int .u64 y.d]] w0 (fun(r:Ending) (w':World)=>r=.returned (.agg #[.int .u64 ((x.or y).a),.int .u64 ((x.or y).b),.int .u64 ((x.or y).c),.int .u64 ((x.or y).d)])∧atZ w0.heap.size w0 w'):=by
 refine fL [] (fn:=Tryz.f227) Tryz.func227 rfl Tryz.ntmps227 rfl<|fun gx w1 M1=>fun gy w2 M2=>ei<|an QI fun go w3 M3=>lp (ι:=Nat) (fun m=>[(6,.int .i64 (m:Int))]) (fun m=>[(go,54,#[.int .u64 0,.int .u64 0,.int .u64 0,.int .u64 0]),(gy,54,#[.int .u64 y.a,.int .u64 y.b,.int .u64 y.c,.int .u64 y.d]),(gx,54,#[.int .u64 ((orW m x y 0:Nat):Int),.int .u64 ((orW m x y 1:Nat):Int),.int .u64 ((orW m x y 2:Nat):Int),.int .u64 ((orW m x y 3:Nat):Int)])]) (fun _=>[]) (fun m _=>m≤4) (fun m=>4-m) 0 (an ⟨⟨rfl,trivial⟩,fun M=>⟨M,atW _⟩⟩ ?_)
 intro m w M hm;refine an (fun h=>?_) fun h=>?_
 ·have hlt:m<4:=by simp at h;omega
  obtain rfl|rfl|rfl|rfl:m=0∨m=1∨m=2∨m=3:=by omega
  all_goals
   refine dr (by kernel_rfl)<|ei<|an ⟨rfl,by decide⟩<|lb 2<|an rfl<|ei<|an ⟨rfl,by decide⟩<|lb 1<|an rfl<|ei<|an rfl<|ei<|an ⟨rfl,by decide⟩<|fun w hb M=>lb 2<|an ⟨rfl,rfl⟩ fun w M=>an (by omega)<|bk _ ⟨rfl,trivial⟩ (fun M=>⟨M.cast ?_ rfl,by decide⟩) (by decide)
  ·exact congrArg (fun v:Int=>[(_:Bx),_,(gx,54,(#[Value.int .u64 v,_,_,_]:Array Value))]) (bits_or_u64_nat _ _ hx.a hy.a)
  ·exact congrArg (fun v:Int=>[(_:Bx),_,(gx,54,(#[_,Value.int .u64 v,_,_]:Array Value))]) (bits_or_u64_nat _ _ hx.b hy.b)
  ·exact congrArg (fun v:Int=>[(_:Bx),_,(gx,54,(#[_,_,Value.int .u64 v,_]:Array Value))]) (bits_or_u64_nat _ _ hx.c hy.c)
  ·exact congrArg (fun v:Int=>[(_:Bx),_,(gx,54,(#[_,_,_,Value.int .u64 v]:Array Value))]) (bits_or_u64_nat _ _ hx.d hy.d)
 obtain rfl:m=4:=by simp at h;omega
 exact lb 2<|an rfl<|lb 0<|an ⟨rfl,rfl⟩ fun w M=>ei (x:=0)<|an rfl fun M=>⟨rfl,M.below⟩
theorem He(w0:World)(a b:ak)(ha:a.Ok)(hb:b.Ok):Calls Tryz.prog 169 #[.agg #[.int .i64 a.kind,.int .u64 a.src.a,.int .u64 a.src.b,.int .u64 a.src.c,.int .u64 a.src.d,.int .u64 a.tgt.a,.int .u64 a.tgt.b,.int .u64 a.tgt.c,.int .u64 a.tgt.d,.bool a.self,.int .i64 a.cls,.int .u32 a.perms,.int .i64 a.cond],.agg #[.int .i64 b.kind,.int .u64 b.src.a,.int .u64 b.src.b,.int .u64 b.src.c,.int .u64 b.src.d,.int .u64 b.tgt.a,.int .u64 b.tgt.b,.int .u64 b.tgt.c,.int .u64 b.tgt.d,.bool b.self,.int .i64 b.cls,.int .u32 b.perms,.int .i64 b.cond]] w0 (fun(r:Ending) (w':World)=>r=.returned (.tuple #[.agg #[.int .i64 (((aJ a b).getD a).kind),.int .u64 (((aJ a b).getD a).src.a),.int .u64 (((aJ a b).getD a).src.b),.int .u64 (((aJ a b).getD a).src.c),.int .u64 (((aJ a b).getD a).src.d),.int .u64 (((aJ a b).getD a).tgt.a),.int .u64 (((aJ a b).getD a).tgt.b),.int .u64 (((aJ a b).getD a).tgt.c),.int .u64 (((aJ a b).getD a).tgt.d),.bool (((aJ a b).getD a).self),.int .i64 (((aJ a b).getD a).cls),.int .u32 (((aJ a b).getD a).perms),.int .i64 (((aJ a b).getD a).cond)],.bool (aJ a b).isSome])∧atZ w0.heap.size w0 w'):=by
 refine fL [] (fn:=Tryz.f169) Tryz.func169 rfl Tryz.ntmps169 rfl<|fun g1 w1 M1=>fun g2 w2 M2=>ei<|an oy fun g3 w3 M3=>lb 2<|an rfl<|lb 1<|an rfl<|lb 2<|an (fun _=>rfl)<|lb 1<|an (fun _=>rfl)<|lb 2<|an (fun _=>rfl)<|lb 1<|an (fun _=>rfl)<|lb 2<|an (fun _=>rfl)<|lb 1<|an (fun _=>rfl)<|an (fun h1=>?_) fun h1=>?_
 ·exact lb 2<|an rfl<|lb 0<|an ⟨rfl,rfl⟩ fun w4 M4=>ei (x:=0)<|an rfl fun M=>⟨join_none (by unfold aJ;rw[if_pos h1]),M.below⟩
 refine lb 2<|an rfl<|lb 1<|an rfl<|ei (x:=decide (a.src=b.src))<|an ⟨AJ,fun w=>AB a.src b.src w⟩<|lb 2<|an (fun _=>rfl)<|lb 1<|an (fun _=>rfl)<|ei (x:=decide (a.tgt=b.tgt))<|an (fun _=>⟨AJ,fun w=>AB a.tgt b.tgt w⟩)<|an (fun h2=>?_) fun h2=>?_
 ·exact lb 2<|an rfl<|lb 1<|an rfl<|ei (x:=bits .or .u32 a.perms b.perms)<|an rfl<|lb 2<|an ⟨rfl,rfl⟩ fun w5 M5=>lb 2<|an rfl<|lb 0<|an ⟨rfl,rfl⟩ fun w6 M6=>ei (x:=0)<|an rfl fun M=>⟨join_some (by unfold aJ;rw[if_neg (by rw[h1];decide),if_pos h2]),M.below⟩
 refine lb 2<|an rfl<|lb 1<|an rfl<|lb 2<|an (fun _=>rfl)<|lb 1<|an (fun _=>rfl)<|ei (x:=decide (a.src=b.src))<|an (fun _=>⟨AJ,fun w=>AB a.src b.src w⟩)<|an (fun h3=>?_) fun h3=>?_
 ·exact lb 2<|an rfl<|lb 1<|an rfl<|cl<|an (Ch _ a.tgt b.tgt ha.tgt hb.tgt) fun w7 M7=>lb 2<|an ⟨rfl,rfl⟩ fun w8 M8=>lb 2<|an rfl<|lb 0<|an ⟨rfl,rfl⟩ fun w9 M9=>ei (x:=0)<|an rfl fun M=>⟨join_some (by unfold aJ;rw[if_neg (by rw[h1];decide),if_neg (by rw[h2];decide),if_pos h3]),M.below⟩
 refine lb 2<|an rfl<|lb 1<|an rfl<|lb 2<|an (fun _=>rfl)<|lb 1<|an (fun _=>rfl)<|ei (x:=decide (a.tgt=b.tgt))<|an (fun _=>⟨AJ,fun w=>AB a.tgt b.tgt w⟩)<|an (fun h4=>?_) fun h4=>?_
 ·exact lb 2<|an rfl<|lb 1<|an rfl<|cl<|an (Ch _ a.src b.src ha.src hb.src) fun xR sA=>lb 2<|an ⟨rfl,rfl⟩ fun JJ M11=>lb 2<|an rfl<|lb 0<|an ⟨rfl,rfl⟩ fun Mg Jg=>ei (x:=0)<|an rfl fun M=>⟨join_some (by unfold aJ;rw[if_neg (by rw[h1];decide),if_neg (by rw[h2];decide),if_neg (by rw[h3];decide),if_pos h4]),M.below⟩
 exact lb 2<|an rfl<|lb 0<|an ⟨rfl,rfl⟩ fun N_ zh=>ei (x:=0)<|an rfl fun M=>⟨join_none (by unfold aJ;rw[if_neg (by rw[h1];decide),if_neg (by rw[h2];decide),if_neg (by rw[h3];decide),if_neg (by rw[h4];decide)]),M.below⟩
section
variable {ops:Array Oper} {Q:Exit→Act→World→Prop} {rest:List Oper} {a:Act} {B:Nat} {w w0:World} {o:Oper} {bs:List Bx} {rs:List Rw} {mb:Nat} {L:List (Int×Value)}
theorem agh(hg:o.guard=none){t e:TypeId}{m x:Operand}{k:Int}(ho:o.op=.call { callee:=.builtin .delete,args:=#[m,x],argTypes:=#[t,3] })(ht:Tryz.prog.underlying t=some (.map 3 e))(hm:a.eval m=.map (some mb))(hx:a.eval x=.int .i64 k)(hk:jq k)(hd:o.dst=none)(M:bg B w0 w bs rs)(i:Nat)(h:bs[i]?=some (mb,9003,eu L))(hin:(jD L k).isSome=true)
 (next:∀ w',bg B w0 w' (bs.set i (mb,9003,eu (gP L k))) rs→wpList Tryz.prog ops Q rest a w'):wpList Tryz.prog ops Q (o::rest) a w:=
 qP w hg m x t 3 ho _ _ hm hx _ (M.af7 ht i h hk hin) fun w' M'=>by
  rw[hd];exact next w' M'
end
def lval(z:(ak×Int)×Nat):Value:=.agg (lP z).toArray
def FL(N:List ((ak×Int)×Nat))(A:Nat→Bool)(L:List (Int×Value)):Prop:=∀ k:Nat,jD L (k:Int)=if A k=true then (N[k]?).map lval else none
section
variable {N:List ((ak×Int)×Nat)} {A A':Nat→Bool} {L:List (Int×Value)} {m:Nat} {z:(ak×Int)×Nat}
theorem FL.congr(h:FL N A L)(e:∀ k,k<N.length→A' k=A k):FL N A' L:=fun k=>by
 rw[h k];by_cases hk:k<N.length
 ·rw[e k hk]
 ·rw[List.getElem?_eq_none (by omega)];split<;>split<;>rfl
theorem FL.put(h:FL N A L)(hz:N[m]?=some z):FL N (fun k=>decide (k=m)||A k) (((m:Int),lval z)::gP L (m:Int)):=fun k=>by
 rw[yO];by_cases e:k=m
 ·subst e;simp[hz]
 ·rw[if_neg (by omega),h k];simp[e]
theorem FL.cut(h:FL N A L):FL N (fun k=>A k&&!decide (k=m)) (gP L (m:Int)):=fun k=>by
 rw[DZ];by_cases e:k=m
 ·subst e;simp
 ·rw[if_neg (by omega),h k];simp[e]
theorem FL.yes(h:FL N A L){k:Nat}(hA:A k=true)(hz:N[k]?=some z):jD L (k:Int)=some (lval z):=by rw[h k,if_pos hA,hz];rfl
theorem FL.no(h:FL N A L){k:Nat}(hA:A k=false):jD L (k:Int)=none:=by rw[h k,if_neg (by rw[hA];decide)]
theorem FL.nil:FL N (fun k=>decide (k<0)) []:=fun k=>by simp[jD]
end
def eV{α:Type}(l:List α)(o:List Nat)(m n:Nat):List α:=(List.range n).filterMap fun k=>if (o.contains k||decide (k=m))=true then none else l[k]?
section
variable {α:Type} {l:List α} {o:List Nat} {m j:Nat} {z:α}
theorem VA(hz:l[j]?=some z)(h:(o.contains j||decide (j=m))=false):eV l o m (j+1)=eV l o m j++[z]:=by
 unfold eV;rw[List.range_succ,at8,List.filterMap_cons,if_neg (by rw[h];decide),hz];rfl
theorem YO(h:(o.contains j||decide (j=m))=true):eV l o m (j+1)=eV l o m j:=by
 unfold eV;rw[List.range_succ,at8,List.filterMap_cons,if_pos h];simp
theorem MJ{β:Type}(f:α→β):(kf l o m).map f=kf (l.map f) o m:=by
 unfold kf;rw[atV,List.map_filterMap];congr 1
 funext k
 split
 ·rfl
 ·rw[at0]
theorem MK:∀ n,(eV l o m n).length≤n:=fun n=>at9 (List.length_filterMap_le _ _) (by simp)
end
section
variable {N:List ((ak×Int)×Nat)} {o:List Nat} {m:Nat} {z:(ak×Int)×Nat}
theorem Vt(ho:o=jL (N.map (·.1)) m)(hz:N[m]?=some z)(h:ji z.1 ((kf N o m).map (·.1))=true):o++[m]=jL (N.map (·.1)) (m+1):=by
 rw[jL,at0,hz,← ho];show _=if ji z.1 (kf (N.map (·.1)) o m)=true then o++[m] else o
 rw[← MJ,if_pos h]
theorem YM(ho:o=jL (N.map (·.1)) m)(hz:N[m]?=some z)(h:ji z.1 ((kf N o m).map (·.1))=false):o=jL (N.map (·.1)) (m+1):=by
 rw[jL,at0,hz,← ho];show _=if ji z.1 (kf (N.map (·.1)) o m)=true then o++[m] else o
 rw[← MJ,if_neg (by rw[h];decide)]
theorem Vu(ho:o=jL (N.map (·.1)) m):o.contains m=false:=by
 cases h:o.contains m with
 | false=>rfl
 | true=>
  have:m∈o:=by simpa using h
  rw[ho] at this;exact absurd (tC _ _ _ this) (Nat.lt_irrefl _)
end
theorem VB{N:List ((ak×Int)×Nat)}{o:List Nat}{m j:Nat}{z:(ak×Int)×Nat}{v:Value}{e:TypeId}{k:Nat}{rs:List Rw}(hz:N[j]?=some z)(h:(o.contains j||decide (j=m))=false):
 (⟨v,e,k,(eV N o m j).length+1,(eV N o m j).flatMap lP++lP z⟩::rs:List Rw)=⟨v,e,k,(eV N o m (j+1)).length,(eV N o m (j+1)).flatMap lP⟩::rs:=by
 rw[VA hz h,aua,aub,List.flatMap_cons,List.flatMap_nil,List.append_nil];rfl
theorem oQ{x:Option Value}{v z:Value}(h:x=some v):Value.tuple #[x.getD z,.bool x.isSome]=.tuple #[v,.bool true]:=by rw[h];rfl
theorem oR{x:Option Value}{z:Value}(h:x=none):Value.tuple #[x.getD z,.bool x.isSome]=.tuple #[z,.bool false]:=by rw[h];rfl
theorem cH.sub{α:Type}{w:World}{b:Nat}{N N':List ((α×Int)×Nat)}(h:cH w b N)(hs:∀ z∈N',z∈N):cH w b N':=fun z hz=>h z (hs z hz)
theorem MI{α:Type}{l:List α}{o:List Nat}{m:Nat}:∀ z∈kf l o m,z∈l:=Ko
theorem VQ{p:aG}(hok:p.Ok){N:List ((ak×Int)×Nat)}{f:ak→Int}(hN:N.map (·.1)=p.rules.map fun y=>(y,f y)):∀ z∈N,z.1.1.Ok:=fun z hz=>by
 have:z.1∈N.map (·.1):=atY.2 ⟨z,hz,rfl⟩;rw[hN] at this;obtain⟨r,hr,e⟩:=atY.1 this;rw[← e];exact⟨(hok.rules r hr).src,(hok.rules r hr).tgt⟩
theorem Pc(o:List Nat)(m:Nat):ints o++[Value.int .i64 (m:Int)]=ints (o++[m]):=by unfold ints;rw[List.map_append];rfl
def tD(p:aG):List Nat:=jL (gY p) p.rules.length
theorem Mx(l:List (ak×Int)):∀ m,(jL l m).length≤m
 | 0=>Nat.le_refl _
 | m+1=>by
  have:=Mx l m;unfold jL;split
  ·split
   ·rw[aua];simp;omega
   ·omega
  ·omega
theorem qR(w0:World)(c0 c1 c2 c3 c4 c5 c6 c7 c8 c9 aW aP aO aU aT aS aR:Value)(p:aG)(hp:aL w0 c0 c1 c2 c3 c4 c5 c6 c7 c8 c9 aW aP aO aU aT aS aR p)(hok:p.Ok)(hn:p.bools.length≤5)(hcl:p.conds.length≤1000)(hcr:p.rules.length≤900):Calls Tryz.prog 27 #[.agg #[c0,c1,c2,c3,c4,c5,c6,c7,c8,c9,aW,aP,aO,aU,aT,aS,aR]] w0 (fun(r:Ending) (w':World)=>∃ v,r=.returned v∧((w'.ownsRow w0.heap.size 3 1 v (tD p).length (ints (tD p)))∧atZ w0.heap.size w0 w')):=by
 obtain⟨gh,f_,rfl,Uy,hm5,Ec⟩:=SliceAt.form hp.bools (by decide);obtain⟨Sh,O3,rfl,hk9,hm9,Lb⟩:=SliceAt.form hp.rules (by decide);have aM:=hr1 Tryz.prog Tryz.f27 (fun(r:Ending) (w':World)=>∃ v,r=.returned v∧((w'.ownsRow w0.heap.size 3 1 v (tD p).length (ints (tD p)))∧atZ w0.heap.size w0 w')) 66 2 rfl;refine en Tryz.func27 rfl Tryz.ntmps27 rfl (vs:=[.agg #[c0,c1,c2,c3,c4,.slice gh p.bools.length f_,c6,c7,c8,.slice Sh p.rules.length O3,aW,aP,aO,aU,aT,aS,aR]]) rfl fun _ F=>?_
 have M:=Mm.start w0;refine auc fun K1 dw=>ah<|oG (on rfl) rfl (F.u rf) rfl F rfl M fun g1 _ _ F M=>xA (v:=.slice none 0 0) F rf rf rf fun _ F=>aud<|dw _ _ ?_
 refine auc fun K2 cQ=>ah<|xW F (M.b 0 rfl) rf rf rf iU rf kS rf fun _ F=>kt (on rfl) (bw rfl Tryz.func78 afZ rfl (args1 (F.u rf))) (zY _ _ _ _ _ _ _ _ _ _ _ _ _ _ _ _ _ _ p (hp.keep M.below) hok hn hcl (by omega)) rfl F rfl fun v9 _ w1 hR F=>?_
 obtain⟨⟨N,BJ,hoR,hN⟩,hB1⟩:=hR;have eE:=(M.below).trans (hB1.mono (M.below).size);have HS1:=M.below.trans (hB1.mono M.below.size);have agF:∀ j uu,[c0,c1,c2,c3,c4,.slice gh p.bools.length f_,c6,c7,c8,.slice Sh p.rules.length O3,aW,aP,aO,aU,aT,aS,aR][j]?=some uu→w1.cell? ⟨g1,0+j,none⟩=some uu:=fun j u hu=>by rw[Nat.zero_add];exact((Whole.under hB1 (M.b 0 rfl) (M.b 0 rfl).lt).cell j).trans (by simpa using hu)
 replace M:=Mm.start w1;have hLs:=SliceAt.bM hoR (CF N);obtain⟨ra,rc,rfl,hrc,hrm,SE⟩:=hLs.form (by decide)
 have hNl:N.length=p.rules.length:=by
  have h:=congrArg List.length BJ;simpa using h
 refine xA F rf rf rf fun _ F=>aud<|cQ _ _ ?_
 refine auc fun K3 fJ=>ah<|kmk (on rfl) rfl rfl F rfl M fun mb _ _ F M=>xA F rf rf rf fun _ F=>aud<|fJ _ _ ?_
 refine auc fun K4 fQ=>auc fun K5 gL=>ah<|xM F rf rf rf fun _ F=>kz F rf (bA rfl (F.u rf) xT) fun _ F=>xM (v:=.int .i64 0) F rf rf rf fun _ F=>aud<|gL _ _ ?_
 refine aue<|?_;refine bV (ι:=Nat×List (Int×Value)) (fun|(t,L),a,w=>Fs a 66 [(3,.slice ra N.length rc),(4,(.map (some mb))),(17,.slice ra N.length rc),(18,.int .i64 (N.length:Int)),(19,.int .i64 (t:Int))]∧Mm w1 w [(mb,9003,eu L)] []∧t≤N.length∧FL N (fun k=>decide (k<t)) L) (fun|(t,L)=>N.length-t) (0,[]) ⟨F.sub ⟨rfl,rfl,rfl,rfl,rfl,trivial⟩,M,atW _,FL.nil⟩ ?_
 (repeat clear F);(repeat clear M)
 rintro⟨t,L⟩ _ _ ⟨F,M,hm,XR⟩;refine auc fun K6 iC=>ah<|kz F rf (d_ rfl (F.u rf) (F.u rf)) fun _ F=>aud<|iC _ _ ?_
 refine auc fun K7 iO=>?_
 refine auf (F.e 20 rfl) (fun hc2=>?_) (fun hc2=>?_)
 ·have hd3:=of_decide_eq_true hc2;refine wp_skip<|iO _ _ ?_;refine auc fun K8 jf=>aue<|auc fun K9 jW=>?_
  have hltz:t<N.length:=by omega
  obtain⟨z,hz⟩:∃ z,N[t]?=some z:=⟨_,at1 hltz⟩;obtain⟨bz,obz,rfl,ZI⟩:=SE t hltz
  have Zl:∀ j uu,[.int .i64 z.1.1.kind,.int .u64 z.1.1.src.a,.int .u64 z.1.1.src.b,.int .u64 z.1.1.src.c,.int .u64 z.1.1.src.d,.int .u64 z.1.1.tgt.a,.int .u64 z.1.1.tgt.b,.int .u64 z.1.1.tgt.c,.int .u64 z.1.1.tgt.d,.bool z.1.1.self,.int .i64 z.1.1.cls,.int .u32 z.1.1.perms,.int .i64 z.1.1.cond,.slice (some ⟨z.2,0,none⟩) 1 1][j]?=some uu→w1.cell? ⟨bz,obz+t*14+j,none⟩=some uu:=fun j u hu=>ZI j u (by
   rw[gN vO hz j (aug.1 hu).1];exact hu)
  refine ah<|xM F rf rf rf fun _ F=>
   kz F rf (aK (i:=t) rfl (F.u rf) (F.u rf) (by omega) xT jJ) fun _ F=>
   kz F rf (bT [.int .i64 z.1.1.kind,.int .u64 z.1.1.src.a,.int .u64 z.1.1.src.b,.int .u64 z.1.1.src.c,.int .u64 z.1.1.src.d,.int .u64 z.1.1.tgt.a,.int .u64 z.1.1.tgt.b,.int .u64 z.1.1.tgt.c,.int .u64 z.1.1.tgt.d,.bool z.1.1.self,.int .i64 z.1.1.cls,.int .u32 z.1.1.perms,.int .i64 z.1.1.cond,.slice (some ⟨z.2,0,none⟩) 1 1] rfl (F.u rf) Ge rfl jJ (dJ M.below Zl)) fun _ F=>
   sF (on rfl) rfl wH rfl F rfl M fun g4 _ _ F M=>
   xA F rf rf rf fun _ F=>
   sE (on rfl) rfl (F.u rf) (F.u rf) F M 0 rfl jJ rfl rfl rfl fun _ M=>
   aud<|
   jW _ _ ?_
  refine ah<|xM F rf rf rf fun _ F=>xM F rf rf rf fun _ F=>xW F (M.b 0 rfl) rf rf rf Ge rf jJ rf fun _ F=>
   kmp rfl rfl rfl Rg (F.u rf) (F.u rf) (F.u rf) (by constructor<;>omega) M 1 rfl fun _ M=>
   aud<|
   jf _ _ ?_
  refine ah<|
   ke (on rfl) (cL rfl (F.u rf) rfl) rfl F rfl (congrArg (Value.int .i64) (wrap_i64 (by omega))) fun _ F=>
   xM F rf rf rf fun _ F=>
   aud<|?_
  exact⟨(t+1,((t:Int),.agg #[.int .i64 z.1.1.kind,.int .u64 z.1.1.src.a,.int .u64 z.1.1.src.b,.int .u64 z.1.1.src.c,.int .u64 z.1.1.src.d,.int .u64 z.1.1.tgt.a,.int .u64 z.1.1.tgt.b,.int .u64 z.1.1.tgt.c,.int .u64 z.1.1.tgt.d,.bool z.1.1.self,.int .i64 z.1.1.cls,.int .u32 z.1.1.perms,.int .i64 z.1.1.cond,.slice (some ⟨z.2,0,none⟩) 1 1])::gP L (t:Int)),⟨F.sub ⟨rfl,rfl,rfl,rfl,rfl,trivial⟩,(M.only (.cons _ (.cons_cons _ .slnil)) .slnil),by omega,(XR.put hz).congr fun k _=>by rw[← Bool.decide_or];exact decide_eq_decide.2 (by omega)⟩,by show N.length-(t+1)<N.length-t;omega⟩
 ·have Ao:=of_decide_eq_false hc2;refine wp_exit<|fQ _ _ ?_;refine auc fun Bh dU=>?_
  have M:=M.bX 3 1;refine ah<|xA (v:=.slice none 0 0) F rf rf rf fun _ F=>aud<|dU _ _ ?_
  refine auc fun I8 gj=>auc fun I7 fT=>?_
  have ac7:=VQ hok BJ;refine ah<|xM F rf rf rf fun _ F=>kz F rf (bA rfl (F.u rf) xT) fun _ F=>xM (v:=.int .i64 0) F rf rf rf fun _ F=>aud<|fT _ _ ?_
  refine aue<|?_;refine bV (ι:=Nat×Value×List Nat×List (Int×Value)) (fun|(m,v,o,L),a,w=>Fs a 66 [(3,.slice ra N.length rc),(4,(.map (some mb))),(7,v),(28,.slice ra N.length rc),(29,.int .i64 (N.length:Int)),(30,.int .i64 (m:Int))]∧Mm w1 w [(mb,9003,eu L)] [⟨v,3,1,o.length,ints o⟩]∧m≤N.length∧o=jL (N.map (·.1)) m∧FL N (fun k=>!o.contains k) L) (fun|(m,v,o,L)=>N.length-m) (0,.slice none 0 0,[],L) ⟨F.sub ⟨rfl,rfl,rfl,rfl,rfl,rfl,trivial⟩,M,atW _,rfl,XR.congr fun k hk=>by simp;omega⟩ ?_
  (repeat clear F);(repeat clear M)
  rintro⟨m,v,o,L⟩ _ _ ⟨F,M,hm,ho,XR⟩;refine auc fun Jh gM=>ah<|kz F rf (d_ rfl (F.u rf) (F.u rf)) fun _ F=>aud<|gM _ _ ?_
  refine auc fun NR jg=>?_
  refine auf (F.e 31 rfl) (fun je=>?_) (fun je=>?_)
  ·have QA:=of_decide_eq_true je;refine wp_skip<|jg _ _ ?_;refine auc fun W6 mY=>aue<|auc fun K16 tR=>?_
   have hltz:m<N.length:=by omega
   obtain⟨z,hz⟩:∃ z,N[m]?=some z:=⟨_,at1 hltz⟩;obtain⟨bz,obz,rfl,ZI⟩:=SE m hltz
   have Zl:∀ j uu,[.int .i64 z.1.1.kind,.int .u64 z.1.1.src.a,.int .u64 z.1.1.src.b,.int .u64 z.1.1.src.c,.int .u64 z.1.1.src.d,.int .u64 z.1.1.tgt.a,.int .u64 z.1.1.tgt.b,.int .u64 z.1.1.tgt.c,.int .u64 z.1.1.tgt.d,.bool z.1.1.self,.int .i64 z.1.1.cls,.int .u32 z.1.1.perms,.int .i64 z.1.1.cond,.slice (some ⟨z.2,0,none⟩) 1 1][j]?=some uu→w1.cell? ⟨bz,obz+m*14+j,none⟩=some uu:=fun j u hu=>ZI j u (by
    rw[gN vO hz j (aug.1 hu).1];exact hu)
   have hmo:=Vu ho
   refine ah<|xM F rf rf rf fun _ F=>
    kz F rf (aK (i:=m) rfl (F.u rf) (F.u rf) (by omega) xT jJ) fun _ F=>
    kz F rf (bT [.int .i64 z.1.1.kind,.int .u64 z.1.1.src.a,.int .u64 z.1.1.src.b,.int .u64 z.1.1.src.c,.int .u64 z.1.1.src.d,.int .u64 z.1.1.tgt.a,.int .u64 z.1.1.tgt.b,.int .u64 z.1.1.tgt.c,.int .u64 z.1.1.tgt.d,.bool z.1.1.self,.int .i64 z.1.1.cls,.int .u32 z.1.1.perms,.int .i64 z.1.1.cond,.slice (some ⟨z.2,0,none⟩) 1 1] rfl (F.u rf) Ge rfl jJ (dJ M.below Zl)) fun _ F=>
    sF (on rfl) rfl wH rfl F rfl M fun g8 _ _ F M=>
    xA F rf rf rf fun _ F=>
    sE (on rfl) rfl (F.u rf) (F.u rf) F M 0 rfl jJ rfl rfl rfl fun _ M=>
    aud<|
    tR _ _ ?_
   refine auc fun K17 Lj=>ah<|xM F rf rf rf fun _ F=>xM F rf rf rf fun _ F=>
    agh rfl rfl Rg (F.u rf) (F.u rf) (by constructor<;>omega) rfl M 1 rfl (by rw[XR.yes (by rw[hmo];rfl) hz];rfl) fun _ M=>
    aud<|
    Lj _ _ ?_
   refine auc fun K18 S_=>?_
   have M:=M.bX 146 14;refine ah<|xA (v:=.slice none 0 0) F rf rf rf fun _ F=>aud<|S_ _ _ ?_
   refine auc fun K19 ZV=>auc fun K20 ZU=>ah<|xM F rf rf rf fun _ F=>kz F rf (bA rfl (F.u rf) xT) fun _ F=>xM (v:=.int .i64 0) F rf rf rf fun _ F=>aud<|ZU _ _ ?_
   refine aue<|?_;refine bV (ι:=Nat×Value) (fun|(j,v2),a,w=>Fs a 66 [(3,.slice (some ⟨bz,obz,none⟩) N.length rc),(4,(.map (some mb))),(7,v),(8,.int .i64 (m:Int)),(9,.pointer (some ⟨g8,0,none⟩)),(10,v2),(28,.slice (some ⟨bz,obz,none⟩) N.length rc),(29,.int .i64 (N.length:Int)),(30,.int .i64 (m:Int)),(38,.int .i64 (N.length:Int)),(39,.int .i64 (j:Int))]∧Mm w1 w [(g8,146,#[.int .i64 z.1.1.kind,.int .u64 z.1.1.src.a,.int .u64 z.1.1.src.b,.int .u64 z.1.1.src.c,.int .u64 z.1.1.src.d,.int .u64 z.1.1.tgt.a,.int .u64 z.1.1.tgt.b,.int .u64 z.1.1.tgt.c,.int .u64 z.1.1.tgt.d,.bool z.1.1.self,.int .i64 z.1.1.cls,.int .u32 z.1.1.perms,.int .i64 z.1.1.cond,.slice (some ⟨z.2,0,none⟩) 1 1]),(mb,9003,eu (gP L (m:Int)))] [⟨v2,146,14,(eV N o m j).length,(eV N o m j).flatMap lP⟩,⟨v,3,1,o.length,ints o⟩]∧j≤N.length) (fun|(j,v2)=>N.length-j) (0,.slice none 0 0) ⟨F.sub ⟨rfl,rfl,rfl,rfl,rfl,rfl,rfl,rfl,rfl,rfl,rfl,trivial⟩,M,atW _⟩ ?_
   (repeat clear F);(repeat clear M)
   rintro⟨j,v2⟩ _ _ ⟨F,M,hj⟩;refine auc fun K21 ZT=>ah<|kz F rf (d_ rfl (F.u rf) (F.u rf)) fun _ F=>aud<|ZT _ _ ?_
   refine auc fun K22 ZS=>?_
   refine auf (F.e 40 rfl) (fun Pu=>?_) (fun Pu=>?_)
   ·have ZE:=of_decide_eq_true Pu;refine wp_skip<|ZS _ _ ?_;refine auc fun K23 Wq=>aue<|auc fun K24 ZR=>ah<|xM F rf rf rf fun _ F=>xA F rf rf rf fun _ F=>aud<|ZR _ _ ?_
    refine auc fun K25 Wp=>?_
    have hlty:j<N.length:=by omega
    obtain⟨y,hy⟩:∃ y,N[j]?=some y:=⟨_,at1 hlty⟩
    cases adl:((o.contains j||decide (j=m)):Bool) with
    | true=>
     have hoff:(o.contains j||decide (j=m))=true:=adl;have hlk:=XR.cut.no (k:=j) (by rw[← Bool.not_or,hoff];rfl)
     refine ah<|xM F rf rf rf fun _ F=>xM F rf rf rf fun _ F=>
      ke (on rfl) (Ev (z:=.agg #[.int .i64 0,.int .u64 0,.int .u64 0,.int .u64 0,.int .u64 0,.int .u64 0,.int .u64 0,.int .u64 0,.int .u64 0,.bool false,.int .i64 0,.int .u32 0,.int .i64 0,.slice none 0 0]) Rg (by kernel_rfl) M 1 rfl rfl (F.u rf) (F.u rf) (by constructor<;>omega)) rfl F rfl (show _=.tuple #[.agg #[.int .i64 0,.int .u64 0,.int .u64 0,.int .u64 0,.int .u64 0,.int .u64 0,.int .u64 0,.int .u64 0,.int .u64 0,.bool false,.int .i64 0,.int .u32 0,.int .i64 0,.slice none 0 0],.bool false] from oR hlk) fun _ F=>
      xM F rf rf rf fun _ F=>
      kz F rf (b_ rfl (F.u rf) rfl) fun _ F=>
      kz F rf (b_ rfl (F.u rf) rfl) fun _ F=>
      sF (on rfl) rfl wH rfl F rfl M fun g12 _ _ F M=>
      sE (on rfl) rfl (F.u rf) (F.u rf) F M 0 rfl jJ rfl rfl rfl fun _ M=>
      xA F rf rf rf fun _ F=>
      aud<|
      Wp _ _ ?_
     refine auc fun K26 ZQ=>ah<|xM F rf rf rf fun _ F=>aud<|ZQ _ _ ?_
     refine auh (F.e 48 rfl) ?_;refine wp_skip<|Wq _ _ ?_
     refine ah<|
      ke (on rfl) (cL rfl (F.u rf) rfl) rfl F rfl (congrArg (Value.int .i64) (wrap_i64 (by omega))) fun _ F=>
      xM F rf rf rf fun _ F=>
      aud<|?_
     exact⟨(j+1,v2),⟨F.sub ⟨rfl,rfl,rfl,rfl,rfl,rfl,rfl,rfl,rfl,rfl,rfl,trivial⟩,((M.only (.cons _ (.cons_cons _ (.cons_cons _ .slnil))) (.cons_cons _ (.cons_cons _ .slnil)))).cast rfl (by rw[YO hoff]),by omega⟩,by show N.length-(j+1)<N.length-j;omega⟩
    | false=>
     have hoff:(o.contains j||decide (j=m))=false:=adl;have hlk:=XR.cut.yes (k:=j) (by rw[← Bool.not_or,hoff];rfl) hy
     refine ah<|xM F rf rf rf fun _ F=>xM F rf rf rf fun _ F=>
      ke (on rfl) (Ev (z:=.agg #[.int .i64 0,.int .u64 0,.int .u64 0,.int .u64 0,.int .u64 0,.int .u64 0,.int .u64 0,.int .u64 0,.int .u64 0,.bool false,.int .i64 0,.int .u32 0,.int .i64 0,.slice none 0 0]) Rg (by kernel_rfl) M 1 rfl rfl (F.u rf) (F.u rf) (by constructor<;>omega)) rfl F rfl (show _=.tuple #[.agg #[.int .i64 y.1.1.kind,.int .u64 y.1.1.src.a,.int .u64 y.1.1.src.b,.int .u64 y.1.1.src.c,.int .u64 y.1.1.src.d,.int .u64 y.1.1.tgt.a,.int .u64 y.1.1.tgt.b,.int .u64 y.1.1.tgt.c,.int .u64 y.1.1.tgt.d,.bool y.1.1.self,.int .i64 y.1.1.cls,.int .u32 y.1.1.perms,.int .i64 y.1.1.cond,.slice (some ⟨y.2,0,none⟩) 1 1],.bool true] from oQ hlk) fun _ F=>
      xM F rf rf rf fun _ F=>
      kz F rf (b_ rfl (F.u rf) rfl) fun _ F=>
      kz F rf (b_ rfl (F.u rf) rfl) fun _ F=>
      sF (on rfl) rfl wH rfl F rfl M fun g13 _ _ F M=>
      sE (on rfl) rfl (F.u rf) (F.u rf) F M 0 rfl jJ rfl rfl rfl fun _ M=>
      xA F rf rf rf fun _ F=>
      aud<|
      Wp _ _ ?_
     refine auc fun K27 ZP=>ah<|xM F rf rf rf fun _ F=>aud<|ZP _ _ ?_
     refine wp_cond_true (F.e 48 rfl) ?_;have ana:=MK (l:=N) (o:=o) (m:=m) j
     refine ah<|xM F rf rf rf fun _ F=>xW F (M.b 0 rfl) rf rf rf Ge rf jJ rf fun _ F=>
      kl (on rfl) rfl xT jJ wH rfl (pv:=#[(0,.agg #[.int .i64 y.1.1.kind,.int .u64 y.1.1.src.a,.int .u64 y.1.1.src.b,.int .u64 y.1.1.src.c,.int .u64 y.1.1.src.d,.int .u64 y.1.1.tgt.a,.int .u64 y.1.1.tgt.b,.int .u64 y.1.1.tgt.c,.int .u64 y.1.1.tgt.d,.bool y.1.1.self,.int .i64 y.1.1.cls,.int .u32 y.1.1.perms,.int .i64 y.1.1.cond,.slice (some ⟨y.2,0,none⟩) 1 1])]) (by simp[(F.e 50 rfl)]) (cells:=#[.int .i64 y.1.1.kind,.int .u64 y.1.1.src.a,.int .u64 y.1.1.src.b,.int .u64 y.1.1.src.c,.int .u64 y.1.1.src.d,.int .u64 y.1.1.tgt.a,.int .u64 y.1.1.tgt.b,.int .u64 y.1.1.tgt.c,.int .u64 y.1.1.tgt.d,.bool y.1.1.self,.int .i64 y.1.1.cls,.int .u32 y.1.1.perms,.int .i64 y.1.1.cond,.slice (some ⟨y.2,0,none⟩) 1 1]) (by kernel_rfl) rfl F rfl M fun g14 _ _ F M=>
      kp (on rfl) rfl xT Sr rfl M 0 rfl (F.u rf) (F.u rf) (M.slice 0 rfl rfl rfl (by simp[maxLen])) ⟨by unfold maxLen;omega,by omega⟩ rfl F rfl fun v15 _ _ F M=>
      xA F rf rf rf fun _ F=>
      aud<|
      Wq _ _ ?_
     refine ah<|
      ke (on rfl) (cL rfl (F.u rf) rfl) rfl F rfl (congrArg (Value.int .i64) (wrap_i64 (by omega))) fun _ F=>
      xM F rf rf rf fun _ F=>
      aud<|?_
     exact⟨(j+1,v15),⟨F.sub ⟨rfl,rfl,rfl,rfl,rfl,rfl,rfl,rfl,rfl,rfl,rfl,trivial⟩,((M.only (.cons _ (.cons _ (.cons_cons _ (.cons_cons _ .slnil)))) (.cons_cons _ (.cons_cons _ .slnil)))).cast rfl (VB hy hoff),by omega⟩,by show N.length-(j+1)<N.length-j;omega⟩
   ·have anG:=of_decide_eq_false Pu;refine wp_exit<|ZV _ _ ?_;refine auc fun K28 ZO=>?_
    have hjN:j=N.length:=by omega
    subst hjN
    have hol:((kf N o m).map (·.1)).length≤1000:=by
     rw[atV];exact at9 (MK N.length) (by omega)
    refine ah<|xW F (M.b 0 rfl) rf rf rf Ge rf jJ rf fun _ F=>xM F rf rf rf fun _ F=>
     xC F M rf rf q80 (args2 (F.u rf) (F.u rf)) (xq _ z.1 (ac7 z (at2 hz)) z.2 (by simpa using((hN.keep M.below) z (at2 hz)).1.cell 0) _ v2 ((kf N o m).map (·.1)) (KH (M.r 0 rfl) rfl ((hN.keep M.below).sub MI)) hol (fun y hy=>by obtain⟨x,hx,rfl⟩:=atY.1 hy;exact ac7 x (MI x hx))) fun _ _ F M=>
     aud<|
     ZO _ _ ?_
    refine auf (F.e 56 rfl) (fun hc17=>?_) (fun hc17=>?_)
    ·have hcv:ji z.1 ((kf N o m).map (·.1))=true:=hc17;have am_:o.length≤1000:=by rw[ho];exact at9 (Mx _ _) (by omega)
     refine ah<|xM F rf rf rf fun _ F=>xM F rf rf rf fun _ F=>xS F M rf rf rf u64 Bn zr3 rf rf fun g18 _ _ F M=>
      kp (on rfl) rfl u64 agm rfl M 1 rfl (F.u rf) (F.u rf) (M.slice 0 rfl rfl rfl (by simp[maxLen])) ⟨by unfold maxLen;omega,by omega⟩ rfl F rfl fun v19 _ _ F M=>
      xA F rf rf rf fun _ F=>
      aud<|
      mY _ _ ?_
     refine ah<|
      ke (on rfl) (cL rfl (F.u rf) rfl) rfl F rfl (congrArg (Value.int .i64) (wrap_i64 (by omega))) fun _ F=>
      xM F rf rf rf fun _ F=>
      aud<|?_
     exact⟨(m+1,v19,o++[m],gP L (m:Int)),⟨F.sub ⟨rfl,rfl,rfl,rfl,rfl,rfl,trivial⟩,((M.only (.cons _ (.cons _ (.cons_cons _ .slnil))) (.cons _ (.cons_cons _ .slnil)))).cast rfl (by rw[Pc,aua];rfl),by omega,Vt ho hz hcv,XR.cut.congr fun k _=>by simp[Bool.and_comm]⟩,by show N.length-(m+1)<N.length-m;omega⟩
    ·have hcv:ji z.1 ((kf N o m).map (·.1))=false:=hc17
     refine ah<|xM F rf rf rf fun _ F=>xM F rf rf rf fun _ F=>xW F (M.b 0 rfl) rf rf rf Ge rf jJ rf fun _ F=>
      kmp rfl rfl rfl Rg (F.u rf) (F.u rf) (F.u rf) (by constructor<;>omega) M 1 rfl fun _ M=>
      aud<|
      mY _ _ ?_
     refine ah<|
      ke (on rfl) (cL rfl (F.u rf) rfl) rfl F rfl (congrArg (Value.int .i64) (wrap_i64 (by omega))) fun _ F=>
      xM F rf rf rf fun _ F=>
      aud<|?_
     exact⟨(m+1,v,o,((m:Int),.agg #[.int .i64 z.1.1.kind,.int .u64 z.1.1.src.a,.int .u64 z.1.1.src.b,.int .u64 z.1.1.src.c,.int .u64 z.1.1.src.d,.int .u64 z.1.1.tgt.a,.int .u64 z.1.1.tgt.b,.int .u64 z.1.1.tgt.c,.int .u64 z.1.1.tgt.d,.bool z.1.1.self,.int .i64 z.1.1.cls,.int .u32 z.1.1.perms,.int .i64 z.1.1.cond,.slice (some ⟨z.2,0,none⟩) 1 1])::gP (gP L (m:Int)) (m:Int)),⟨F.sub ⟨rfl,rfl,rfl,rfl,rfl,rfl,trivial⟩,(M.only (.cons _ (.cons_cons _ .slnil)) (.cons _ (.cons_cons _ .slnil))),by omega,YM ho hz hcv,(XR.cut.put hz).congr fun k _=>by
      by_cases e:k=m
      ·subst e;rw[hmo];simp
      ·simp[e]⟩,by show N.length-(m+1)<N.length-m;omega⟩
  ·have ZC:=of_decide_eq_false je;refine wp_exit<|gj _ _ ?_;refine auc fun K29 ZN=>ah<|xM F rf rf rf fun _ F=>xA F rf rf rf fun _ F=>aud<|ZN _ _ ?_
   refine wp_ret<|aM _ _ _ _ F rfl ?_;have hmN:m=N.length:=by omega
   have hor:o=tD p:=by rw[ho,hmN,hNl,BJ];rfl
   subst hor;exact⟨_,rfl,nL (M.r 0 rfl) eE.size,(eE.trans (M.below.mono eE.size))⟩
theorem bg.Mk{w0 w w':World}{bs:List Bx}{rs:List Rw}{mb:Nat}(M:bg w0.heap.size w0 w bs rs)(hlt:mb<w0.heap.size)(hg:w.grownBy w' (some mb))(ads:∀ g cs,Whole w' g 52 cs→g≠mb):
 ∃ wa:World,St [mb] w0 wa∧wa.heap[mb]?=w'.heap[mb]?∧bg wa.heap.size wa w' bs rs:=by
 have agu:mb<w.heap.size:=aui hlt M.below.size;have SC:mb<w'.heap.size:=aui agu hg.size;have hS:=St.grown (X:=[mb]) hg (auj.2 rfl)
 obtain⟨wa,ho,ht,hp,e1,e2,e3⟩:∃ wa:World,wa.os=w0.os∧wa.tape=w0.tape∧wa.output=w0.output∧wa.heap.size=w0.heap.size∧(∀ k,k≠mb→wa.heap[k]?=w0.heap[k]?)∧wa.heap[mb]?=w'.heap[mb]?:=
  ⟨{ w0 with heap:=w0.heap.setIfInBounds mb (w'.heap[mb]'SC) },rfl,rfl,rfl,Array.size_setIfInBounds ..,fun k hk=>Array.getElem?_setIfInBounds_ne (Ne.symm hk),by
   show(w0.heap.setIfInBounds mb (w'.heap[mb]'SC))[mb]?=_;rw[Array.getElem?_setIfInBounds_self_of_lt hlt,Array.getElem?_eq_getElem SC]⟩
 refine⟨wa,⟨ho,ht,hp,Nat.le_of_eq e1.symm,fun k _ hx=>e2 k (by simpa using hx)⟩,e3,?_⟩;refine⟨⟨hS.os.trans (M.below.os.trans ho.symm),hS.tape.trans (M.below.tape.trans ht.symm),hS.output.trans (M.below.output.trans hp.symm),by rw[e1];exact at9 M.below.size hS.size,fun k hk=>?_⟩,Nat.le_refl _,fun g cs h=>?_,fun b hb=>?_,fun b hb=>by rw[e1];exact M.lo b hb,M.nd,fun r hr=>?_,M.far,M.vC⟩
 ·by_cases hkm:k=mb
  ·subst hkm;exact e3.symm
  ·rw[e1] at hk;rw[e2 k hkm,hS.block k (aui hk M.below.size) (by simpa using hkm),M.below.block k hk]
 ·have hne:g≠mb:=fun e=>by
   subst e;have h':wa.heap[g]?=some (.cells cs 52 (0,0)):=h;rw[e3] at h';exact ads g cs h' rfl
  have h0:Whole w0 g 52 cs:=by
   have h':wa.heap[g]?=some (.cells cs 52 (0,0)):=h;rw[e2 g hne] at h';exact h'
  exact hS.whole (M.old g cs h0) (by simpa using hne)
 ·exact(M.box b hb).kept (hS.block _ (M.box b hb).lt fun hm=>by
   have:=M.lo b hb;rw[auj.1 hm] at this;omega)
 ·rw[e1]
  exact hS.own (M.row r hr) fun q hq e=>by
   rw[auj.1 hq] at e;have:=((M.row r hr).lt _ e).1;omega
section
variable {ops:Array Oper} {Q:Exit→Act→World→Prop} {rest:List Oper} {a:Act} {w w0:World} {o:Oper} {bs:List Bx} {rs:List Rw} {mb:Nat} {L:List (Int×Value)}
theorem kpo(hg:o.guard=none)(hd:o.dst=none){t e:TypeId}{m x y:Operand}{v:Value}{k:Int}(ho:o.op=.mapUpdate t m x y)(ht:Tryz.prog.underlying t=some (.map 3 e))(hm:a.eval m=.map (some mb))(hx:a.eval x=.int .i64 k)(hy:a.eval y=v)(hk:jq k)(M:bg w0.heap.size w0 w bs rs)(hM:aX w0 Tryz.prog 3 mb (L.map ival))
 (next:∀ wa w',St [mb] w0 wa→aX wa Tryz.prog 3 mb (((k,v)::gP L k).map ival)→bg wa.heap.size wa w' bs rs→wpList Tryz.prog ops Q rest a w'):wpList Tryz.prog ops Q (o::rest) a w:=
 kmu hg hd ho hm hx hy (aX.RF ht (hM.kept (M.below.block _ hM.lt)) hk v) fun w' ⟨Lg,hg'⟩=>by
  obtain⟨wa,hS,e3,M'⟩:=M.Mk hM.lt hg' fun g cs h=>gG h Lg
  exact next wa w' hS (Lg.kept e3) M'
theorem aX.ahL{t e ty:TypeId}(ht:Tryz.prog.underlying t=some (.map 3 e))(hM:aX w Tryz.prog 3 mb (L.map ival)){k:Int}(hk:jq k)(hin:(jD L k).isSome=true):
 ∃ w',(Builtin.delete_ #[t,3] ty #[.map (some mb),.int .i64 k]).run Tryz.prog w=.ok (.tuple #[]) w'∧(aX w' Tryz.prog 3 mb ((gP L k).map ival)∧w.grownBy w' (some mb)):=by
 obtain⟨l,hl⟩:=VW hk;obtain⟨u,hf⟩:=Option.isSome_iff_exists.1 hin;obtain⟨w',hw,Lg,hg,-⟩:=hM.del (ty:=ty) (key:=.int .i64 k) (old:=u) (R:=(gP L k).map ival) vT ht hl ((wg hM.Kw hf).map ival);exact⟨w',hw,Lg,hg⟩
theorem kdo(hg:o.guard=none)(hd:o.dst=none){t e:TypeId}{m x:Operand}{k:Int}(ho:o.op=.call { callee:=.builtin .delete,args:=#[m,x],argTypes:=#[t,3] })(ht:Tryz.prog.underlying t=some (.map 3 e))(hm:a.eval m=.map (some mb))(hx:a.eval x=.int .i64 k)(hk:jq k)(M:bg w0.heap.size w0 w bs rs)(hM:aX w0 Tryz.prog 3 mb (L.map ival))(hin:(jD L k).isSome=true)
 (next:∀ wa w',St [mb] w0 wa→aX wa Tryz.prog 3 mb ((gP L k).map ival)→bg wa.heap.size wa w' bs rs→wpList Tryz.prog ops Q rest a w'):wpList Tryz.prog ops Q (o::rest) a w:=
 qP w hg m x t 3 ho _ _ hm hx _ (aX.ahL ht (hM.kept (M.below.block _ hM.lt)) hk hin) fun w' ⟨Lg,hg'⟩=>by
  rw[hd];obtain⟨wa,hS,e3,M'⟩:=M.Mk hM.lt hg' fun g cs h=>gG h Lg
  exact next wa w' hS (Lg.kept e3) M'
theorem pX{t e:TypeId}{m x:Operand}{z:Value}{k:Int}(ht:Tryz.prog.underlying t=some (.map 3 e))(hz:(zeroValue e).run Tryz.prog w=.ok z w)(hM:aX w Tryz.prog 3 mb (L.map ival))(ho:o.op=.lookup t m x false)(hm:a.eval m=.map (some mb))(hx:a.eval x=.int .i64 k)(hk:jq k):
 (execOp a.eval o).run Tryz.prog w=.ok (.value ((jD L k).getD z)) w:=by
 have hl:=aX.R8 ht hz hM hk false;unfold execOp;simp[ho,hm,hx,hl]
end
def rval(r:ak):Value:=.agg r.cells.toArray
def B0(f:Nat→Option ak)(L:List (Int×Value)):Prop:=∀ k:Nat,jD L (k:Int)=(f k).map rval
section
variable {f:Nat→Option ak} {L:List (Int×Value)} {m:Nat} {r:ak}
theorem B0.put(h:B0 f L):B0 (jY f m (some r)) (((m:Int),rval r)::gP L (m:Int)):=fun k=>by
 rw[yO];unfold jY;by_cases e:k=m
 ·subst e;simp
 ·rw[if_neg (by omega),if_neg e,h k]
theorem B0.cut(h:B0 f L):B0 (jY f m none) (gP L (m:Int)):=fun k=>by
 rw[DZ];unfold jY;by_cases e:k=m
 ·subst e;simp
 ·rw[if_neg (by omega),if_neg e,h k]
theorem B0.yes(h:B0 f L){k:Nat}(e:f k=some r):jD L (k:Int)=some (rval r):=by rw[h k,e];rfl
theorem B0.no(h:B0 f L){k:Nat}(e:f k=none):jD L (k:Int)=none:=by rw[h k,e];rfl
end
theorem Ia{x:Option Value}{v z:Value}(h:x=some v):x.getD z=v:=by rw[h];rfl
theorem RN{x y:au}(hx:x.Ok)(hy:y.Ok):(x.or y).Ok:=⟨Nat.or_lt_two_pow (n:=64) hx.a hy.a,Nat.or_lt_two_pow (n:=64) hx.b hy.b,Nat.or_lt_two_pow (n:=64) hx.c hy.c,Nat.or_lt_two_pow (n:=64) hx.d hy.d⟩
theorem MV{a b c:ak}(ha:a.Ok)(hb:b.Ok)(h:aJ a b=some c):c.Ok:=by
 unfold aJ at h;split at h
 ·cases h
 ·split at h
  ·obtain rfl:=at5 h;exact⟨ha.src,ha.tgt⟩
  ·split at h
   ·obtain rfl:=at5 h;exact⟨ha.src,RN ha.tgt hb.tgt⟩
   ·split at h
    ·obtain rfl:=at5 h;exact⟨RN ha.src hb.src,ha.tgt⟩
    ·cases h
def QH(f:Nat→Option ak):Prop:=∀ k r,f k=some r→r.Ok
theorem QH.set{f:Nat→Option ak}(h:QH f){m:Nat}{v:Option ak}(hv:∀ r,v=some r→r.Ok):QH (jY f m v):=fun k r e=>by
 unfold jY at e;split at e
 ·exact hv r e
 ·exact h k r e
def FD(f f':Nat→Option ak)(i n:Nat)(t:Bool):Prop:=
 (t=false∧f'=f∧∀ a,f i=some a→∀ k y,i<k→k<n→f k=some y→aJ a y=none) ∨
 (t=true∧∃ k a b c,i<k∧k<n∧f i=some a∧f k=some b∧aJ a b=some c∧(∀ j y,i<j→j<k→f j=some y→aJ a y=none)∧f'=jY (jY f i (some c)) k none)
theorem D5{α:Type}{x:Option α}{v:α}(h:x=some v):x.isSome=true:=by rw[h];rfl
theorem MO{f:Nat→Option ak}{a:ak}{i k:Nat}(h:∀ j y,i<j→j<k→f j=some y→aJ a y=none)(h2:∀ y,f k=some y→aJ a y=none):∀ j y,i<j→j<k+1→f j=some y→aJ a y=none:=fun j y h1 h3 h4=>by
 by_cases e:j=k
 ·subst e;exact h2 y h4
 ·exact h j y h1 (by omega) h4
structure Ur (f f':Nat→Option ak) (n t0 t:Nat):Prop where
 le:t≤t0
 some_:(f' t).isSome=true
 np:NP aJ f' n t n
 nf:G0 aJ (seg f' 0 n)=G0 aJ (seg f 0 n)
 len:(seg f' 0 n).length≤(seg f 0 n).length
theorem Mr{f:Nat→Option ak}{h t:Nat}(hs:∀ j x y,j<h→f j=some x→f t=some y→aJ x y=none)(h2:∀ x y,f h=some x→f t=some y→aJ x y=none):∀ j x y,j<h+1→f j=some x→f t=some y→aJ x y=none:=fun j x y h1 h3 h4=>by
 by_cases e:j=h
 ·subst e;exact h2 x y h3 h4
 ·exact hs j x y (by omega) h3 h4
theorem YZ{f:Nat→Option ak}{n h t:Nat}(ht:t≤h)(hp:NP aJ f n t t)(hs:∀ j x y,j<h→f j=some x→f t=some y→aJ x y=none):NP aJ f n t n:=fun j x k y h1 h2 h3 h4 _ h6=>by
 by_cases e:k=t
 ·subst e;exact hs j x y (by omega) h2 h6
 ·exact hp j x k y h1 h2 h3 h4 e h6
theorem Lu{f:Nat→Option ak}{n h t:Nat}{a b c:ak}(hlt:h<t)(ht:t<n)(ha:f h=some a)(hb:f t=some b)(hc:aJ a b=some c)(hp:NP aJ f n t t)(hs:∀ j x y,j<h→f j=some x→f t=some y→aJ x y=none):
 NP aJ (jY (jY f h (some c)) t none) n h h∧G0 aJ (seg (jY (jY f h (some c)) t none) 0 n)=G0 aJ (seg f 0 n)∧(seg (jY (jY f h (some c)) t none) 0 n).length≤(seg f 0 n).length:=by
 have hp':NP aJ f n h n:=fun j x k y h1 h2 h3 h4 _ h6=>by
  by_cases e:k=t
  ·subst e;exact hs j x y h1 h2 h6
  ·exact hp j x k y (by omega) h2 h3 h4 e h6
 have h1:=Gy aJ hlt ht ha hb hc hp' fun j y h1 h2 h3=>hp h a j y hlt ha h1 (by omega) (by omega) h3
 have h2:=qw aJ h1;exact⟨NP.joined aJ hp',(GZ aJ h1).symm,by omega⟩
theorem O5(w0:World)(mb n:Nat)(hn:n≤1000)(L:List (Int×Value))(hM:aX w0 Tryz.prog 3 mb (L.map ival))(f:Nat→Option ak)(hRv:B0 f L)(hfo:QH f)(i:Nat)(hi:i<n)(qa:ak)(ha:f i=some qa):Calls Tryz.prog 84 #[.map (some mb),.int .i64 (i:Int),.int .i64 (n:Int)] w0 (fun(r:Ending) (w':World)=>∃ v,r=.returned v∧((∃ t L' f',v=.bool t∧aX w' Tryz.prog 3 mb (L'.map ival)∧B0 f' L'∧QH f'∧FD f f' i n t)∧St [mb] w0 w')):=by
 have HS:=h_ [mb] _ _ (Below.refl w0.heap.size w0);have hla:=hRv.yes ha;have aM:=hr1 Tryz.prog Tryz.f84 (fun(r:Ending) (w':World)=>∃ v,r=.returned v∧((∃ t L' f',v=.bool t∧aX w' Tryz.prog 3 mb (L'.map ival)∧B0 f' L'∧QH f'∧FD f f' i n t)∧St [mb] w0 w')) 41 6 rfl;refine en Tryz.func84 rfl Tryz.ntmps84 rfl (vs:=[(.map (some mb)),.int .i64 (i:Int),.int .i64 (n:Int)]) rfl fun _ F=>?_
 have M:=Mm.start w0;refine auc fun K1 dw=>ah<|xA (v:=.bool false) F rf rf rf fun _ F=>aud<|dw _ _ ?_
 refine auc fun K2 cQ=>auc fun K3 fJ=>ah<|xM F rf rf rf fun _ F=>
  ke (on rfl) (cL rfl (F.u rf) rfl) rfl F rfl (congrArg (Value.int .i64) (wrap_i64 (by omega))) fun _ F=>
  xA F rf rf rf fun _ F=>
  aud<|
  fJ _ _ ?_
 refine aue<|?_;refine bV (ι:=Nat) (fun k a w=>Fs a 41 [(0,(.map (some mb))),(1,.int .i64 (i:Int)),(2,.int .i64 (n:Int)),(7,.int .i64 (k:Int))]∧Mm w0 w [] []∧(i<k∧k≤n)∧∀ j y,i<j→j<k→f j=some y→aJ qa y=none) (fun k=>n-k) (i+1) ⟨F.sub ⟨rfl,rfl,rfl,rfl,trivial⟩,M,⟨by omega,by omega⟩,(fun j y h1 h2=>by omega)⟩ ?_
 (repeat clear F);(repeat clear M)
 rintro k _ _ ⟨F,M,hk,hno⟩;refine auc fun K4 fQ=>auc fun K5 gL=>?_
 refine ah<|xM F rf rf rf fun _ F=>xM F rf rf rf fun _ F=>kz F rf (d_ rfl (F.u rf) (F.u rf)) fun _ F=>aud<|gL _ _ ?_
 refine auf (F.e 16 rfl) (fun hc1=>?_) (fun hc1=>?_)
 ·have hd2:=of_decide_eq_true hc1;refine wp_skip<|fQ _ _ ?_;refine auc fun K6 iC=>aue<|auc fun K7 iO=>?_
  cases uM:f k with
  | none=>
   have hlk:=hRv.no uM
   refine ah<|xM F rf rf rf fun _ F=>xM F rf rf rf fun _ F=>
    ke (on rfl) (tW (z:=.agg #[.int .i64 0,.int .u64 0,.int .u64 0,.int .u64 0,.int .u64 0,.int .u64 0,.int .u64 0,.int .u64 0,.int .u64 0,.bool false,.int .i64 0,.int .u32 0,.int .i64 0]) u7 (by kernel_rfl) (hM.kept (M.below.block _ hM.lt)) rfl (F.u rf) (F.u rf) (by constructor<;>omega)) rfl F rfl (show _=.tuple #[.agg #[.int .i64 0,.int .u64 0,.int .u64 0,.int .u64 0,.int .u64 0,.int .u64 0,.int .u64 0,.int .u64 0,.int .u64 0,.bool false,.int .i64 0,.int .u32 0,.int .i64 0],.bool false] from oR hlk) fun _ F=>
    xM F rf rf rf fun _ F=>
    kz F rf (b_ rfl (F.u rf) rfl) fun _ F=>
    kz F rf (b_ rfl (F.u rf) rfl) fun _ F=>
    sF (on rfl) rfl oy rfl F rfl M fun g3 _ _ F M=>
    sE (on rfl) rfl (F.u rf) (F.u rf) F M 0 rfl rC rfl rfl rfl fun _ M=>
    xA F rf rf rf fun _ F=>
    aud<|
    iO _ _ ?_
   refine auc fun K8 jf=>auc fun K9 jW=>ah<|xM F rf rf rf fun _ F=>kz F rf (jS rfl (F.u rf)) fun _ F=>aud<|jW _ _ ?_
   refine wp_cond_true (F.e 26 rfl) ?_;refine wp_exit<|iC _ _ ?_
   refine ah<|xM F rf rf rf fun _ F=>
    ke (on rfl) (cL rfl (F.u rf) rfl) rfl F rfl (congrArg (Value.int .i64) (wrap_i64 (by omega))) fun _ F=>
    xA F rf rf rf fun _ F=>
    aud<|?_
   exact⟨k+1,⟨F.sub ⟨rfl,rfl,rfl,rfl,trivial⟩,(M.only (.cons _ .slnil) .slnil),by omega,MO (f:=f) (k:=k) hno (fun y hy=>by rw[uM] at hy;cases hy)⟩,by show n-(k+1)<n-k;omega⟩
  | some qb=>
   have hlk:=hRv.yes uM
   refine ah<|xM F rf rf rf fun _ F=>xM F rf rf rf fun _ F=>
    ke (on rfl) (tW (z:=.agg #[.int .i64 0,.int .u64 0,.int .u64 0,.int .u64 0,.int .u64 0,.int .u64 0,.int .u64 0,.int .u64 0,.int .u64 0,.bool false,.int .i64 0,.int .u32 0,.int .i64 0]) u7 (by kernel_rfl) (hM.kept (M.below.block _ hM.lt)) rfl (F.u rf) (F.u rf) (by constructor<;>omega)) rfl F rfl (show _=.tuple #[.agg #[.int .i64 qb.kind,.int .u64 qb.src.a,.int .u64 qb.src.b,.int .u64 qb.src.c,.int .u64 qb.src.d,.int .u64 qb.tgt.a,.int .u64 qb.tgt.b,.int .u64 qb.tgt.c,.int .u64 qb.tgt.d,.bool qb.self,.int .i64 qb.cls,.int .u32 qb.perms,.int .i64 qb.cond],.bool true] from oQ hlk) fun _ F=>
    xM F rf rf rf fun _ F=>
    kz F rf (b_ rfl (F.u rf) rfl) fun _ F=>
    kz F rf (b_ rfl (F.u rf) rfl) fun _ F=>
    sF (on rfl) rfl oy rfl F rfl M fun g4 _ _ F M=>
    sE (on rfl) rfl (F.u rf) (F.u rf) F M 0 rfl rC rfl rfl rfl fun _ M=>
    xA F rf rf rf fun _ F=>
    aud<|
    iO _ _ ?_
   refine auc fun Bh dU=>auc fun I8 gj=>ah<|xM F rf rf rf fun _ F=>kz F rf (jS rfl (F.u rf)) fun _ F=>aud<|gj _ _ ?_
   refine auh (F.e 26 rfl) ?_;refine wp_skip<|dU _ _ ?_
   refine auc fun I7 fT=>ah<|xM F rf rf rf fun _ F=>xM F rf rf rf fun _ F=>
    ke (on rfl) (pX (z:=.agg #[.int .i64 0,.int .u64 0,.int .u64 0,.int .u64 0,.int .u64 0,.int .u64 0,.int .u64 0,.int .u64 0,.int .u64 0,.bool false,.int .i64 0,.int .u32 0,.int .i64 0]) u7 (by kernel_rfl) (hM.kept (M.below.block _ hM.lt)) rfl (F.u rf) (F.u rf) (by constructor<;>omega)) rfl F rfl (show _=.agg #[.int .i64 qa.kind,.int .u64 qa.src.a,.int .u64 qa.src.b,.int .u64 qa.src.c,.int .u64 qa.src.d,.int .u64 qa.tgt.a,.int .u64 qa.tgt.b,.int .u64 qa.tgt.c,.int .u64 qa.tgt.d,.bool qa.self,.int .i64 qa.cls,.int .u32 qa.perms,.int .i64 qa.cond] from Ia hla) fun _ F=>
    xW F (M.b 0 rfl) rf rf rf Qw rf rC rf fun _ F=>
    xC F M rf rf ab7 (args2 (F.u rf) (F.u rf)) (He _ qa qb (hfo _ _ ha) (hfo _ _ uM)) fun _ _ F M=>
    xM F rf rf rf fun _ F=>
    kz F rf (b_ rfl (F.u rf) rfl) fun _ F=>
    kz F rf (b_ rfl (F.u rf) rfl) fun _ F=>
    sF (on rfl) rfl oy rfl F rfl M fun g5 _ _ F M=>
    sE (on rfl) rfl (F.u rf) (F.u rf) F M 0 rfl rC rfl rfl rfl fun _ M=>
    xA F rf rf rf fun _ F=>
    aud<|
    fT _ _ ?_
   refine auc fun Jh gM=>ah<|xM F rf rf rf fun _ F=>aud<|gM _ _ ?_
   refine auf (F.e 35 rfl) (fun je=>?_) (fun je=>?_)
   ·obtain⟨qc,SL⟩:=Option.isSome_iff_exists.1 je;refine auc fun NR jg=>ah<|xM F rf rf rf fun _ F=>xM F rf rf rf fun _ F=>xW F (M.b 0 rfl) rf rf rf Qw rf rC rf fun _ F=>kpo rfl rfl rfl u7 (F.u rf) (F.u rf) (F.u rf) (by constructor<;>omega) M hM fun wa7 _ QB hM M=>?_
    have HS:=fV _ _ _ _ HS QB;have hRv:=hRv.put (m:=i) (r:=(aJ qa qb).getD qa);refine aud<|jg _ _ ?_;refine auc fun W6 mY=>ah<|xM F rf rf rf fun _ F=>xM F rf rf rf fun _ F=>kdo rfl rfl rfl u7 (F.u rf) (F.u rf) (by constructor<;>omega) M hM (D5 (hRv.yes (r:=qb) (by rw[fC _ _ (by omega)];exact uM))) fun wa8 _ QB hM M=>?_
    have HS:=fV _ _ _ _ HS QB;have hRv:=hRv.cut (m:=k);refine aud<|mY _ _ ?_;refine auc fun K16 tR=>ah<|xA (v:=.bool true) F rf rf rf fun _ F=>aud<|tR _ _ ?_
    refine wp_ret<|aM _ _ _ _ F rfl ?_;rw[show(aJ qa qb).getD qa=qc by rw[SL];rfl] at hRv hM;exact⟨_,rfl,⟨true,_,_,rfl,(hM.kept (M.below.block _ hM.lt)),hRv,(hfo.set fun r e=>by cases e;exact MV (hfo _ _ ha) (hfo _ _ uM) SL).set (fun r e=>by cases e),.inr ⟨rfl,k,qa,qb,qc,hk.1,by omega,ha,uM,SL,hno,rfl⟩⟩,fV _ _ _ _ HS (h_ _ _ _ M.below)⟩
   ·have hjn:aJ qa qb=none:=by simpa using je
    refine wp_skip<|iC _ _ ?_
    refine ah<|xM F rf rf rf fun _ F=>
     ke (on rfl) (cL rfl (F.u rf) rfl) rfl F rfl (congrArg (Value.int .i64) (wrap_i64 (by omega))) fun _ F=>
     xA F rf rf rf fun _ F=>
     aud<|?_
    exact⟨k+1,⟨F.sub ⟨rfl,rfl,rfl,rfl,trivial⟩,(M.only (.cons _ (.cons _ .slnil)) .slnil),by omega,MO (f:=f) (k:=k) hno (fun y hy=>by rw[uM] at hy;obtain rfl:=at5 hy;exact hjn)⟩,by show n-(k+1)<n-k;omega⟩
 ·have Ea:=of_decide_eq_false hc1;refine wp_exit<|cQ _ _ ?_;refine auc fun K17 Lj=>ah<|xA (v:=.bool false) F rf rf rf fun _ F=>aud<|Lj _ _ ?_
  refine wp_ret<|aM _ _ _ _ F rfl ?_
  exact⟨_,rfl,⟨false,_,f,rfl,(hM.kept (M.below.block _ hM.lt)),hRv,hfo,.inl ⟨rfl,rfl,fun a' ha' k' y h1 h2 h3=>by
   rw[ha] at ha';obtain rfl:=at5 ha';exact hno k' y h1 (by omega) h3⟩⟩,fV _ _ _ _ HS (h_ _ _ _ M.below)⟩
theorem Im(w0:World)(mb n:Nat)(hn:n≤1000)(L:List (Int×Value))(hM:aX w0 Tryz.prog 3 mb (L.map ival))(f:Nat→Option ak)(hRv:B0 f L)(hfo:QH f)(t0:Nat)(XB:t0<n)(q0:ak)(ha:f t0=some q0)(hNP:NP aJ f n t0 t0):Calls Tryz.prog 85 #[.map (some mb),.int .i64 (t0:Int)] w0 (fun(r:Ending) (w':World)=>∃ v,r=.returned v∧((∃ t L' f',v=.int .i64 ((t:Nat):Int)∧aX w' Tryz.prog 3 mb (L'.map ival)∧B0 f' L'∧QH f'∧Ur f f' n t0 t)∧St [mb] w0 w')):=by
 have HS:=h_ [mb] _ _ (Below.refl w0.heap.size w0);have aM:=hr1 Tryz.prog Tryz.f85 (fun(r:Ending) (w':World)=>∃ v,r=.returned v∧((∃ t L' f',v=.int .i64 ((t:Nat):Int)∧aX w' Tryz.prog 3 mb (L'.map ival)∧B0 f' L'∧QH f'∧Ur f f' n t0 t)∧St [mb] w0 w')) 39 4 rfl;refine en Tryz.func85 rfl Tryz.ntmps85 rfl (vs:=[(.map (some mb)),.int .i64 (t0:Int)]) rfl fun _ F=>?_
 have M:=Mm.start w0;refine auc fun K1 dw=>ah<|xA (v:=.int .i64 0) F rf rf rf fun _ F=>aud<|dw _ _ ?_
 refine auc fun K2 cQ=>auc fun K3 fJ=>ah<|xA (v:=.int .i64 0) F rf rf rf fun _ F=>aud<|fJ _ _ ?_
 refine aue<|?_;refine bV (ι:=Nat×Nat×(Nat→Option ak)×List (Int×Value)×World) (fun|(hh,tt,ff,LL,wb),a,w=>Fs a 39 [(0,(.map (some mb))),(1,.int .i64 (tt:Int)),(5,.int .i64 (hh:Int))]∧Mm wb w [] []∧aX wb Tryz.prog 3 mb (LL.map ival)∧B0 ff LL∧QH ff∧St [mb] w0 wb∧tt<n∧tt≤t0∧hh≤tt∧(ff tt).isSome=true∧NP aJ ff n tt tt∧(∀ j x y,j<hh→ff j=some x→ff tt=some y→aJ x y=none)∧G0 aJ (seg ff 0 n)=G0 aJ (seg f 0 n)∧(seg ff 0 n).length≤(seg f 0 n).length) (fun|(hh,tt,ff,LL,wb)=>tt*(n+1)+(tt-hh)) (0,t0,f,L,w0) ⟨F.sub ⟨rfl,rfl,rfl,trivial⟩,M,hM,hRv,hfo,HS,XB,Nat.le_refl _,atW _,D5 ha,hNP,(fun j _ _ h=>absurd h (Nat.not_lt_zero j)),rfl,Nat.le_refl _⟩ ?_
 (repeat clear F);(repeat clear M)
 rintro⟨hh,tt,ff,LL,wb⟩ _ _ ⟨F,M,hM,hRv,hfo,HS,ht,hle,hh1,hta,hNP,hsc,hnf,hlen⟩;obtain⟨qt,hqt⟩:=Option.isSome_iff_exists.1 hta;refine auc fun K4 fQ=>auc fun K5 gL=>ah<|xM F rf rf rf fun _ F=>xM F rf rf rf fun _ F=>kz F rf (d_ rfl (F.u rf) (F.u rf)) fun _ F=>aud<|gL _ _ ?_
 refine auf (F.e 12 rfl) (fun hc1=>?_) (fun hc1=>?_)
 ·have hd2:=of_decide_eq_true hc1;refine wp_skip<|fQ _ _ ?_;refine auc fun K6 iC=>aue<|auc fun K7 iO=>?_
  cases uM:ff hh with
  | none=>
   have hlk:=hRv.no uM
   refine ah<|xM F rf rf rf fun _ F=>xM F rf rf rf fun _ F=>
    ke (on rfl) (tW (z:=.agg #[.int .i64 0,.int .u64 0,.int .u64 0,.int .u64 0,.int .u64 0,.int .u64 0,.int .u64 0,.int .u64 0,.int .u64 0,.bool false,.int .i64 0,.int .u32 0,.int .i64 0]) u7 (by kernel_rfl) (hM.kept (M.below.block _ hM.lt)) rfl (F.u rf) (F.u rf) (by constructor<;>omega)) rfl F rfl (show _=.tuple #[.agg #[.int .i64 0,.int .u64 0,.int .u64 0,.int .u64 0,.int .u64 0,.int .u64 0,.int .u64 0,.int .u64 0,.int .u64 0,.bool false,.int .i64 0,.int .u32 0,.int .i64 0],.bool false] from oR hlk) fun _ F=>
    xM F rf rf rf fun _ F=>
    kz F rf (b_ rfl (F.u rf) rfl) fun _ F=>
    kz F rf (b_ rfl (F.u rf) rfl) fun _ F=>
    sF (on rfl) rfl oy rfl F rfl M fun g3 _ _ F M=>
    sE (on rfl) rfl (F.u rf) (F.u rf) F M 0 rfl rC rfl rfl rfl fun _ M=>
    xA F rf rf rf fun _ F=>
    aud<|
    iO _ _ ?_
   refine auc fun K8 jf=>auc fun K9 jW=>ah<|xM F rf rf rf fun _ F=>kz F rf (jS rfl (F.u rf)) fun _ F=>aud<|jW _ _ ?_
   refine wp_cond_true (F.e 22 rfl) ?_;refine wp_exit<|iC _ _ ?_
   refine ah<|xM F rf rf rf fun _ F=>
    ke (on rfl) (cL rfl (F.u rf) rfl) rfl F rfl (congrArg (Value.int .i64) (wrap_i64 (by omega))) fun _ F=>
    xA F rf rf rf fun _ F=>
    aud<|?_
   exact⟨(hh+1,tt,ff,LL,wb),⟨F.sub ⟨rfl,rfl,rfl,trivial⟩,(M.only (.cons _ .slnil) .slnil),hM,hRv,hfo,HS,ht,hle,(by omega),hta,hNP,Mr hsc (fun x y hx _=>by rw[uM] at hx;cases hx),hnf,hlen⟩,by show tt*(n+1)+(tt-(hh+1))<tt*(n+1)+(tt-hh);omega⟩
  | some qa=>
   have hlk:=hRv.yes uM
   refine ah<|xM F rf rf rf fun _ F=>xM F rf rf rf fun _ F=>
    ke (on rfl) (tW (z:=.agg #[.int .i64 0,.int .u64 0,.int .u64 0,.int .u64 0,.int .u64 0,.int .u64 0,.int .u64 0,.int .u64 0,.int .u64 0,.bool false,.int .i64 0,.int .u32 0,.int .i64 0]) u7 (by kernel_rfl) (hM.kept (M.below.block _ hM.lt)) rfl (F.u rf) (F.u rf) (by constructor<;>omega)) rfl F rfl (show _=.tuple #[.agg #[.int .i64 qa.kind,.int .u64 qa.src.a,.int .u64 qa.src.b,.int .u64 qa.src.c,.int .u64 qa.src.d,.int .u64 qa.tgt.a,.int .u64 qa.tgt.b,.int .u64 qa.tgt.c,.int .u64 qa.tgt.d,.bool qa.self,.int .i64 qa.cls,.int .u32 qa.perms,.int .i64 qa.cond],.bool true] from oQ hlk) fun _ F=>
    xM F rf rf rf fun _ F=>
    kz F rf (b_ rfl (F.u rf) rfl) fun _ F=>
    kz F rf (b_ rfl (F.u rf) rfl) fun _ F=>
    sF (on rfl) rfl oy rfl F rfl M fun g4 _ _ F M=>
    sE (on rfl) rfl (F.u rf) (F.u rf) F M 0 rfl rC rfl rfl rfl fun _ M=>
    xA F rf rf rf fun _ F=>
    aud<|
    iO _ _ ?_
   refine auc fun Bh dU=>auc fun I8 gj=>ah<|xM F rf rf rf fun _ F=>kz F rf (jS rfl (F.u rf)) fun _ F=>aud<|gj _ _ ?_
   refine auh (F.e 22 rfl) ?_;refine wp_skip<|dU _ _ ?_
   refine auc fun I7 fT=>ah<|xW F (M.b 0 rfl) rf rf rf Qw rf rC rf fun _ F=>xM F rf rf rf fun _ F=>xM F rf rf rf fun _ F=>
    ke (on rfl) (pX (z:=.agg #[.int .i64 0,.int .u64 0,.int .u64 0,.int .u64 0,.int .u64 0,.int .u64 0,.int .u64 0,.int .u64 0,.int .u64 0,.bool false,.int .i64 0,.int .u32 0,.int .i64 0]) u7 (by kernel_rfl) (hM.kept (M.below.block _ hM.lt)) rfl (F.u rf) (F.u rf) (by constructor<;>omega)) rfl F rfl (show _=.agg #[.int .i64 qt.kind,.int .u64 qt.src.a,.int .u64 qt.src.b,.int .u64 qt.src.c,.int .u64 qt.src.d,.int .u64 qt.tgt.a,.int .u64 qt.tgt.b,.int .u64 qt.tgt.c,.int .u64 qt.tgt.d,.bool qt.self,.int .i64 qt.cls,.int .u32 qt.perms,.int .i64 qt.cond] from Ia (hRv.yes hqt)) fun _ F=>
    xC F M rf rf ab7 (args2 (F.u rf) (F.u rf)) (He _ qa qt (hfo _ _ uM) (hfo _ _ hqt)) fun _ _ F M=>
    xM F rf rf rf fun _ F=>
    kz F rf (b_ rfl (F.u rf) rfl) fun _ F=>
    kz F rf (b_ rfl (F.u rf) rfl) fun _ F=>
    sF (on rfl) rfl oy rfl F rfl M fun g5 _ _ F M=>
    sE (on rfl) rfl (F.u rf) (F.u rf) F M 0 rfl rC rfl rfl rfl fun _ M=>
    xA F rf rf rf fun _ F=>
    aud<|
    fT _ _ ?_
   refine auc fun Jh gM=>ah<|xM F rf rf rf fun _ F=>aud<|gM _ _ ?_
   refine auf (F.e 31 rfl) (fun je=>?_) (fun je=>?_)
   ·obtain⟨qc,SL⟩:=Option.isSome_iff_exists.1 je;refine auc fun NR jg=>ah<|xM F rf rf rf fun _ F=>xM F rf rf rf fun _ F=>xW F (M.b 0 rfl) rf rf rf Qw rf rC rf fun _ F=>kpo rfl rfl rfl u7 (F.u rf) (F.u rf) (F.u rf) (by constructor<;>omega) M hM fun wa7 _ QB hM M=>?_
    have HS:=fV _ _ _ _ HS QB;have hRv:=hRv.put (m:=hh) (r:=((aJ qa qt).getD qa));refine aud<|jg _ _ ?_;refine auc fun W6 mY=>ah<|xM F rf rf rf fun _ F=>xM F rf rf rf fun _ F=>kdo rfl rfl rfl u7 (F.u rf) (F.u rf) (by constructor<;>omega) M hM (D5 (hRv.yes (r:=qt) (by rw[fC _ _ (by omega)];exact hqt))) fun wa8 _ QB hM M=>?_
    have HS:=fV _ _ _ _ HS QB;have hRv:=hRv.cut (m:=tt);refine aud<|mY _ _ ?_;refine ah<|xM F rf rf rf fun _ F=>xA F rf rf rf fun _ F=>xA (v:=.int .i64 (-1)) F rf rf rf fun _ F=>aud<|iC _ _ ?_
    refine ah<|xM F rf rf rf fun _ F=>
     ke (on rfl) (cL rfl (F.u rf) rfl) rfl F rfl (congrArg (Value.int .i64) (wrap_i64 (by omega))) fun _ F=>
     xA F rf rf rf fun _ F=>
     aud<|?_
    rw[show((aJ qa qt).getD qa)=qc by rw[SL];rfl] at hRv hM;obtain⟨hE1,hE2,hE3⟩:=Lu (n:=n) (by omega) ht uM hqt SL hNP hsc;have hE4:=Nat.mul_le_mul_right (n+1) (show hh+1≤tt by omega);rw[Nat.add_mul,Nat.one_mul] at hE4;exact⟨(0,hh,jY (jY ff hh (some qc)) tt none,_,wa8),⟨F.sub ⟨rfl,rfl,rfl,trivial⟩,(M.only (.cons _ (.cons _ .slnil)) .slnil),hM,hRv,((hfo.set fun r e=>by cases e;exact MV (hfo _ _ uM) (hfo _ _ hqt) SL).set fun r e=>by cases e),HS,by omega,by omega,atW _,(by rw[fC _ _ (by omega),qp];rfl),hE1,(fun j _ _ h=>absurd h (Nat.not_lt_zero j)),hE2.trans hnf,at9 hE3 hlen⟩,by show hh*(n+1)+(hh-0)<tt*(n+1)+(tt-hh);omega⟩
   ·have hjn:aJ qa qt=none:=by simpa using je
    refine wp_skip<|iC _ _ ?_
    refine ah<|xM F rf rf rf fun _ F=>
     ke (on rfl) (cL rfl (F.u rf) rfl) rfl F rfl (congrArg (Value.int .i64) (wrap_i64 (by omega))) fun _ F=>
     xA F rf rf rf fun _ F=>
     aud<|?_
    exact⟨(hh+1,tt,ff,LL,wb),⟨F.sub ⟨rfl,rfl,rfl,trivial⟩,(M.only (.cons _ (.cons _ .slnil)) .slnil),hM,hRv,hfo,HS,ht,hle,(by omega),hta,hNP,Mr hsc (fun x y hx hy=>by rw[uM] at hx;rw[hqt] at hy;obtain rfl:=at5 hx;obtain rfl:=at5 hy;exact hjn),hnf,hlen⟩,by show tt*(n+1)+(tt-(hh+1))<tt*(n+1)+(tt-hh);omega⟩
 ·have Ea:=of_decide_eq_false hc1;refine wp_exit<|cQ _ _ ?_;refine auc fun K16 tR=>ah<|xM F rf rf rf fun _ F=>xA F rf rf rf fun _ F=>aud<|tR _ _ ?_
  refine wp_ret<|aM _ _ _ _ F rfl ?_;exact⟨_,rfl,⟨tt,_,ff,rfl,(hM.kept (M.below.block _ hM.lt)),hRv,hfo,⟨hle,hta,YZ (by omega) hNP hsc,hnf,hlen⟩⟩,fV _ _ _ _ HS (h_ _ _ _ M.below)⟩
def RowsIn(B:Nat)(w:World)(T:List Rw):Prop:=(∀ r∈T,w.ownsRow B r.e r.k r.v r.n r.xs)∧T.Pairwise fun r s=>r.v.ownBlock=none∨r.v.ownBlock≠s.v.ownBlock
theorem RowsIn.keep{B:Nat}{w w':World}{T:List Rw}(h:RowsIn B w T)(hb:atZ w.heap.size w w'):RowsIn B w' T:=⟨fun r hr=>dS hb (h.1 r hr) (Nat.le_refl _),h.2⟩
theorem RowsIn.low{B C:Nat}{w:World}{T:List Rw}(h:RowsIn B w T)(hc:C≤B):RowsIn C w T:=⟨fun r hr=>nL (h.1 r hr) hc,h.2⟩
theorem RowsIn.nil(B:Nat)(w:World):RowsIn B w []:=⟨fun _ h=>(by cases h),.nil⟩
theorem bg.fR{B:Nat}{w0 w w':World}{bs:List Bx}{rs T:List Rw}(M:bg B w0 w bs rs)(hb:atZ w.heap.size w w')(hT:RowsIn w.heap.size w' T):bg B w0 w' bs (rs++T):=by
 have M':=M.keep hb;refine⟨M'.below,M'.le,M'.old,M'.box,M.lo,M.nd,fun r hr=>?_,fun r hr b hb'=>?_,List.pairwise_append.2 ⟨M.vC,hT.2,fun r hr s hs=>?_⟩⟩
 ·rcases at7.1 hr with hr|hr
  ·exact M'.row r hr
  ·exact nL (hT.1 r hr) M.big
 ·rcases at7.1 hr with hr|hr
  ·exact M.far r hr b hb'
  ·intro e;have:=((hT.1 r hr).lt _ e).1;have:=(M.box b hb').lt;omega
 ·cases e:r.v.ownBlock with
  | none=>exact .inl rfl
  | some q=>
   refine .inr fun e2=>?_
   have h1:=((M.row r hr).lt q e).2;have h2:=((hT.1 s hs).lt q e2.symm).1;omega
theorem bg.iE{B:Nat}{w0 w:World}{bs:List Bx}{rs:List Rw}(M:bg B w0 w bs rs):RowsIn B w rs:=⟨M.row,M.vC⟩
theorem bg.form{B:Nat}{w0 w:World}{bs:List Bx}{rs:List Rw}(M:bg B w0 w bs rs)(i:Nat){v:Value}{e:TypeId}{k n:Nat}{xs:List Value}(h:rs[i]?=some ⟨v,e,k,n,xs⟩):∃ a c,v=.slice a n c:=by
 obtain⟨a,c,h,-⟩:=fI (M.r i h);exact⟨a,c,h⟩
inductive dA (T:List Rw):List Value→aA→Prop
 | node {op a rel b:Int} {names:List ByteArray} {set:au} {kids:List aA} {nv kv:Value} {es:List (List Value)}:nv.oneCell'=true→kv.oneCell'=true→(⟨nv,9,1,names.length,names.flatMap aN⟩:Rw)∈T→(⟨kv,89,10,kids.length,es.flatten⟩:Rw)∈T→es.length=kids.length→(∀ x∈es,x.length=10) →
  (∀ (i:Nat) x y,es[i]?=some x→kids[i]?=some y→dA T x y) →
  dA T [.int .i64 op,.int .i64 a,.int .i64 rel,.int .i64 b,nv,.int .u64 set.a,.int .u64 set.b,.int .u64 set.c,.int .u64 set.d,kv] (.node op a rel b names set kids)
theorem dA.mono{T T':List Rw}(hs:∀ r∈T,r∈T'){cs:List Value}{e:aA}(h:dA T cs e):dA T' cs e:=by
 induction h with
 | node h1 h2 h3 h4 h5 h6 _ ih=>exact .node h1 h2 (hs _ h3) (hs _ h4) h5 h6 ih
theorem dA.one{T:List Rw}{cs:List Value}{e:aA}(h:dA T cs e):∀ u∈cs,u.oneCell'=true:=by
 cases h with
 | node h1 h2=>
  intro u hu;simp only[atX,List.not_mem_nil,or_false] at hu;rcases hu with rfl|rfl|rfl|rfl|rfl|rfl|rfl|rfl|rfl|rfl<;>first|rfl|assumption
theorem DB(l:List ByteArray):∀ u∈l.flatMap aN,u.oneCell'=true:=fun u hu=>by
 obtain⟨s,-,hs⟩:=List.mem_flatMap.1 hu;simp only[aN,auj] at hs;subst hs;rfl
theorem dA.at_{T:List Rw}{B:Nat}{w:World}(hT:RowsIn B w T){cs:List Value}{e:aA}(h:dA T cs e):bB w cs e:=by
 induction h with
 | @node op a rel b names set kids nv kv es h1 h2 h3 h4 h5 h6 hk ih=>
  refine .node (SliceAt.bM (hT.1 _ h3) (DB _)) h5 h6 (SliceAt.bM (hT.1 _ h4) ?_) ih;intro u hu;obtain⟨x,hx,hux⟩:=List.mem_flatten.1 hu;obtain⟨i,hi⟩:=List.getElem?_of_mem hx;obtain⟨y,hy⟩:∃ y,kids[i]?=some y:=⟨_,at1 (by have:=(aug.1 hi).1;rw[h5] at this;exact this)⟩;exact(hk i x y hi hy).one u hux
inductive uF:aA→Prop
 | node {op a rel b:Int} {names:List ByteArray} {set:au} {kids:List aA}:names.length≤1000000→kids.length≤1000000→(∀ k∈kids,uF k)→uF (.node op a rel b names set kids)
theorem uF.parts{e:aA}(h:uF e):e.names.length≤1000000∧e.kids.length≤1000000∧∀ k∈e.kids,uF k:=by
 cases h with
 | node h1 h2 h3=>exact⟨h1,h2,h3⟩
def xG(wb:World)(y:aA):Good:=fun v u=>∃ na nc ka kc T,v=.agg #[.int .i64 y.op,.int .i64 y.a,.int .i64 y.rel,.int .i64 y.b,.slice na y.names.length nc,.int .u64 y.set.a,.int .u64 y.set.b,.int .u64 y.set.c,.int .u64 y.set.d,.slice ka y.kids.length kc]∧dA T [.int .i64 y.op,.int .i64 y.a,.int .i64 y.rel,.int .i64 y.b,.slice na y.names.length nc,.int .u64 y.set.a,.int .u64 y.set.b,.int .u64 y.set.c,.int .u64 y.set.d,.slice ka y.kids.length kc] y∧RowsIn wb.heap.size u T
theorem z_(wb:World)(y:aA):eN (xG wb y):=fun _ _ _ ⟨na,nc,ka,kc,T,e,h,k⟩ hb=>⟨na,nc,ka,kc,T,e,h,k.keep hb⟩
def SlE(wb:World)(y:aA):Good:=fun v u=>∃ g na nc ka kc T,v=.slice (some ⟨g,0,none⟩) 1 1∧Whole u g 89 #[.int .i64 y.op,.int .i64 y.a,.int .i64 y.rel,.int .i64 y.b,.slice na y.names.length nc,.int .u64 y.set.a,.int .u64 y.set.b,.int .u64 y.set.c,.int .u64 y.set.d,.slice ka y.kids.length kc]∧dA T [.int .i64 y.op,.int .i64 y.a,.int .i64 y.rel,.int .i64 y.b,.slice na y.names.length nc,.int .u64 y.set.a,.int .u64 y.set.b,.int .u64 y.set.c,.int .u64 y.set.d,.slice ka y.kids.length kc] y∧RowsIn wb.heap.size u T
theorem CG(wb:World)(y:aA):eN (SlE wb y):=fun _ _ _ ⟨g,na,nc,ka,kc,T,e,hw,h,k⟩ hb=>⟨g,na,nc,ka,kc,T,e,Whole.under hb hw hw.lt,h,k.keep hb⟩
theorem oZ{w:World}{g:Nat}{t:TypeId}{cs:List Value}{k:Nat}(h:Whole w g t cs.toArray)(hl:cs.length=k)(h1:∀ u∈cs,u.oneCell'=true):SliceAt w (.slice (some ⟨g,0,none⟩) 1 1) k 1 cs:=
 ⟨by simpa using hl,by decide,h1,.inr ⟨_,1,rfl,Nat.le_refl _,fun j u hu=>by rw[Addr.add_lit,Nat.zero_add,h.cell];simpa using hu⟩⟩
theorem Tn(e:aA):aA.node e.op e.a e.rel e.b e.names e.set e.kids=e:=by cases e;rfl
theorem Pb{T T9:List Rw}{es:List (List Value)}{kids:List aA}{m:Nat}{x:List Value}{y:aA}(hl:es.length=m)(h:∀ (i:Nat) x y,es[i]?=some x→kids[i]?=some y→dA T x y)(hy:kids[m]?=some y)(hx:dA T9 x y):
 ∀ (i:Nat) x' y',(es++[x])[i]?=some x'→kids[i]?=some y'→dA (T++T9) x' y':=fun i x' y' h1 h2=>by
 by_cases hi:i<m
 ·rw[List.getElem?_append_left (by omega)] at h1;exact(h i x' y' h1 h2).mono fun r hr=>at7.2 (.inl hr)
 ·have hlt:=(aug.1 h1).1;rw[aua,List.length_singleton,hl] at hlt;obtain rfl:i=m:=by omega
  rw[List.getElem?_append_right (by omega),hl,Nat.sub_self] at h1;obtain rfl:x=x':=by simpa using h1
  obtain rfl:=at5 (hy.symm.trans h2);exact hx.mono fun r hr=>at7.2 (.inr hr)
theorem kY{es:List (List Value)}{x:List Value}{k:Nat}(h:∀ z∈es,z.length=k)(hx:x.length=k):∀ z∈es++[x],z.length=k:=fun z hz=>by
 rcases at7.1 hz with hz|hz
 ·exact h z hz
 ·rw[auj.1 hz];exact hx
theorem iF{es:List (List Value)}{x:List Value}:es.flatten++x=(es++[x]).flatten:=by rw[List.flatten_append];simp
theorem CV{P:Program}{f:FuncId}{args:Array Value}{w wb:World}{y:aA}(h:Calls P f args w fun r w'=>∃ v,r=.returned v∧(xG w y v w'∧atZ w.heap.size w w'))(hi:atZ wb.heap.size wb w):Calls P f args w fun r w'=>∃ v,r=.returned v∧(xG wb y v w'∧atZ w.heap.size w w'):=
 h.mono fun _ _ ⟨v,e,⟨na,nc,ka,kc,T,h1,h2,h3⟩,hb⟩=>⟨v,e,⟨na,nc,ka,kc,T,h1,h2,h3.low hi.size⟩,hb⟩
theorem vJ:∀ (e:aA) (w0:World) (cs:List Value),bB w0 cs e→uF e→Calls Tryz.prog 156 #[.agg cs.toArray] w0 (fun(r:Ending) (w':World)=>∃ v,r=.returned v∧(xG w0 e v w'∧atZ w0.heap.size w0 w')):=by
 refine aA.ind fun e ih=>?_
 intro w0 cs hE iN;obtain⟨nv,kv,rfl,Nb,hkv⟩:=hE.open;obtain⟨ka,kk,rfl,hkk,hkm,hcell⟩:=aC.form hkv (by decide);have aM:=hrC Tryz.prog Tryz.f156 (fun(r:Ending) (w':World)=>∃ v,r=.returned v∧(xG w0 e v w'∧atZ w0.heap.size w0 w')) 28 2 89 rfl j9 rfl eG;refine en Tryz.func156 rfl Tryz.ntmps156 rfl (vs:=[.agg #[.int .i64 e.op,.int .i64 e.a,.int .i64 e.rel,.int .i64 e.b,nv,.int .u64 e.set.a,.int .u64 e.set.b,.int .u64 e.set.c,.int .u64 e.set.d,.slice ka e.kids.length kk]]) rfl fun _ F=>?_
 have M:=Mm.start w0;refine auc fun K1 dw=>ah<|oG (on rfl) rfl (F.u rf) rfl F rfl M fun gx _ _ F M=>sF (on rfl) rfl xH rfl F rfl M fun go _ _ F M=>aud<|dw _ _ ?_
 refine auc fun K2 cQ=>ah<|xF 9 F rf rf rf j9 rf qG rf fun _ F=>xL F (M.b 1 rfl) rf rf rf sM rf rf fun _ F=>xA F rf rf rf fun _ F=>aud<|cQ _ _ ?_
 refine auc fun K3 fJ=>ah<|xF 4 F rf rf rf j9 rf sQ rf fun _ F=>xL F (M.b 1 rfl) rf rf rf Dv rf rf fun _ F=>kx (on rfl) (bw rfl Tryz.func155 acw rfl (args1 (F.u rf))) ((jj _ _ _ _ (Nb.keep M.below) (by have:=iN.parts.1;omega)).mono fun _ _ ⟨v',e,h1,_,h3⟩=>⟨v',e,h1,h3⟩) rfl F rfl M fun aox _ _ adp hB F _=>?_
 obtain⟨BW,BU,rfl,-,-⟩:=fI adp;have M:=M.rQ (r:=⟨.slice BW e.names.length BU,9,1,e.names.length,e.names.flatMap aN⟩) hB adp;refine xF 4 F rf rf rf j9 rf sQ rf fun _ F=>ks (on rfl) rfl (F.u rf) (F.u rf) F M 1 (cs':=#[.int .i64 e.op,.int .i64 e.a,.int .i64 e.rel,.int .i64 e.b,.slice BW e.names.length BU,.int .u64 e.set.a,.int .u64 e.set.b,.int .u64 e.set.c,.int .u64 e.set.d,.slice ka e.kids.length kk]) rfl rfl rfl sQ rfl rfl rfl rfl fun _ M=>xF 9 F rf rf rf j9 rf qG rf fun _ F=>ks (on rfl) rfl (F.u rf) rfl F M 1 (cs':=#[.int .i64 e.op,.int .i64 e.a,.int .i64 e.rel,.int .i64 e.b,.slice BW e.names.length BU,.int .u64 e.set.a,.int .u64 e.set.b,.int .u64 e.set.c,.int .u64 e.set.d,.slice none 0 0]) rfl rfl rfl qG rfl rfl rfl rfl fun _ M=>aud<|fJ _ _ ?_
 refine auc fun K4 fQ=>auc fun K5 gL=>?_
 have M:=M.bX 89 10;refine ah<|xM F rf rf rf fun _ F=>kz F rf (bA rfl (F.u rf) sM) fun _ F=>xM (v:=.int .i64 0) F rf rf rf fun _ F=>aud<|gL _ _ ?_
 refine aue<|?_;refine bV (ι:=Nat×Value×List (List Value)×List Rw) (fun|(m,v,es,T),a,w=>Fs a 28 [(1,.pointer (some ⟨gx,0,none⟩)),(2,.pointer (some ⟨go,0,none⟩)),(13,.slice ka e.kids.length kk),(14,.int .i64 (e.kids.length:Int)),(15,.int .i64 (m:Int))]∧Mm w0 w [(go,89,#[.int .i64 0,.int .i64 0,.int .i64 0,.int .i64 0,.slice none 0 0,.int .u64 0,.int .u64 0,.int .u64 0,.int .u64 0,.slice none 0 0]),(gx,89,#[.int .i64 e.op,.int .i64 e.a,.int .i64 e.rel,.int .i64 e.b,.slice BW e.names.length BU,.int .u64 e.set.a,.int .u64 e.set.b,.int .u64 e.set.c,.int .u64 e.set.d,v])] ([⟨v,89,10,m,es.flatten⟩,⟨.slice BW e.names.length BU,9,1,e.names.length,e.names.flatMap aN⟩]++T)∧m≤e.kids.length∧es.length=m∧(∀ x∈es,x.length=10)∧(∀ (i:Nat) x y,es[i]?=some x→e.kids[i]?=some y→dA T x y)) (fun|(m,v,es,T)=>e.kids.length-m) (0,.slice none 0 0,[],[]) ⟨F.sub ⟨rfl,rfl,rfl,rfl,rfl,trivial⟩,M,atW _,rfl,(fun _ h=>by cases h),(fun i x y h=>by simp at h)⟩ ?_
 (repeat clear F);(repeat clear M)
 rintro⟨m,v,es,T⟩ _ _ ⟨F,M,hm,hes,BG,hT⟩;refine auc fun K6 iC=>ah<|kz F rf (d_ rfl (F.u rf) (F.u rf)) fun _ F=>aud<|iC _ _ ?_
 refine auc fun K7 iO=>?_
 refine auf (F.e 16 rfl) (fun hc1=>?_) (fun hc1=>?_)
 ·have hd2:=of_decide_eq_true hc1;refine wp_skip<|iO _ _ ?_;refine auc fun K8 jf=>aue<|auc fun K9 jW=>?_
  have hlty:m<e.kids.length:=by omega
  obtain⟨y,hy⟩:∃ y,e.kids[m]?=some y:=⟨_,at1 hlty⟩;obtain⟨b9,o9,cs9,rfl,Nh,-,Pn⟩:=hcell m y hy;obtain⟨_,_,rfl,SI,hkky⟩:=Nh.open;obtain⟨nay,nky,rfl,-⟩:=SliceAt.form SI (by decide);obtain⟨kay,kky,rfl,-⟩:=aC.form hkky (by decide)
  refine ah<|
   kz F rf (aK (i:=m) rfl (F.u rf) (F.u rf) (by omega) sM eG) fun _ F=>
   kz F rf (bT [.int .i64 y.op,.int .i64 y.a,.int .i64 y.rel,.int .i64 y.b,.slice nay y.names.length nky,.int .u64 y.set.a,.int .u64 y.set.b,.int .u64 y.set.c,.int .u64 y.set.d,.slice kay y.kids.length kky] rfl (F.u rf) j9 rfl eG (dJ M.below Pn)) fun _ F=>
   sF (on rfl) rfl xH rfl F rfl M fun g3 _ _ F M=>
   sE (on rfl) rfl (F.u rf) (F.u rf) F M 0 rfl eG rfl rfl rfl fun _ M=>
   aud<|
   jW _ _ ?_
  have hkS:=iN.parts.2.2;have hkL:=iN.parts.2.1;refine rd 5 [19,20,21,22,23] [bL (.pointer (some ⟨gx,9,none⟩)),bL (v),bL (.agg #[.int .i64 y.op,.int .i64 y.a,.int .i64 y.rel,.int .i64 y.b,.slice nay y.names.length nky,.int .u64 y.set.a,.int .u64 y.set.b,.int .u64 y.set.c,.int .u64 y.set.d,.slice kay y.kids.length kky]),(xG M.wd y),(SlE M.wd y)] (by kernel_rfl) (by kernel_rfl) (by kernel_rfl) rfl (by decide) rfl rfl F ⟨aj _,aj _,aj _,z_ _ _,CG _ _,trivial⟩ ⟨?_,?_,?_,?_,?_,trivial⟩ ?_
  ·exact fun a w Q' hf hi H G hK=>dv (on rfl) (aI rfl (G 1 _ rfl (F.g 1 rfl)).ev j9 rfl qG) rfl hf rfl hK rfl
  ·exact fun a w Q' hf hi H G hK=>dv (on rfl) (aD rfl (iA (H 0 ⟨.data,by simp,rfl⟩ _ _ rfl rfl)).ev sM rfl (((M.keep hi).b 2 rfl).c1 9)) rfl hf rfl hK rfl
  ·exact fun a w Q' hf hi H G hK=>dv (on rfl) (lV rfl (G 5 _ rfl (F.g 5 rfl)).ev j9 rfl ((M.keep hi).b 0 rfl) eG rfl) rfl hf rfl hK rfl
  ·exact fun a w Q' hf hi H G hK=>dx (on rfl) (bw rfl Tryz.func156 acv rfl (args1 (iA (H 2 ⟨.data,by simp,rfl⟩ _ _ rfl rfl)).ev)) (CV (ih y (at2 hy) _ _ (Nh.keep (M.keep hi).below) (hkS y (at2 hy))) hi) rfl hf rfl hK
  ·intro a w Q' hf hi H G hK;obtain⟨_,h22,Y2,Y1,Za,Y_,T9,rfl,Le,Px⟩:=H 3 ⟨.data,by simp,rfl⟩ _ _ rfl rfl;exact dn (f:=fun n=>.slice (some ⟨n,0,none⟩) 1 1) (on rfl) (kB rfl sM eG xH (by decide) (by decide) (pv:=#[(0,.agg #[.int .i64 y.op,.int .i64 y.a,.int .i64 y.rel,.int .i64 y.b,.slice Y2 y.names.length Y1,.int .u64 y.set.a,.int .u64 y.set.b,.int .u64 y.set.c,.int .u64 y.set.d,.slice Za y.kids.length Y_])]) (by simp[h22.ev]) (cells:=#[.int .i64 y.op,.int .i64 y.a,.int .i64 y.rel,.int .i64 y.b,.slice Y2 y.names.length Y1,.int .u64 y.set.a,.int .u64 y.set.b,.int .u64 y.set.c,.int .u64 y.set.d,.slice Za y.kids.length Y_]) (by kernel_rfl)) rfl hf rfl hK (fun b w' n=>⟨b,Y2,Y1,Za,Y_,T9,rfl,n.whole,Le,Px.keep n.below⟩)
  (repeat clear F);intro _ _ qK F D
  have M0:=M;have SN:=qK;obtain⟨_,h,rfl⟩:=D 1 _ _ rfl rfl;have F:=F.add h;obtain⟨_,h,g9,Y2,Y1,Za,Y_,T9,rfl,hW9,Le,Px⟩:=D 4 _ _ rfl rfl;have F:=F.add h;have M:=M.keep qK;clear D qK;have M:=M0.fR SN Px;replace M:=M.cast (rs':=[⟨v,89,10,m,es.flatten⟩,⟨.slice BW e.names.length BU,9,1,e.names.length,e.names.flatMap aN⟩]++(T++T9)) rfl rfl;intro Qt BI;refine kp (on rfl) rfl sM ac3 rfl M 0 rfl (F.u rf) (F.u rf) (oZ (hW9) rfl Le.one) ⟨by unfold maxLen;omega,by omega⟩ rfl F rfl fun v4 _ _ F M=>aud (BI _ _ ?_)
  intro Qt BI;refine xF 9 F rf rf rf j9 rf qG rf fun _ F=>aud (BI _ _ ?_)
  intro Qt BI;obtain⟨va5,vc6,rfl⟩:=M.form 0 rfl;refine ks (on rfl) rfl (F.u rf) (F.u rf) F M 2 (cs':=#[.int .i64 e.op,.int .i64 e.a,.int .i64 e.rel,.int .i64 e.b,.slice BW e.names.length BU,.int .u64 e.set.a,.int .u64 e.set.b,.int .u64 e.set.c,.int .u64 e.set.d,.slice va5 (m+1) vc6]) rfl rfl rfl qG rfl rfl rfl rfl fun _ M=>aud (BI _ _ ?_)
  refine jf _ _ ?_
  refine ah<|
   ke (on rfl) (cL rfl (F.u rf) rfl) rfl F rfl (congrArg (Value.int .i64) (wrap_i64 (by omega))) fun _ F=>
   xM F rf rf rf fun _ F=>
   aud<|?_
  exact⟨(m+1,.slice va5 (m+1) vc6,es++[([.int .i64 y.op,.int .i64 y.a,.int .i64 y.rel,.int .i64 y.b,.slice Y2 y.names.length Y1,.int .u64 y.set.a,.int .u64 y.set.b,.int .u64 y.set.c,.int .u64 y.set.d,.slice Za y.kids.length Y_]:List Value)],T++T9),⟨F.sub ⟨rfl,rfl,rfl,rfl,rfl,trivial⟩,((M.only (.cons _ (.cons_cons _ (.cons_cons _ .slnil))) (.cons_cons _ (.cons_cons _ (List.Sublist.refl _))))).cast rfl (show([⟨.slice va5 (m+1) vc6,89,10,m+1,es.flatten++[.int .i64 y.op,.int .i64 y.a,.int .i64 y.rel,.int .i64 y.b,.slice Y2 y.names.length Y1,.int .u64 y.set.a,.int .u64 y.set.b,.int .u64 y.set.c,.int .u64 y.set.d,.slice Za y.kids.length Y_]⟩,⟨.slice BW e.names.length BU,9,1,e.names.length,e.names.flatMap aN⟩]++(T++T9))=[⟨.slice va5 (m+1) vc6,89,10,m+1,(es++[([.int .i64 y.op,.int .i64 y.a,.int .i64 y.rel,.int .i64 y.b,.slice Y2 y.names.length Y1,.int .u64 y.set.a,.int .u64 y.set.b,.int .u64 y.set.c,.int .u64 y.set.d,.slice Za y.kids.length Y_]:List Value)]).flatten⟩,⟨.slice BW e.names.length BU,9,1,e.names.length,e.names.flatMap aN⟩]++(T++T9) by rw[iF]),by omega,(by rw[aua,hes];rfl),kY BG rfl,Pb hes hT hy Le⟩,by show e.kids.length-(m+1)<e.kids.length-m;omega⟩
 ·have QA:=of_decide_eq_false hc1;refine wp_exit<|fQ _ _ ?_;refine auc fun Bh dU=>?_
  obtain⟨va8,vc8,rfl⟩:=M.form 0 rfl;refine ah<|xW F (M.b 1 rfl) rf rf rf j9 rf eG rf fun _ F=>sE (on rfl) rfl (F.u rf) (F.u rf) F M 0 rfl eG rfl rfl rfl fun _ M=>aud<|dU _ _ ?_
  refine wp_ret<|aM _ _ _ _ _ _ F rfl (M.b 0 rfl) rfl ?_;obtain rfl:m=e.kids.length:=by omega
  exact⟨_,rfl,⟨_,_,_,_,_,rfl,(by
   have h:=dA.node (T:=_) (op:=e.op) (a:=e.a) (rel:=e.rel) (b:=e.b) (names:=e.names) (set:=e.set) (kids:=e.kids) (es:=es) (nv:=.slice BW e.names.length BU) (kv:=.slice va8 e.kids.length vc8) rfl rfl (at4 _ (at3 ..)) (at3 ..) hes BG (fun i x y h1 h2=>(hT i x y h1 h2).mono fun r hr=>at4 _ (at4 _ hr))
   rwa [Tn] at h),M.iE⟩,M.below⟩
theorem Lw{B:Nat}{w0 w:World}{bs:List Bx}{rs:List Rw}{X:Prop}{f:FuncId}{args:Array Value}{e kk n:Nat}{xs:List Value}{K:Value→List Bx→List Rw→World→Prop}(M:bg B w0 w bs rs)
 (hc:Calls Tryz.prog f args w fun r w'=>∃ u,r=.returned u∧(w'.ownsRow w.heap.size e kk u n xs∧atZ w.heap.size w w')) (h:∀ a c w',bg B w0 w' bs (⟨.slice a n c,e,kk,n,xs⟩::rs)→K (.slice a n c) bs (⟨.slice a n c,e,kk,n,xs⟩::rs) w') :
 X∨∃ R:Value→World→Prop,(Calls Tryz.prog f args w fun e w'=>∃ v,e=.returned v∧R v w')∧∀ v w',R v w'→∃ bs' rs',bg B w0 w' bs' rs'∧K v bs' rs' w':=
 .inr ⟨_,hc,fun v w' ⟨h1,h2⟩=>by
  obtain⟨a,c,rfl,-,-⟩:=fI h1;have M':=M.rQ (r:=⟨.slice a n c,e,kk,n,xs⟩) h2 h1;exact⟨_,_,M',h a c w' M'⟩⟩
theorem Vh{α:Type}{l:List α}{i:Nat}{b:α}{f:List α→Prop}(hi:i<l.length)(h:f (l.set i b)):zH l i b f:=by
 induction l generalizing i f with
 | nil=>exact absurd hi (Nat.not_lt_zero _)
 | cons x r ih=>cases i with
  | zero=>exact h
  | succ i=>exact ih (f:=fun r'=>f (x::r')) (by simpa using hi) h
theorem Ub{B:Nat}{w0 w:World}{bs P6:List Bx}{rs OG:List Rw}{u v:Value}{e kk QE nn mm:Nat}{xs news:List Value}{k:Value→List Bx→List Rw→World→Prop}(i:Nat)(hM:bg B w0 w bs rs→bg B w0 w P6 OG)(hr:OG[i]?=some ⟨v,e,kk,nn,xs⟩)(hs:SliceAt w u kk mm news)
 (hb:nn+mm≤maxLen∧(nn+mm)*QE≤140737488355328) (h:∀ a c w',zH OG i ⟨.slice a (nn+mm) c,e,kk,nn+mm,xs++news⟩ fun rs'=>bg B w0 w' P6 rs'→k (.slice a (nn+mm) c) P6 rs' w') (hW:Nat.beq e 52=false∨w0.heap.size≤B:=by first|exact .inl rfl|exact .inr (Nat.le_refl _)):apO B w0 bs rs w u v e kk QE k:=
 ap i hM hr hs hb (fun v' w'=>Vh (aug.1 hr).1 fun M=>by
  obtain⟨a,c,rfl⟩:=M.form i (v:=v') (e:=e) (k:=kk) (n:=nn+mm) (xs:=xs++news) (by rw[List.getElem?_set_self (aug.1 hr).1]);exact yG (h a c w') M) hW
theorem tj{α:Type}{R:List Rw→List Value→α→Prop}(hm:∀ T T' x y,(∀ r∈T,r∈T')→R T x y→R T' x y){T T':List Rw}{es:List (List Value)}{l:List α}{m:Nat}{x:List Value}{y:α}(hl:es.length=m)(h:∀ (i:Nat) x y,es[i]?=some x→l[i]?=some y→R T x y)(hy:l[m]?=some y)(hs:∀ r∈T,r∈T')(hx:R T' x y):
 ∀ (i:Nat) x' y',(es++[x])[i]?=some x'→l[i]?=some y'→R T' x' y':=fun i x' y' h1 h2=>by
 by_cases hi:i<m
 ·rw[List.getElem?_append_left (by omega)] at h1;exact hm _ _ _ _ hs (h i x' y' h1 h2)
 ·have hlt:=(aug.1 h1).1;rw[aua,List.length_singleton,hl] at hlt;obtain rfl:i=m:=by omega
  rw[List.getElem?_append_right (by omega),hl,Nat.sub_self] at h1;obtain rfl:x=x':=by simpa using h1
  obtain rfl:=at5 (hy.symm.trans h2);exact hx
theorem fE{α:Type}{f:α→List Value}{l:List α}(h:∀ x,(f x).all (·.oneCell')=true):∀ u∈l.flatMap f,u.oneCell'=true:=fun u hu=>by
 obtain⟨x,-,hx⟩:=List.mem_flatMap.1 hu;exact List.all_eq_true.1 (h x) u hx
def uH(T:List Rw)(x:List Value)(y:lG):Prop:=∃ a c,x=[.string y.name,.slice a y.perms.length c]∧(⟨.slice a y.perms.length c,9,1,y.perms.length,y.perms.flatMap aN⟩:Rw)∈T
def uz(T:List Rw)(x:List Value)(y:lI):Prop:=∃ a c,x=[.string y.name,.slice a y.lY.length c,.bool y.perm]∧(⟨.slice a y.lY.length c,9,1,y.lY.length,y.lY.flatMap aN⟩:Rw)∈T
def uG(T:List Rw)(x:List Value)(y:oh):Prop:=∃ es,x=[.int .i64 y.cls,.int .u32 y.perms,.bool y.val]++es∧dA T es y.expr
theorem uH.mono{T T':List Rw}(hs:∀ r∈T,r∈T'){x:List Value}{y:lG}(h:uH T x y):uH T' x y:=by
 obtain⟨a,c,e,h⟩:=h;exact⟨a,c,e,hs _ h⟩
theorem uz.mono{T T':List Rw}(hs:∀ r∈T,r∈T'){x:List Value}{y:lI}(h:uz T x y):uz T' x y:=by
 obtain⟨a,c,e,h⟩:=h;exact⟨a,c,e,hs _ h⟩
theorem uG.mono{T T':List Rw}(hs:∀ r∈T,r∈T'){x:List Value}{y:oh}(h:uG T x y):uG T' x y:=by
 obtain⟨es,e,h⟩:=h;exact⟨es,e,h.mono hs⟩
theorem uH.at_{T:List Rw}{B:Nat}{w:World}(hT:RowsIn B w T){x:List Value}{y:lG}(h:uH T x y):qm w x y:=by
 obtain⟨a,c,e,h⟩:=h;exact⟨_,e,SliceAt.bM (hT.1 _ h) (DB _)⟩
theorem uz.at_{T:List Rw}{B:Nat}{w:World}(hT:RowsIn B w T){x:List Value}{y:lI}(h:uz T x y):p9 w x y:=by
 obtain⟨a,c,e,h⟩:=h;exact⟨_,e,SliceAt.bM (hT.1 _ h) (DB _)⟩
theorem uG.at_{T:List Rw}{B:Nat}{w:World}(hT:RowsIn B w T){x:List Value}{y:oh}(h:uG T x y):ql w x y:=by
 obtain⟨es,e,h⟩:=h;exact⟨es,e,h.at_ hT⟩
theorem uH.one{T:List Rw}{x:List Value}{y:lG}(h:uH T x y):∀ u∈x,u.oneCell'=true:=by
 obtain⟨a,c,rfl,-⟩:=h;intro u hu;simp only[atX,List.not_mem_nil,or_false] at hu;rcases hu with rfl|rfl<;>rfl
theorem uz.one{T:List Rw}{x:List Value}{y:lI}(h:uz T x y):∀ u∈x,u.oneCell'=true:=by
 obtain⟨a,c,rfl,-⟩:=h;intro u hu;simp only[atX,List.not_mem_nil,or_false] at hu;rcases hu with rfl|rfl|rfl<;>rfl
theorem uG.one{T:List Rw}{x:List Value}{y:oh}(h:uG T x y):∀ u∈x,u.oneCell'=true:=by
 obtain⟨es,rfl,h⟩:=h;intro u hu;rcases at7.1 hu with hu|hu
 ·simp only[atX,List.not_mem_nil,or_false] at hu;rcases hu with rfl|rfl|rfl<;>rfl
 ·exact h.one u hu
theorem tg{α:Type}{k:Nat}{R:List Value→α→Prop}{w:World}{B e n:Nat}{v:Value}{es:List (List Value)}{l:List α}(ho:w.ownsRow B e k v n es.flatten)(hn:n=l.length)(hl:es.length=n)(hk:∀ x∈es,x.length=k)(h1:∀ (i:Nat) x y,es[i]?=some x→l[i]?=some y→R x y)(hone:∀ x y,R x y→∀ u∈x,u.oneCell'=true):aC k R w v l:=by
 subst hn;refine⟨es,hl,hk,SliceAt.bM ho fun u hu=>?_,h1⟩;obtain⟨x,hx,hux⟩:=List.mem_flatten.1 hu;obtain⟨i,hi⟩:=List.getElem?_of_mem hx;obtain⟨y,hy⟩:∃ y,l[i]?=some y:=⟨_,at1 (by have:=(aug.1 hi).1;rw[hl] at this;exact this)⟩;exact hone x y (h1 i x y hi hy) u hux
theorem pF{α:Type}{k:Nat}{R R':List Value→α→Prop}{w:World}{v:Value}{l:List α}(h:aC k R w v l)(hr:∀ x y,R x y→R' x y):aC k R' w v l:=by
 obtain⟨es,h1,h2,h3,h4⟩:=h;exact⟨es,h1,h2,h3,fun i x y hx hy=>hr x y (h4 i x y hx hy)⟩
structure qg (p:aG):Prop where
 classes:p.classes.length≤1000000
 perms:∀ x∈p.classes,x.perms.length≤1000000
 types:p.types.length≤1000000
 lY:∀ x∈p.types,x.lY.length≤1000000
 attrs:p.attrs.length≤1000000
 roles:p.roles.length≤1000000
 users:p.users.length≤1000000
 bools:p.bools.length≤1000000
 aV:p.aV.length≤1000000
 cats:p.cats.length≤1000000
 conds:p.conds.length≤1000000
 X6:∀ x∈p.conds,uF x
 rules:p.rules.length≤1000000
 trans:p.trans.length≤1000000
 aQ:p.aQ.length≤1000000
 ranges:p.ranges.length≤1000000
 cons:p.cons.length≤1000000
 ahQ:∀ x∈p.cons,uF x.expr
 bP:p.bP.length≤1000000
 files:p.files.length≤1000000
 asserts:p.asserts.length≤1000000
def Bc(wb:World)(p:aG):Good:=fun v u=>∃ x0 n0 x1 n1 x2 n2 x3 n3 x4 n4 x5 n5 x6 n6 x7 n7 x8 n8 x9 n9 x10 n10 oF n11 oD n12 JG n13 JF n14 JE n15 JD n16 T,v=.agg #[.slice x0 p.classes.length n0,.slice x1 p.types.length n1,.slice x2 p.attrs.length n2,.slice x3 p.roles.length n3,.slice x4 p.users.length n4,.slice x5 p.bools.length n5,.slice x6 p.aV.length n6,.slice x7 p.cats.length n7,.slice x8 p.conds.length n8,.slice x9 p.rules.length n9,.slice x10 p.trans.length n10,.slice oF p.aQ.length n11,.slice oD p.ranges.length n12,.slice JG p.cons.length n13,.slice JF p.bP.length n14,.slice JE p.files.length n15,.slice JD p.asserts.length n16]∧RowsIn wb.heap.size u T∧∀ B u',RowsIn B u' T→aL u' (.slice x0 p.classes.length n0) (.slice x1 p.types.length n1) (.slice x2 p.attrs.length n2) (.slice x3 p.roles.length n3) (.slice x4 p.users.length n4) (.slice x5 p.bools.length n5) (.slice x6 p.aV.length n6) (.slice x7 p.cats.length n7) (.slice x8 p.conds.length n8) (.slice x9 p.rules.length n9) (.slice x10 p.trans.length n10) (.slice oF p.aQ.length n11) (.slice oD p.ranges.length n12) (.slice JG p.cons.length n13) (.slice JF p.bP.length n14) (.slice JE p.files.length n15) (.slice JD p.asserts.length n16) p
theorem O6(wb:World)(p:aG):eN (Bc wb p):=fun _ _ _ ⟨x0,n0,x1,n1,x2,n2,x3,n3,x4,n4,x5,n5,x6,n6,x7,n7,x8,n8,x9,n9,x10,n10,oF,n11,oD,n12,JG,n13,JF,n14,JE,n15,JD,n16,T,e,h,k⟩ hb=>⟨x0,n0,x1,n1,x2,n2,x3,n3,x4,n4,x5,n5,x6,n6,x7,n7,x8,n8,x9,n9,x10,n10,oF,n11,oD,n12,JG,n13,JF,n14,JE,n15,JD,n16,T,e,h.keep hb,k⟩
theorem wj(w0:World)(c0 c1 c2 c3 c4 c5 c6 c7 c8 c9 aW aP aO aU aT aS aR:Value)(p:aG)(hp:aL w0 c0 c1 c2 c3 c4 c5 c6 c7 c8 c9 aW aP aO aU aT aS aR p)(iN:qg p):Calls Tryz.prog 81 #[.agg #[c0,c1,c2,c3,c4,c5,c6,c7,c8,c9,aW,aP,aO,aU,aT,aS,aR]] w0 (fun(r:Ending) (w':World)=>∃ v,r=.returned v∧(Bc w0 p v w'∧atZ w0.heap.size w0 w')):=by
 obtain⟨a0,a1,a2,a3,a4,a5,a6,a7,a8,a9,a10,a11,a12,a13,a14,a15,a16,k0,k1,k2,k3,k4,k5,k6,k7,k8,k9,k10,k11,k12,k13,k14,k15,k16,rfl,rfl,rfl,rfl,rfl,rfl,rfl,rfl,rfl,rfl,rfl,rfl,rfl,rfl,rfl,rfl,rfl⟩:=hp.open;refine fL [] (fn:=Tryz.f81) Tryz.func81 rfl Tryz.ntmps81 rfl<|fun g1 w1 M1=>ei<|an oI fun g2 w2 M2=>lb 1<|an rfl<|ei<|an oI fun g3 w3 M3=>lb 0<|an ⟨rfl,rfl⟩ fun w4 M4=>lb 0<|an ⟨rfl,rfl⟩ fun w5 M5=>lb 0<|an ⟨rfl,rfl⟩ fun w6 M6=>lb 0<|an ⟨rfl,rfl⟩ fun w7 M7=>lb 0<|an ⟨rfl,rfl⟩ fun w8 M8=>?_
 clear M1 M2 M3 M4 M5 M6 M7 M8;refine lb 2<|an rfl<|lp (ι:=Nat×Value×List (List Value)×List Rw) (fun(m0,u,Nl,T0)=>[(20,.int .i64 (m0:Int))]) (fun(m0,u,Nl,T0)=>(g3,39,#[u,.slice none 0 0,.slice a2 p.attrs.length k2,.slice a3 p.roles.length k3,.slice a4 p.users.length k4,.slice a5 p.bools.length k5,.slice a6 p.aV.length k6,.slice a7 p.cats.length k7,.slice none 0 0,.slice a9 p.rules.length k9,.slice a10 p.trans.length k10,.slice a11 p.aQ.length k11,.slice a12 p.ranges.length k12,.slice none 0 0,.slice a14 p.bP.length k14,.slice a15 p.files.length k15,.slice a16 p.asserts.length k16])::_) (fun(m0,u,Nl,T0)=>⟨u,180,2,m0,Nl.flatten⟩::([]++T0)) (fun(m0,u,Nl,T0) _=>m0≤p.classes.length∧Nl.length=m0∧(∀ x∈Nl,x.length=2)∧(∀ (i:Nat) x y,Nl[i]?=some x→p.classes[i]?=some y→uH T0 x y)∧∀ r∈([]:List Rw),r∈T0) (fun(m0,u,Nl,T0)=>p.classes.length-m0) (0,.slice none 0 0,[],[]) (an ⟨⟨rfl,trivial⟩,fun M=>⟨M.bX 180 2,atW _,rfl,(fun _ h=>by cases h),(fun i x y h=>by simp at h),fun _ h=>h⟩⟩ ?_);rintro⟨m0,u,Nl,T0⟩ w M ⟨hm0,hl0,he0,hR0,hs0⟩;refine an (fun h=>?_) fun h=>?_
 ·have hlt:m0<p.classes.length:=by simp at h;omega
  have hB:=iN.classes;obtain⟨y,hy⟩:∃ y,p.classes[m0]?=some y:=⟨_,at1 hlt⟩;obtain⟨b,o,_,e,⟨pv,rfl,hpv⟩,hc⟩:=aC.elt hp.classes (by decide) hy;obtain⟨_,_,rfl,-⟩:=bp.get hpv;have hsY:=iN.perms y (at2 hy);exact ia<|an ⟨e,rfl,hlt⟩<|lc<|an (dJ M.below hc)<|ei<|an Mc fun g4 w9 M9=>lb 0<|an ⟨rfl,rfl⟩ fun xR sA=>lb 0<|an rfl<|Lw sA ((jj _ _ _ _ (hpv.keep sA.below) (by omega)).mono fun _ _ ⟨v',e,h1,_,h3⟩=>⟨v',e,h1,h3⟩) fun pa pc JJ M11=>lb 0<|an ⟨rfl,rfl⟩ fun Mg Jg=>lb 1<|an rfl<|lb 0<|an rfl<|fun g5 N_ zh=>Ub 1 id rfl (zh.slice 0 rfl (k:=2) (n:=1) rfl rfl (by simp[maxLen])) ⟨by unfold maxLen;omega,by omega⟩ fun va vc Ut Jf=>lb 2<|an ⟨rfl,rfl⟩ fun N9 FK=>an (by omega)<|bk (m0+1,.slice va (m0+1) vc,Nl++[[.string y.name,.slice pa y.perms.length pc]],⟨.slice pa y.perms.length pc,9,1,y.perms.length,y.perms.flatMap aN⟩::T0) ⟨rfl,trivial⟩ (fun M=>⟨((M.only (.cons _ (.cons _ (.refl _))) (.refl _)).perm (List.perm_middle (l₁:=_::[])).symm).cast rfl (by dsimp only;rw[← iF];rfl),by omega,by rw[aua,hl0];rfl,kY he0 rfl,tj (R:=uH) (fun _ _ _ _ hs0 h=>uH.mono hs0 h) hl0 hR0 hy (fun r hr=>at4 _ hr) ⟨_,_,rfl,at3 ..⟩,fun r hr=>at4 _ (hs0 r hr)⟩) (by dsimp only;omega)
 have hq0:m0=p.classes.length:=by simp at h;omega
 obtain⟨x0,y0,rfl⟩:=M.form 0 rfl;clear M h;refine lb 2<|an rfl<|lp (ι:=Nat×Value×List (List Value)×List Rw) (fun(m1,u,PN,T1)=>[(38,.int .i64 (m1:Int))]) (fun(m1,u,PN,T1)=>(g3,39,#[.slice x0 m0 y0,u,.slice a2 p.attrs.length k2,.slice a3 p.roles.length k3,.slice a4 p.users.length k4,.slice a5 p.bools.length k5,.slice a6 p.aV.length k6,.slice a7 p.cats.length k7,.slice none 0 0,.slice a9 p.rules.length k9,.slice a10 p.trans.length k10,.slice a11 p.aQ.length k11,.slice a12 p.ranges.length k12,.slice none 0 0,.slice a14 p.bP.length k14,.slice a15 p.files.length k15,.slice a16 p.asserts.length k16])::_) (fun(m1,u,PN,T1)=>⟨u,86,3,m1,PN.flatten⟩::([(⟨.slice x0 m0 y0,180,2,m0,Nl.flatten⟩:Rw)]++T1)) (fun(m1,u,PN,T1) _=>m1≤p.types.length∧PN.length=m1∧(∀ x∈PN,x.length=3)∧(∀ (i:Nat) x y,PN[i]?=some x→p.types[i]?=some y→uz T1 x y)∧∀ r∈(T0:List Rw),r∈T1) (fun(m1,u,PN,T1)=>p.types.length-m1) (0,.slice none 0 0,[],T0) (an ⟨⟨rfl,trivial⟩,fun M=>⟨M.bX 86 3,atW _,rfl,(fun _ h=>by cases h),(fun i x y h=>by simp at h),fun _ h=>h⟩⟩ ?_);rintro⟨m1,u,PN,T1⟩ w M ⟨hm1,hl1,D_,hR1,hs1⟩;refine an (fun h=>?_) fun h=>?_
 ·have hlt:m1<p.types.length:=by simp at h;omega
  have hB:=iN.types;obtain⟨y,hy⟩:∃ y,p.types[m1]?=some y:=⟨_,at1 hlt⟩;obtain⟨b,o,_,e,⟨pv,rfl,hpv⟩,hc⟩:=aC.elt hp.types (by decide) hy;obtain⟨_,_,rfl,-⟩:=bp.get hpv;have hsY:=iN.lY y (at2 hy);exact ia<|an ⟨e,rfl,hlt⟩<|lc<|an (dJ M.below hc)<|ei<|an Yd fun g4 w9 M9=>lb 0<|an ⟨rfl,rfl⟩ fun xR sA=>lb 0<|an rfl<|Lw sA ((jj _ _ _ _ (hpv.keep sA.below) (by omega)).mono fun _ _ ⟨v',e,h1,_,h3⟩=>⟨v',e,h1,h3⟩) fun pa pc JJ M11=>lb 0<|an ⟨rfl,rfl⟩ fun Mg Jg=>lb 1<|an rfl<|lb 0<|an rfl<|fun g5 N_ zh=>Ub 1 id rfl (zh.slice 0 rfl (k:=3) (n:=1) rfl rfl (by simp[maxLen])) ⟨by unfold maxLen;omega,by omega⟩ fun va vc Ut Jf=>lb 2<|an ⟨rfl,rfl⟩ fun N9 FK=>an (by omega)<|bk (m1+1,.slice va (m1+1) vc,PN++[[.string y.name,.slice pa y.lY.length pc,.bool y.perm]],⟨.slice pa y.lY.length pc,9,1,y.lY.length,y.lY.flatMap aN⟩::T1) ⟨rfl,trivial⟩ (fun M=>⟨((M.only (.cons _ (.cons _ (.refl _))) (.refl _)).perm (List.perm_middle (l₁:=_::[(⟨.slice x0 m0 y0,180,2,m0,Nl.flatten⟩:Rw)])).symm).cast rfl (by dsimp only;rw[← iF];rfl),by omega,by rw[aua,hl1];rfl,kY D_ rfl,tj (R:=uz) (fun _ _ _ _ hs1 h=>uz.mono hs1 h) hl1 hR1 hy (fun r hr=>at4 _ hr) ⟨_,_,rfl,at3 ..⟩,fun r hr=>at4 _ (hs1 r hr)⟩) (by dsimp only;omega)
 have hq1:m1=p.types.length:=by simp at h;omega
 obtain⟨x1,y1,rfl⟩:=M.form 0 rfl;clear M h;refine lb 2<|an rfl<|lp (ι:=Nat×Value×List (List Value)×List Rw) (fun(m8,u,Tp,T8)=>[(56,.int .i64 (m8:Int))]) (fun(m8,u,Tp,T8)=>(g3,39,#[.slice x0 m0 y0,.slice x1 m1 y1,.slice a2 p.attrs.length k2,.slice a3 p.roles.length k3,.slice a4 p.users.length k4,.slice a5 p.bools.length k5,.slice a6 p.aV.length k6,.slice a7 p.cats.length k7,u,.slice a9 p.rules.length k9,.slice a10 p.trans.length k10,.slice a11 p.aQ.length k11,.slice a12 p.ranges.length k12,.slice none 0 0,.slice a14 p.bP.length k14,.slice a15 p.files.length k15,.slice a16 p.asserts.length k16])::_) (fun(m8,u,Tp,T8)=>⟨u,89,10,m8,Tp.flatten⟩::([(⟨.slice x1 m1 y1,86,3,m1,PN.flatten⟩:Rw),(⟨.slice x0 m0 y0,180,2,m0,Nl.flatten⟩:Rw)]++T8)) (fun(m8,u,Tp,T8) _=>m8≤p.conds.length∧Tp.length=m8∧(∀ x∈Tp,x.length=10)∧(∀ (i:Nat) x y,Tp[i]?=some x→p.conds[i]?=some y→dA T8 x y)∧∀ r∈(T1:List Rw),r∈T8) (fun(m8,u,Tp,T8)=>p.conds.length-m8) (0,.slice none 0 0,[],T1) (an ⟨⟨rfl,trivial⟩,fun M=>⟨M.bX 89 10,atW _,rfl,(fun _ h=>by cases h),(fun i x y h=>by simp at h),fun _ h=>h⟩⟩ ?_);rintro⟨m8,u,Tp,T8⟩ w M ⟨hm8,V9,he8,hR8,hs8⟩;refine an (fun h=>?_) fun h=>?_
 ·have hlt:m8<p.conds.length:=by simp at h;omega
  have hB:=iN.conds;obtain⟨y,hy⟩:∃ y,p.conds[m8]?=some y:=⟨_,at1 hlt⟩;obtain⟨b,o,_,e,hE,hc⟩:=aC.elt hp.conds (by decide) hy;obtain⟨_,_,rfl,hn,hk⟩:=hE.open;obtain⟨_,_,rfl,-⟩:=bp.get hn;obtain⟨_,_,rfl,-⟩:=aC.form hk (by decide);have hsY:=iN.X6 y (at2 hy);refine ia<|an ⟨e,rfl,hlt⟩<|lc<|an (dJ M.below hc)<|ei<|an xH fun g4 w9 M9=>lb 0<|an ⟨rfl,rfl⟩ fun xR sA=>?_
  refine dr (by kernel_rfl)<|lb 1<|an rfl<|lb 0<|an rfl<|cr (xG xR y)<|an (z_ _ _)<|an (fun w' hb' M'=>CV (vJ y _ _ (hE.keep M'.below) hsY) hb')<|br (SlE xR y)<|an (CG _ _)<|an (fun u w1 a o' hb M' hu hop ny=>?_)<|fun u JJ hu SQ M11=>?_
  ·obtain⟨na,nc,ka,kc,T9,rfl,Le,Px⟩:=hu;obtain⟨v,w2,h1,⟨g,h2,h3,h4⟩,h5⟩:=bK (w:=xR) (p:=fun _=>True) (kk:=10) (b:=112) (by kernel_rfl) rfl rfl (by decide) (by decide) (by simp[Value.cells]) rfl w1 a o' hb trivial hop ny;exact⟨v,w2,h1,⟨g,na,nc,ka,kc,T9,h2,h3,Le,Px.keep h5⟩,h5⟩
  obtain⟨g,na,nc,ka,kc,T9,rfl,hW,Le,Px⟩:=hu;exact Ub 0 (fun _=>sA.fR SQ Px) rfl (oZ hW rfl Le.one) ⟨by unfold maxLen;omega,by omega⟩ fun va vc Mg Jg=>lb 1<|an ⟨rfl,rfl⟩ fun N_ zh=>an (by omega)<|bk (m8+1,.slice va (m8+1) vc,Tp++[[.int .i64 y.op,.int .i64 y.a,.int .i64 y.rel,.int .i64 y.b,.slice na y.names.length nc,.int .u64 y.set.a,.int .u64 y.set.b,.int .u64 y.set.c,.int .u64 y.set.d,.slice ka y.kids.length kc]],T8++T9) ⟨rfl,trivial⟩ (fun M=>⟨(M.only (.cons _ (.refl _)) (.refl _)).cast rfl (by dsimp only;rw[← iF];simp),by omega,by rw[aua,V9];rfl,kY he8 rfl,tj (R:=dA) (fun _ _ _ _ hs8 h=>dA.mono hs8 h) V9 hR8 hy (fun r hr=>at7.2 (.inl hr)) (Le.mono fun r hr=>at7.2 (.inr hr)),fun r hr=>at7.2 (.inl (hs8 r hr))⟩) (by dsimp only;omega)
 have hq8:m8=p.conds.length:=by simp at h;omega
 obtain⟨x8,y8,rfl⟩:=M.form 0 rfl;clear M h;refine lb 2<|an rfl<|lp (ι:=Nat×Value×List (List Value)×List Rw) (fun(m13,u,BK,Qe)=>[(71,.int .i64 (m13:Int))]) (fun(m13,u,BK,Qe)=>(g3,39,#[.slice x0 m0 y0,.slice x1 m1 y1,.slice a2 p.attrs.length k2,.slice a3 p.roles.length k3,.slice a4 p.users.length k4,.slice a5 p.bools.length k5,.slice a6 p.aV.length k6,.slice a7 p.cats.length k7,.slice x8 m8 y8,.slice a9 p.rules.length k9,.slice a10 p.trans.length k10,.slice a11 p.aQ.length k11,.slice a12 p.ranges.length k12,u,.slice a14 p.bP.length k14,.slice a15 p.files.length k15,.slice a16 p.asserts.length k16])::_) (fun(m13,u,BK,Qe)=>⟨u,91,13,m13,BK.flatten⟩::([(⟨.slice x8 m8 y8,89,10,m8,Tp.flatten⟩:Rw),(⟨.slice x1 m1 y1,86,3,m1,PN.flatten⟩:Rw),(⟨.slice x0 m0 y0,180,2,m0,Nl.flatten⟩:Rw)]++Qe)) (fun(m13,u,BK,Qe) _=>m13≤p.cons.length∧BK.length=m13∧(∀ x∈BK,x.length=13)∧(∀ (i:Nat) x y,BK[i]?=some x→p.cons[i]?=some y→uG Qe x y)∧∀ r∈(T8:List Rw),r∈Qe) (fun(m13,u,BK,Qe)=>p.cons.length-m13) (0,.slice none 0 0,[],T8) (an ⟨⟨rfl,trivial⟩,fun M=>⟨M.bX 91 13,atW _,rfl,(fun _ h=>by cases h),(fun i x y h=>by simp at h),fun _ h=>h⟩⟩ ?_);rintro⟨m13,u,BK,Qe⟩ w M ⟨agU,Zv,adB,adP,Pm⟩;refine an (fun h=>?_) fun h=>?_
 ·have hlt:m13<p.cons.length:=by simp at h;omega
  have hB:=iN.cons;obtain⟨y,hy⟩:∃ y,p.cons[m13]?=some y:=⟨_,at1 hlt⟩;obtain⟨b,o,_,e,⟨_,rfl,hE⟩,hc⟩:=aC.elt hp.cons (by decide) hy;obtain⟨_,_,rfl,hn,hk⟩:=hE.open;obtain⟨_,_,rfl,-⟩:=bp.get hn;obtain⟨_,_,rfl,-⟩:=aC.form hk (by decide);have hsY:=iN.ahQ y (at2 hy);refine ia<|an ⟨e,rfl,hlt⟩<|lc<|an (dJ M.below hc)<|ei<|an NS fun g4 w9 M9=>lb 0<|an ⟨rfl,rfl⟩ fun xR sA=>?_
  refine lb 0<|an rfl<|cg<|an (vJ y.expr _ _ (hE.keep sA.below) hsY) fun v JJ ⟨⟨na,nc,ka,kc,T9,hv,Le,Px⟩,SQ⟩=>⟨_,_,sA.fR SQ Px,?_⟩
  subst hv;exact lb 0<|an ⟨rfl,rfl⟩ fun Mg Jg=>lb 1<|an rfl<|lb 0<|an rfl<|fun g5 N_ zh=>Ub 0 id rfl (zh.slice 0 rfl (k:=13) (n:=1) rfl rfl (by simp[maxLen])) ⟨by unfold maxLen;omega,by omega⟩ fun va vc Ut Jf=>lb 2<|an ⟨rfl,rfl⟩ fun N9 FK=>an (by omega)<|bk (m13+1,.slice va (m13+1) vc,BK++[[.int .i64 y.cls,.int .u32 y.perms,.bool y.val,.int .i64 y.expr.op,.int .i64 y.expr.a,.int .i64 y.expr.rel,.int .i64 y.expr.b,.slice na y.expr.names.length nc,.int .u64 y.expr.set.a,.int .u64 y.expr.set.b,.int .u64 y.expr.set.c,.int .u64 y.expr.set.d,.slice ka y.expr.kids.length kc]],Qe++T9) ⟨rfl,trivial⟩ (fun M=>⟨(M.only (.cons _ (.cons _ (.refl _))) (.refl _)).cast rfl (by dsimp only;rw[← iF];simp),by omega,by rw[aua,Zv];rfl,kY adB rfl,tj (R:=uG) (fun _ _ _ _ Pm h=>uG.mono Pm h) Zv adP hy (fun r hr=>at7.2 (.inl hr)) ⟨_,rfl,Le.mono fun r hr=>at7.2 (.inr hr)⟩,fun r hr=>at7.2 (.inl (Pm r hr))⟩) (by dsimp only;omega)
 have agK:m13=p.cons.length:=by simp at h;omega
 obtain⟨JG,y13,rfl⟩:=M.form 0 rfl;clear M h;refine sp [0,1,3,4,6,7,9,10,12,14,16,18] (.step 2 (.step 5 (.step 8 (.step 11 (.step 13 (.step 15 (.step 17 (.step 19 (.done))))))))) [0] (by kernel_rfl)<|lb 0<|an rfl<|lb 0<|an rfl<|lb 0<|an rfl<|lb 0<|an rfl<|fun w hb M=>Lw M ((Fe _ _ _ _ (hp.attrs.keep M.below) (by have:=iN.attrs;omega)).mono fun _ _ ⟨v',e,h1,_,h3⟩=>⟨v',e,h1,h3⟩) fun x2 y2 w M=>an rfl<|Lw M ((E_ _ _ _ _ (hp.roles.keep M.below) (by have:=iN.roles;omega)).mono fun _ _ ⟨v',e,h1,_,h3⟩=>⟨v',e,h1,h3⟩) fun x3 y3 w M=>an rfl<|Lw M ((E7 _ _ _ _ (hp.users.keep M.below) (by have:=iN.users;omega)).mono fun _ _ ⟨v',e,h1,_,h3⟩=>⟨v',e,h1,h3⟩) fun x4 y4 w M=>an rfl<|Lw M ((E4 _ _ _ _ (hp.bools.keep M.below) (by have:=iN.bools;omega)).mono fun _ _ ⟨v',e,h1,_,h3⟩=>⟨v',e,h1,h3⟩) fun x5 y5 w M=>an rfl<|lb 0<|an ⟨rfl,rfl⟩ fun w M=>an rfl<|lb 0<|an ⟨rfl,rfl⟩ fun w M=>an rfl<|lb 0<|an ⟨rfl,rfl⟩ fun w M=>an rfl<|lb 0<|an ⟨rfl,rfl⟩ fun w M=>an rfl<|?_
 refine sp [0,1,3,4,6,7,9,10,12,14,16,18] (.step 2 (.step 5 (.step 8 (.step 11 (.step 13 (.step 15 (.step 17 (.step 19 (.done))))))))) [0] (by kernel_rfl)<|lb 0<|an rfl<|lb 0<|an rfl<|lb 0<|an rfl<|lb 0<|an rfl<|fun w hb M=>Lw M ((jj _ _ _ _ (hp.aV.keep M.below) (by have:=iN.aV;omega)).mono fun _ _ ⟨v',e,h1,_,h3⟩=>⟨v',e,h1,h3⟩) fun x6 y6 w M=>an rfl<|Lw M ((jj _ _ _ _ (hp.cats.keep M.below) (by have:=iN.cats;omega)).mono fun _ _ ⟨v',e,h1,_,h3⟩=>⟨v',e,h1,h3⟩) fun x7 y7 w M=>an rfl<|Lw M ((E1 _ _ _ _ (hp.rules.keep M.below) (by have:=iN.rules;omega)).mono fun _ _ ⟨v',e,h1,_,h3⟩=>⟨v',e,h1,h3⟩) fun x9 y9 w M=>an rfl<|Lw M ((EY _ _ _ _ (hp.trans.keep M.below) (by have:=iN.trans;omega)).mono fun _ _ ⟨v',e,h1,_,h3⟩=>⟨v',e,h1,h3⟩) fun x10 uK w M=>an rfl<|lb 0<|an ⟨rfl,rfl⟩ fun w M=>an rfl<|lb 0<|an ⟨rfl,rfl⟩ fun w M=>an rfl<|lb 0<|an ⟨rfl,rfl⟩ fun w M=>an rfl<|lb 0<|an ⟨rfl,rfl⟩ fun w M=>an rfl<|?_
 refine sp [0,1,3,4,6,7,9,11,13] (.step 2 (.step 5 (.step 8 (.step 10 (.step 12 (.step 14 (.done))))))) [0] (by kernel_rfl)<|lb 0<|an rfl<|lb 0<|an rfl<|lb 0<|an rfl<|fun w hb M=>Lw M ((EV _ _ _ _ (hp.aQ.keep M.below) (by have:=iN.aQ;omega)).mono fun _ _ ⟨v',e,h1,_,h3⟩=>⟨v',e,h1,h3⟩) fun oF Bt w M=>an rfl<|Lw M ((ES _ _ _ _ (hp.ranges.keep M.below) (by have:=iN.ranges;omega)).mono fun _ _ ⟨v',e,h1,_,h3⟩=>⟨v',e,h1,h3⟩) fun oD Bs w M=>an rfl<|Lw M ((EO _ _ _ _ (hp.bP.keep M.below) (by have:=iN.bP;omega)).mono fun _ _ ⟨v',e,h1,_,h3⟩=>⟨v',e,h1,h3⟩) fun JF y14 w M=>an rfl<|lb 0<|an ⟨rfl,rfl⟩ fun w M=>an rfl<|lb 0<|an ⟨rfl,rfl⟩ fun w M=>an rfl<|lb 0<|an ⟨rfl,rfl⟩ fun w M=>an rfl<|?_
 refine sp [0,1,3,4,6,8] (.step 2 (.step 5 (.step 7 (.step 9 (.done))))) [0] (by kernel_rfl)<|lb 0<|an rfl<|lb 0<|an rfl<|fun w hb M=>Lw M ((EL _ _ _ _ (hp.files.keep M.below) (by have:=iN.files;omega)).mono fun _ _ ⟨v',e,h1,_,h3⟩=>⟨v',e,h1,h3⟩) fun JE y15 w M=>an rfl<|Lw M ((EI _ _ _ _ (hp.asserts.keep M.below) (by have:=iN.asserts;omega)).mono fun _ _ ⟨v',e,h1,_,h3⟩=>⟨v',e,h1,h3⟩) fun JD y16 w M=>an rfl<|lb 0<|an ⟨rfl,rfl⟩ fun w M=>an rfl<|lb 0<|an ⟨rfl,rfl⟩ fun w M=>an rfl<|?_
 refine lb 0<|an rfl<|lb 1<|an ⟨rfl,rfl⟩ fun w M=>ei (x:=1)<|an rfl fun M=>?_
 subst hq0 hq1 hq8 agK
 exact⟨_,rfl,⟨_,_,_,_,_,_,_,_,_,_,_,_,_,_,_,_,_,_,_,_,_,_,_,_,_,_,_,_,_,_,_,_,_,_,_,rfl,M.iE,fun B u pT=>⟨pF (tg (R:=uH _) (pT.1 _ (at2 (i:=16) rfl)) rfl hl0 he0 (fun i x y h1 h2=>uH.mono (fun r hr=>show r∈[_,_,_,_,_,_,_,_,_,_,_,_,_,_,_,_,_]++Qe from at7.2 (.inr (Pm r (hs8 r (hs1 r hr))))) (hR0 i x y h1 h2)) fun _ _ h=>uH.one h) fun _ _ h=>uH.at_ pT h,
  pF (tg (R:=uz _) (pT.1 _ (at2 (i:=15) rfl)) rfl hl1 D_ (fun i x y h1 h2=>uz.mono (fun r hr=>show r∈[_,_,_,_,_,_,_,_,_,_,_,_,_,_,_,_,_]++Qe from at7.2 (.inr (Pm r (hs8 r hr)))) (hR1 i x y h1 h2)) fun _ _ h=>uz.one h) fun _ _ h=>uz.at_ pT h,
  SliceAt.bM (pT.1 _ (at2 (i:=12) rfl)) (fE fun _=>rfl),
  SliceAt.bM (pT.1 _ (at2 (i:=11) rfl)) (fE fun _=>rfl),
  SliceAt.bM (pT.1 _ (at2 (i:=10) rfl)) (fE fun _=>rfl),
  SliceAt.bM (pT.1 _ (at2 (i:=9) rfl)) (fE fun _=>rfl),
  SliceAt.bM (pT.1 _ (at2 (i:=8) rfl)) (Gq _),
  SliceAt.bM (pT.1 _ (at2 (i:=7) rfl)) (Gq _),
  pF (tg (R:=dA _) (pT.1 _ (at2 (i:=14) rfl)) rfl V9 he8 (fun i x y h1 h2=>dA.mono (fun r hr=>show r∈[_,_,_,_,_,_,_,_,_,_,_,_,_,_,_,_,_]++Qe from at7.2 (.inr (Pm r hr))) (hR8 i x y h1 h2)) fun _ _ h=>dA.one h) fun _ _ h=>dA.at_ pT h,
  SliceAt.bM (pT.1 _ (at2 (i:=6) rfl)) (fE fun _=>rfl),
  SliceAt.bM (pT.1 _ (at2 (i:=5) rfl)) (fE fun _=>rfl),
  SliceAt.bM (pT.1 _ (at2 (i:=4) rfl)) (fE fun _=>rfl),
  SliceAt.bM (pT.1 _ (at2 (i:=3) rfl)) (fE fun _=>rfl),
  pF (tg (R:=uG _) (pT.1 _ (at2 (i:=13) rfl)) rfl Zv adB (fun i x y h1 h2=>uG.mono (fun r hr=>show r∈[_,_,_,_,_,_,_,_,_,_,_,_,_,_,_,_,_]++Qe from at7.2 (.inr (hr))) (adP i x y h1 h2)) fun _ _ h=>uG.one h) fun _ _ h=>uG.at_ pT h,
  SliceAt.bM (pT.1 _ (at2 (i:=2) rfl)) (fE fun _=>rfl),
  SliceAt.bM (pT.1 _ (at2 (i:=1) rfl)) (fE fun _=>rfl),
  SliceAt.bM (pT.1 _ (at2 (i:=0) rfl)) (fE fun _=>rfl)⟩⟩,M.below⟩
def rB{α:Type}(l:List α)(o:List Int)(n:Nat):List α:=(List.range n).filterMap fun(k:Nat)=>if o.contains (k:Int)=true then none else l[k]?
def UQ(p:aG)(o:List Int):aG:={ p with rules:=rB p.rules o p.rules.length }
section
variable {α:Type} {l:List α} {o:List Int} {m:Nat} {z:α}
theorem Ym(hz:l[m]?=some z)(h:o.contains (m:Int)=false):rB l o (m+1)=rB l o m++[z]:=by
 unfold rB;rw[List.range_succ,at8,List.filterMap_cons,if_neg (by rw[h];decide),hz];rfl
theorem abC(h:o.contains (m:Int)=true):rB l o (m+1)=rB l o m:=by
 unfold rB;rw[List.range_succ,at8,List.filterMap_cons,if_pos h];simp
theorem Yn{l:List ak}{z:ak}{v:Value}{e:TypeId}{k:Nat}{rs:List Rw}(hz:l[m]?=some z)(h:o.contains (m:Int)=false):
 (⟨v,e,k,(rB l o m).length+1,(rB l o m).flatMap ak.cells++z.cells⟩::rs:List Rw)=⟨v,e,k,(rB l o (m+1)).length,(rB l o (m+1)).flatMap ak.cells⟩::rs:=by
 rw[Ym hz h,aua,aub,List.flatMap_cons,List.flatMap_nil,List.append_nil];rfl
theorem Yo:∀ n,(rB l o n).length≤n:=fun n=>at9 (List.length_filterMap_le _ _) (by simp)
end
def KX(l:List Int)(x:Int):Int:=match l.findIdx? (fun y=>decide (x=y)) with|some i=>(i:Int)|none=>-1
theorem Zh{l:List Int}{x:Int}{m:Nat}{y:Int}(hy:l[m]?=some y)(h:∀ j z,j<m→l[j]?=some z→x≠z)(e:x=y):(m:Int)=KX l x:=by
 unfold KX
 have:l.findIdx? (fun y=>decide (x=y))=some m:=by
  obtain⟨hm,hy'⟩:=aug.1 hy;rw[List.findIdx?_eq_some_iff_getElem];refine⟨hm,by rw[hy'];simpa using e,fun j hj=>?_⟩;have:=h j (l[j]) hj (at1 (by omega));simpa using this
 rw[this]
theorem VY{l:List Int}{x:Int}{m:Nat}(hm:m=l.length)(h:∀ j z,j<m→l[j]?=some z→x≠z):-1=KX l x:=by
 unfold KX
 have:l.findIdx? (fun y=>decide (x=y))=none:=by
  rw[List.findIdx?_eq_none_iff];intro y hy;obtain⟨j,hj⟩:=List.getElem?_of_mem hy;have:=h j y (by have:=(aug.1 hj).1;omega) hj;simpa using this
 rw[this]
theorem Sx{l:List Int}{x:Int}{m:Nat}{y:Int}(hy:l[m]?=some y)(h:∀ j z,j<m→l[j]?=some z→x≠z)(e:x≠y):∀ j z,j<m+1→l[j]?=some z→x≠z:=fun j z hj hz=>by
 by_cases ej:j=m
 ·subst ej;obtain rfl:=at5 (hy.symm.trans hz);exact e
 ·exact h j z (by omega) hz
theorem VX(l:List Int)(x:Int):decide (0≤KX l x)=l.contains x:=by
 unfold KX
 cases h:l.findIdx? (fun y=>decide (x=y)) with
 | none=>
  rw[List.findIdx?_eq_none_iff] at h
  have:l.contains x=false:=by
   cases hc:l.contains x with
   | false=>rfl
   | true=>
    have hm:x∈l:=by simpa using hc
    have:=h x hm;simp at this
  rw[this];rfl
 | some i=>
  obtain⟨hi,h2,-⟩:=List.findIdx?_eq_some_iff_getElem.1 h;have e:x=l[i]:=by simpa using h2
  have:l.contains x=true:=by
   have:x∈l:=e▸List.getElem_mem hi;simpa using this
  rw[this];show decide (0≤((i:Nat):Int))=true;exact decide_eq_true (by omega)
def anyI(n:Int):List Value:=[.int .i64 n]
theorem KW(w0:World)(v:Value)(l:List Int)(h:SliceAt w0 v 1 l.length (l.flatMap anyI))(x:Int):Calls Tryz.prog 168 #[v,.int .i64 x] w0 (fun(r:Ending) (w':World)=>r=.returned (.int .i64 (KX l x))∧atZ w0.heap.size w0 w'):=by
 obtain⟨_,_,rfl,-,hm5,-⟩:=SliceAt.form h (by decide);refine fL [] (fn:=Tryz.f168) Tryz.func168 rfl Tryz.ntmps168 rfl<|lr (ι:=Nat) (fun m=>[(8,.int .i64 (m:Int))]) (fun m _=>m≤l.length∧∀ j z,j<m→l[j]?=some z→x≠z) (fun m=>l.length-m) 0 (an ⟨⟨rfl,trivial⟩,fun M=>⟨M,atW _,fun j z h=>absurd h (Nat.not_lt_zero j)⟩⟩ ?_);intro m w M ⟨hm,hne⟩;refine an (fun h1=>?_) fun h1 M=>⟨ri (VY (by simp at h1;omega) hne).symm,M.below⟩
 have hlt:m<l.length:=by simp at h1;omega
 obtain⟨y,hy⟩:∃ y,l[m]?=some y:=⟨_,at1 hlt⟩;obtain⟨b,o,e,hc⟩:=SliceAt.elt h (fun _=>rfl) (by decide) hy hlt;refine ia<|an ⟨e,rfl,hlt⟩<|lc (x:=.int .i64 y)<|an (dJ M.below hc 0 _ rfl)<|an (fun h2 M=>⟨ri (Zh hy hne (by simpa using h2)).symm,M.below⟩) fun h2=>an (by omega)<|bk (m+1) ⟨rfl,trivial⟩ (fun M=>⟨M,by omega,Sx hy hne (by simpa using h2)⟩) (by dsimp only;omega)
theorem BQ(w0:World)(v:Value)(l:List Int)(h:SliceAt w0 v 1 l.length (l.flatMap anyI))(x:Int):Calls Tryz.prog 82 #[v,.int .i64 x] w0 (fun(r:Ending) (w':World)=>r=.returned (.bool (l.contains x))∧atZ w0.heap.size w0 w'):=by
 obtain⟨_,_,rfl,-⟩:=SliceAt.form h (by decide);exact fL [] (fn:=Tryz.f82) Tryz.func82 rfl Tryz.ntmps82 rfl<|cl<|an (KW _ _ l h x) fun w1 M1=>fun M=>⟨rb (VX l x).symm,M.below⟩
theorem F2(w0:World)(c0 c1 c2 c3 c4 c5 c6 c7 c8 c9 aW aP aO aU aT aS aR:Value)(p:aG)(hp:aL w0 c0 c1 c2 c3 c4 c5 c6 c7 c8 c9 aW aP aO aU aT aS aR p)(_:p.Ok)(iN:qg p)(lv:Value)(o:List Int)(hlv:SliceAt w0 lv 1 o.length (o.flatMap anyI)):Calls Tryz.prog 30 #[.agg #[c0,c1,c2,c3,c4,c5,c6,c7,c8,c9,aW,aP,aO,aU,aT,aS,aR],lv] w0 (fun(r:Ending) (w':World)=>∃ v,r=.returned v∧(Bc w0 (UQ p o) v w'∧atZ w0.heap.size w0 w')):=by
 obtain⟨_,_,-,-,hmR,-⟩:=SliceAt.form hp.rules (by decide);obtain⟨_,_,_,_,_,_,_,_,_,_,_,_,_,_,_,_,_,_,_,_,_,_,_,_,_,_,_,_,_,_,_,_,_,_,rfl,rfl,rfl,rfl,rfl,rfl,rfl,rfl,rfl,rfl,rfl,rfl,rfl,rfl,rfl,rfl,rfl⟩:=hp.open;refine fL [] (fn:=Tryz.f30) Tryz.func30 rfl Tryz.ntmps30 rfl<|fun g1 w1 M1=>ei<|an oI fun g2 w2 M2=>lb 1<|an rfl<|cg<|an (wj _ _ _ _ _ _ _ _ _ _ _ _ _ _ _ _ _ _ p (hp.keep M2.below) iN) fun v w6 ⟨⟨x0,n0,x1,n1,x2,n2,x3,n3,x4,n4,x5,n5,x6,n6,x7,n7,x8,n8,x9,n9,x10,n10,oF,n11,oD,n12,JG,n13,JF,n14,JE,n15,JD,n16,TC,hv,hRC,hPC⟩,hb6⟩=>⟨_,_,M2.fR hb6 hRC,?_⟩
 subst hv;refine ei<|an oI fun gp w7 M7=>lb 0<|an ⟨rfl,rfl⟩ fun w8 M8=>lb 0<|an ⟨rfl,rfl⟩ fun w9 M9=>lb 2<|an rfl<|lp (ι:=Nat×Value) (fun(k,v)=>[(14,.int .i64 (k:Int))]) (fun(k,v)=>(gp,39,#[.slice x0 p.classes.length n0,.slice x1 p.types.length n1,.slice x2 p.attrs.length n2,.slice x3 p.roles.length n3,.slice x4 p.users.length n4,.slice x5 p.bools.length n5,.slice x6 p.aV.length n6,.slice x7 p.cats.length n7,.slice x8 p.conds.length n8,v,.slice x10 p.trans.length n10,.slice oF p.aQ.length n11,.slice oD p.ranges.length n12,.slice JG p.cons.length n13,.slice JF p.bP.length n14,.slice JE p.files.length n15,.slice JD p.asserts.length n16])::_) (fun(k,v)=>⟨v,56,13,(rB p.rules o k).length,(rB p.rules o k).flatMap ak.cells⟩::_) (fun(k,v) _=>k≤p.rules.length) (fun(k,v)=>p.rules.length-k) (0,.slice none 0 0) (an ⟨⟨rfl,trivial⟩,fun M=>⟨M.bX 56 13,atW _⟩⟩ ?_)
 rintro⟨k,v⟩ w M hk;refine an (fun h=>?_) fun h=>?_
 ·have hlt:k<p.rules.length:=by simp at h;omega
  obtain⟨y,hy⟩:∃ y,p.rules[k]?=some y:=⟨_,at1 hlt⟩;obtain⟨b,of,e,hc⟩:=SliceAt.elt hp.rules (fun _=>rfl) (by decide) hy hlt;have hsl:=Yo (l:=p.rules) (o:=o) k;have hrl:=iN.rules;refine ia<|an ⟨e,rfl,hlt⟩<|lc<|an (dJ M.below hc)<|ei<|an oy fun g4 xR sA=>lb 0<|an ⟨rfl,rfl⟩ fun JJ M11=>cl<|an (BQ _ lv o (hlv.keep M11.below) k) fun Mg Jg=>an (fun hq=>?_) fun hq=>?_
  ·refine lb 1<|an rfl<|lb 0<|an rfl<|fun g7 N9 FK=>Ub 0 id rfl (FK.slice 0 rfl (k:=13) (n:=1) rfl rfl (by simp[maxLen])) ⟨by unfold maxLen;omega,by omega⟩ fun va vc Xb LO=>?_
   exact lb 2<|an ⟨rfl,rfl⟩ fun Xa W4=>an (by omega)<|bk (k+1,.slice va ((rB p.rules o k).length+1) vc) ⟨rfl,trivial⟩ (fun M=>⟨(M.only (.cons _ (.cons _ (.refl _))) (.refl _)).cast rfl (Yn hy (by simpa using hq)),by dsimp only;omega⟩) (by dsimp only;omega)
  ·exact an (by omega)<|bk (k+1,v) ⟨rfl,trivial⟩ (fun M=>⟨(M.only (.cons _ (.refl _)) (.refl _)).cast rfl (by dsimp only;rw[abC (by simpa using hq)]),by dsimp only;omega⟩) (by dsimp only;omega)
 obtain rfl:k=p.rules.length:=by simp at h;omega
 obtain⟨xa9,xc9,rfl⟩:=M.form 0 rfl;exact lb 0<|an rfl<|lb 1<|an ⟨rfl,rfl⟩ fun w M=>ei (x:=1)<|an rfl fun M=>⟨_,rfl,⟨_,_,_,_,_,_,_,_,_,_,_,_,_,_,_,_,_,_,_,_,_,_,_,_,_,_,_,_,_,_,_,_,_,_,_,rfl,M.iE,fun B u pT=>{ hPC B u ⟨fun r hr=>pT.1 r (at4 _ hr),(List.pairwise_cons.1 pT.2).2⟩ with rules:=SliceAt.bM (pT.1 _ (at2 (i:=0) rfl)) (fE fun _=>rfl) }⟩,M.below⟩
def vw(p:aG):aG:={ p with rules:=G0 aJ p.rules }
def Ay(l:List ak)(t:Nat):Nat→Option ak:=fun k=>if k<t then l[k]? else none
theorem Z6{l:List ak}{t:Nat}{r:ak}(h:l[t]?=some r){L:List (Int×Value)}(hR:B0 (Ay l t) L):B0 (Ay l (t+1)) (((t:Int),rval r)::gP L (t:Int)):=fun k=>by
 rw[hR.put k];congr 1;unfold jY Ay;by_cases e:k=t
 ·subst e;simp[h]
 ·rw[if_neg e];by_cases h2:k<t
  ·rw[if_pos h2,if_pos (by omega)]
  ·rw[if_neg h2,if_neg (by omega)]
theorem Z5(l:List ak):seg (Ay l l.length) 0 l.length=l:=by
 have key:∀ n,n≤l.length→seg (Ay l l.length) 0 n=l.take n:=by
  intro n
  induction n with
  | zero=>intro _;rfl
  | succ n ih=>
   intro hn;rw[iI _ (atW n) (Nat.le_succ n),ih (by omega),iY _ (Nat.lt_succ_self n),yH _ (Nat.le_refl _),List.append_nil,List.take_add_one];congr 1;unfold Ay;rw[if_pos (by omega)]
 rw[key _ (Nat.le_refl _),List.take_length]
theorem ad3{l:List ak}(h:∀ r∈l,r.Ok)(t:Nat):QH (Ay l t):=fun k r e=>by
 unfold Ay at e;split at e
 ·exact h r (at2 e)
 ·cases e
section
variable {f f':Nat→Option ak} {n i:Nat}
theorem VG(hp:NP aJ f n i n)(h:f i=none):NP aJ f n (i+1) n:=fun j x k y h1 h2 h3 h4 h5 h6=>by
 by_cases e:j=i
 ·subst e;rw[h] at h2;cases h2
 ·exact hp j x k y (by omega) h2 h3 h4 h5 h6
theorem YW(hp:NP aJ f n i n)(h:∀ a,f i=some a→∀ k y,i<k→k<n→f k=some y→aJ a y=none):NP aJ f n (i+1) n:=fun j x k y h1 h2 h3 h4 h5 h6=>by
 by_cases e:j=i
 ·subst e;exact h x h2 k y h3 h4 h6
 ·exact hp j x k y (by omega) h2 h3 h4 h5 h6
theorem YX(hp:NP aJ f n i n)(h:n≤i):iq aJ (seg f 0 n)=none:=by
 have h2:=RU aJ (f:=f) (n:=n) (i:=n) (s:=0) (atW _) (Nat.le_refl _) fun j x k y _ h1 h2 h3 h4 h5=>hp j x k y (by omega) h2 h3 h4 (by omega) h5
 rw[yH f (Nat.le_refl n)] at h2;exact GX aJ h2
theorem KM(hp:NP aJ f n i n)(h:FD f f' i n true):∃ q,f' i=some q∧NP aJ f' n i i∧G0 aJ (seg f' 0 n)=G0 aJ (seg f 0 n)∧(seg f' 0 n).length+1=(seg f 0 n).length:=by
 rcases h with⟨h,-⟩|⟨-,k,a,b,c,h1,h2,h3,h4,h5,h6,rfl⟩
 ·cases h
 ·have hj:=Gy aJ h1 h2 h3 h4 h5 hp h6;exact⟨c,by rw[fC _ _ (by omega),qp],NP.joined aJ hp,(GZ aJ hj).symm,qw aJ hj⟩
theorem G6(h:FD f f' i n false):f'=f∧∀ a,f i=some a→∀ k y,i<k→k<n→f k=some y→aJ a y=none:=by
 rcases h with⟨-,h1,h2⟩|⟨h,-⟩
 ·exact⟨h1,h2⟩
 ·cases h
end
theorem Gx{α:Type}(f:Nat→Option α)(n:Nat):seg f 0 (n+1)=seg f 0 n++(f n).toList:=by
 rw[iI _ (atW n) (Nat.le_succ n),iY _ (Nat.lt_succ_self n),yH _ (Nat.le_refl _),List.append_nil]
theorem Vk{α:Type}(f:Nat→Option α)(n:Nat):(seg f 0 n).length≤n:=by
 unfold seg;exact at9 (List.length_filterMap_le _ _) (by simp)
theorem Vj{f:Nat→Option ak}{k:Nat}{z:ak}{v:Value}{e:TypeId}{c:Nat}{rs:List Rw}(h:f k=some z):
 (⟨v,e,c,(seg f 0 k).length+1,(seg f 0 k).flatMap ak.cells++z.cells⟩::rs:List Rw)=⟨v,e,c,(seg f 0 (k+1)).length,(seg f 0 (k+1)).flatMap ak.cells⟩::rs:=by
 rw[Gx,h,Option.toList_some,aua,aub,List.flatMap_cons,List.flatMap_nil,List.append_nil];rfl
theorem Kq(w0:World)(c0 c1 c2 c3 c4 c5 c6 c7 c8 c9 aW aP aO aU aT aS aR:Value)(p:aG)(hp:aL w0 c0 c1 c2 c3 c4 c5 c6 c7 c8 c9 aW aP aO aU aT aS aR p)(hok:p.Ok)(iN:qg p)(hsR:p.rules.length≤1000):Calls Tryz.prog 32 #[.agg #[c0,c1,c2,c3,c4,c5,c6,c7,c8,c9,aW,aP,aO,aU,aT,aS,aR]] w0 (fun(r:Ending) (w':World)=>∃ v,r=.returned v∧(Bc w0 (vw p) v w'∧atZ w0.heap.size w0 w')):=by
 have hrk:∀ r∈p.rules,r.Ok:=fun r hr=>⟨(hok.rules r hr).src,(hok.rules r hr).tgt⟩
 obtain⟨_,_,_,_,_,_,_,_,_,_,_,_,_,_,_,_,_,_,_,_,_,_,_,_,_,_,_,_,_,_,_,_,_,_,rfl,rfl,rfl,rfl,rfl,rfl,rfl,rfl,rfl,rfl,rfl,rfl,rfl,rfl,rfl,rfl,rfl⟩:=hp.open;refine fL [] (fn:=Tryz.f32) Tryz.func32 rfl Tryz.ntmps32 rfl<|fun g1 w1 M1=>ei<|an oI fun g2 w2 M2=>mmk M2 fun mb w3 M3=>lb 2<|an rfl<|lp (ι:=Nat×List (Int×Value)) (fun(t,L)=>[(18,.int .i64 (t:Int))]) (fun(t,L)=>(mb,9003,eu L)::_) (fun _=>[]) (fun(t,L) _=>t≤p.rules.length∧B0 (Ay p.rules t) L) (fun(t,L)=>p.rules.length-t) (0,[]) (an ⟨⟨rfl,trivial⟩,fun M=>⟨M,atW _,fun k=>by simp[jD,Ay]⟩⟩ ?_)
 rintro⟨t,L⟩ w M ⟨ht,hRv⟩;refine an (fun h=>?_) fun h=>?_
 ·have hlt:t<p.rules.length:=by simp at h;omega
  obtain⟨y,hy⟩:∃ y,p.rules[t]?=some y:=⟨_,at1 hlt⟩;obtain⟨b,o,e,hc⟩:=SliceAt.elt hp.rules (fun _=>rfl) (by decide) hy hlt;exact ia<|an ⟨e,rfl,hlt⟩<|lc<|an (dJ M.below hc)<|ei<|an oy fun g3 w4 M4=>lb 0<|an ⟨rfl,rfl⟩ fun w5 M5=>lb 0<|an rfl<|R3 M5 1 rfl u7 (by constructor<;>omega) fun w6 M6=>an (by omega)<|bk (t+1,_) ⟨rfl,trivial⟩ (fun M=>⟨M.only (.cons _ (.refl _)) (.refl _),by omega,Z6 hy hRv⟩) (by dsimp only;omega)
 obtain rfl:t=p.rules.length:=by simp at h;omega
 clear M M1 M2 M3 h ht;refine lb 2<|an rfl<|lp (ι:=Nat×(Nat→Option ak)×List (Int×Value)) (fun(i,ff,L)=>[(7,.int .i64 (i:Int))]) (fun(i,ff,L)=>(mb,9003,eu L)::_) (fun _=>[]) (fun(i,ff,L) _=>i≤p.rules.length∧B0 ff L∧QH ff∧NP aJ ff p.rules.length i p.rules.length∧G0 aJ (seg ff 0 p.rules.length)=G0 aJ p.rules) (fun(i,ff,L)=>(seg ff 0 p.rules.length).length*(p.rules.length+1)+(p.rules.length-i)) (0,Ay p.rules p.rules.length,L) (an ⟨⟨rfl,trivial⟩,fun M=>⟨M,atW _,hRv,ad3 hrk _,(fun j _ _ _ h=>absurd h (Nat.not_lt_zero j)),by rw[Z5]⟩⟩ ?_);clear hRv L;rintro⟨i,ff,L⟩ w M ⟨hi,hRv,hfo,hNP,hnf⟩;refine an (fun h=>?_) fun h=>?_
 ·have hlt:i<p.rules.length:=by simp at h;omega
  refine mlk M 0 rfl u7 (fun _=>rfl) (by constructor<;>omega) fun M=>?_
  cases uM:ff i with
  | none=>
   rw[oR (hRv.no uM)];exact ei<|an oy fun g4 w5 M5=>lb 0<|an ⟨rfl,rfl⟩ fun w6 M6=>cl (v:=.bool false)<|an (fun h=>by cases h) fun w7 M7=>an (fun h=>by cases h) fun _=>an (by omega)<|bk (i+1,ff,L) ⟨rfl,trivial⟩ (fun M=>⟨M.only (.cons _ (.refl _)) (.refl _),by omega,hRv,hfo,VG hNP uM,hnf⟩) (by dsimp only;omega)
  | some y=>
   rw[oQ (hRv.yes uM)];refine ei<|an oy fun g4 w5 M5=>lb 0<|an ⟨rfl,rfl⟩ fun w6 M6=>cg<|an (fun _=>O5 _ mb p.rules.length hsR L (M6.map 1 rfl) ff hRv hfo i hlt y uM)<|an (fun h=>by cases h) fun v w7 ⟨⟨t9,L9,f9,hv,Ng,adN,adA,hLP⟩,QB⟩=>⟨_,_,M6.Gf 1 rfl QB Ng,?_⟩
   subst hv;have M7:=M6.Gf 1 rfl QB Ng;refine an (fun ht9=>?_) fun ht9=>?_
   ·obtain rfl:t9=true:=ht9;obtain⟨q9,tP,ahg,agP,anr⟩:=KM hNP hLP;refine cg<|an (Im _ mb p.rules.length hsR L9 (M7.map 1 rfl) f9 adN adA i hlt q9 tP ahg) fun v w8 ⟨⟨t8,L8,f8,hv,hM8,ahd,ag1,hEP⟩,hS8⟩=>⟨_,_,M7.Gf 1 rfl hS8 hM8,?_⟩
    subst hv;have hle:=hEP.le;have hE4:=Nat.mul_le_mul_right (p.rules.length+1) (show(seg f8 0 p.rules.length).length+1≤(seg ff 0 p.rules.length).length by have:=hEP.len;omega);rw[Nat.add_mul,Nat.one_mul] at hE4;exact an (by omega)<|an (by omega)<|bk (t8,f8,L8) ⟨congrArg (fun z:Int=>some (Value.int .i64 z)) (show((t8:Nat):Int)-1+1=(t8:Int) by omega),trivial⟩ (fun M=>⟨M.only (.cons _ (.refl _)) (.refl _),by omega,ahd,ag1,hEP.np,hEP.nf.trans (agP.trans hnf)⟩) (by dsimp only;omega)
   ·obtain rfl:t9=false:=ht9;obtain⟨rfl,hLf⟩:=G6 hLP;exact an (by omega)<|bk (i+1,f9,L9) ⟨rfl,trivial⟩ (fun M=>⟨M.only (.cons _ (.refl _)) (.refl _),by omega,adN,adA,YW hNP hLf,hnf⟩) (by dsimp only;omega)
 have CQ:=YX hNP (show p.rules.length≤i by simp at h;omega);have ade:seg ff 0 p.rules.length=G0 aJ p.rules:=by rw[← hnf,RX aJ CQ]
 refine lb 2<|an rfl<|cg<|an (wj _ _ _ _ _ _ _ _ _ _ _ _ _ _ _ _ _ _ p (hp.keep M.below) iN) fun v w6 ⟨⟨x0,n0,x1,n1,x2,n2,x3,n3,x4,n4,x5,n5,x6,n6,x7,n7,x8,n8,x9,n9,x10,n10,oF,n11,oD,n12,JG,n13,JF,n14,JE,n15,JD,n16,TC,hv,hRC,hPC⟩,hb6⟩=>⟨_,_,M.fR hb6 hRC,?_⟩
 subst hv;clear M;refine ei<|an oI fun gp w7 M7=>lb 0<|an ⟨rfl,rfl⟩ fun w8 M8=>lb 0<|an ⟨rfl,rfl⟩ fun w9 M9=>lp (ι:=Nat×Value) (fun(k,v)=>[(56,.int .i64 (k:Int))]) (fun(k,v)=>(gp,39,#[.slice x0 p.classes.length n0,.slice x1 p.types.length n1,.slice x2 p.attrs.length n2,.slice x3 p.roles.length n3,.slice x4 p.users.length n4,.slice x5 p.bools.length n5,.slice x6 p.aV.length n6,.slice x7 p.cats.length n7,.slice x8 p.conds.length n8,v,.slice x10 p.trans.length n10,.slice oF p.aQ.length n11,.slice oD p.ranges.length n12,.slice JG p.cons.length n13,.slice JF p.bP.length n14,.slice JE p.files.length n15,.slice JD p.asserts.length n16])::_) (fun(k,v)=>⟨v,56,13,(seg ff 0 k).length,(seg ff 0 k).flatMap ak.cells⟩::_) (fun(k,v) _=>k≤p.rules.length) (fun(k,v)=>p.rules.length-k) (0,.slice none 0 0) (an ⟨⟨rfl,trivial⟩,fun M=>⟨M.bX 56 13,atW _⟩⟩ ?_)
 rintro⟨k,v⟩ w M hk;refine an (fun h=>?_) fun h=>?_
 ·have hlt:k<p.rules.length:=by simp at h;omega
  have hsl:=Vk ff k;refine mlk M 1 rfl u7 (fun _=>rfl) (by constructor<;>omega) fun M=>?_
  cases uM:ff k with
  | none=>
   rw[oR (hRv.no uM)];exact ei<|an oy fun g6 N_ zh=>lb 0<|an ⟨rfl,rfl⟩ fun Ut Jf=>an (fun h=>by cases h) fun _=>an (by omega)<|bk (k+1,v) ⟨rfl,trivial⟩ (fun M=>⟨(M.only (.cons _ (.refl _)) (.refl _)).cast rfl (by dsimp only;rw[Gx,uM,Option.toList_none,List.append_nil]),by dsimp only;omega⟩) (by dsimp only;omega)
  | some z=>
   rw[oQ (hRv.yes uM)];refine ei<|an oy fun g6 N_ zh=>lb 0<|an ⟨rfl,rfl⟩ fun Ut Jf=>?_
   refine an (fun _=>?_) fun h=>by cases h
   refine lb 1<|an rfl<|lb 0<|an rfl<|fun g7 N9 FK=>Ub 0 id rfl (FK.slice 0 rfl (k:=13) (n:=1) rfl rfl (by simp[maxLen])) ⟨by unfold maxLen;omega,by omega⟩ fun va vc Xb LO=>?_
   exact lb 2<|an ⟨rfl,rfl⟩ fun Xa W4=>an (by omega)<|bk (k+1,.slice va ((seg ff 0 k).length+1) vc) ⟨rfl,trivial⟩ (fun M=>⟨(M.only (.cons _ (.cons _ (.refl _))) (.refl _)).cast rfl (Vj uM),by dsimp only;omega⟩) (by dsimp only;omega)
 obtain rfl:k=p.rules.length:=by simp at h;omega
 obtain⟨xa9,xc9,rfl⟩:=M.form 0 rfl;refine lb 0<|an rfl<|lb 2<|an ⟨rfl,rfl⟩ fun w M=>ei (x:=2)<|an rfl fun M=>?_
 dsimp only at M;rw[ade] at M;exact⟨_,rfl,⟨_,_,_,_,_,_,_,_,_,_,_,_,_,_,_,_,_,_,_,_,_,_,_,_,_,_,_,_,_,_,_,_,_,_,_,(by rw[ade];rfl),M.iE,fun B u pT=>{ hPC B u ⟨fun r hr=>pT.1 r (at4 _ hr),(List.pairwise_cons.1 pT.2).2⟩ with rules:=SliceAt.bM (pT.1 _ (at2 (i:=0) rfl)) (fE fun _=>rfl) }⟩,M.below⟩
theorem sZ{P:Program}{w:World}{t:TypeId}{d:TypeDesc}(h:P.underlying t=some d):(underlying t).run P w=.ok d w:=by
 unfold underlying;simp[Sem.run_bind,h]
theorem Nv{P:Program}{a:Act}{w:World}{o:Oper}{ss tt:TypeId}{x:Operand}{m:Nat}(ho:o.op=.convert ss tt x)(hx:a.eval x=.int .u8 (m:Int))(hs:P.underlying ss=some (.int .u8))(ht:P.underlying tt=some (.int .i32))(hm:m<256):(execOp a.eval o).run P w=.ok (.value (.int .i32 (m:Int))) w:=by
 have hw:IntKind.i32.wrap (m:Int)=m:=by
  simp[IntKind.wrap,IntKind.bits,IntKind.signed];omega
 unfold execOp;simp[ho,hx,convert,Sem.run_bind,Sem.run_pure,sZ hs,sZ ht,Conv.intToInt,hw]
theorem KC{s:ByteArray}(h:wW s=true):1≤s.size∧s.size≤32∧mI (dQ s 0)=false∧∀ i,i<s.size→jE (dQ s i)=true∨mI (dQ s i)=true:=by
 unfold wW at h;simp only[at6,Bool.not_eq_true',decide_eq_true_iff] at h;obtain⟨h1,h2,h3⟩:=h
 have hb:∀ i,i<s.size→rX s i=false:=fun i hi=>by
  cases e:rX s i with
  | false=>rfl
  | true=>rw[(zG _ _).2 ⟨i,atW _,by omega,e⟩] at h1;cases h1
 have h0:=hb 0 (by omega);refine⟨by omega,by omega,?_,fun i hi=>?_⟩
 ·unfold rX at h0;have e:jE (dQ s 0)=true:=by simpa using h0
  cases hd:mI (dQ s 0) with
  | false=>rfl
  | true=>
   unfold mI at hd;unfold jE at e;simp only[at6,Bool.or_eq_true,decide_eq_true_iff] at hd e;omega
 ·have:=hb i hi;unfold rX at this
  cases hl:jE (dQ s i) with
  | true=>exact .inl rfl
  | false=>
   rw[hl] at this;right;simp at this;exact this.2
theorem cP{s w:ByteArray}(h:jQ s=false)(hw:jQ w=true):(s.toList == w.toList)=false:=by
 cases e:s.toList == w.toList with
 | false=>rfl
 | true=>
  rw[nG] at e;rw[of_decide_eq_true e,hw] at h;cases h
theorem zA(w0:World)(x:Nat):Calls Tryz.prog 326 #[.int .i32 (x:Int)] w0 (fun(r:Ending) (w':World)=>r=.returned (.bool (mI x))∧atZ w0.heap.size w0 w'):=by
 refine fL [] (fn:=Tryz.f326) Tryz.func326 rfl Tryz.ntmps326 rfl<|fun M=>⟨rb ?_,M.below⟩
 rfl
theorem Gh(w0:World)(x:Nat):Calls Tryz.prog 327 #[.int .i32 (x:Int)] w0 (fun(r:Ending) (w':World)=>r=.returned (.bool (jE x))∧atZ w0.heap.size w0 w'):=by
 refine fL [] (fn:=Tryz.f327) Tryz.func327 rfl Tryz.ntmps327 rfl<|fun M=>⟨rb ?_,M.below⟩
 unfold jE;congr 1;exact Bool.or_comm _ _
theorem O1(w0:World)(s:ByteArray)(hs:dX s)(h:wW s=true):Calls Tryz.prog 323 #[.string s] w0 (fun(r:Ending) (w':World)=>r=.returned (.bool (true))∧atZ w0.heap.size w0 w'):=by
 obtain⟨h1,h32,XI,hall⟩:=KC h;have hs':s.size≤140737488355328:=hs
 have hne:gA s=false:=by
  unfold gA;rw[nG];refine decide_eq_false fun e=>?_
  rw[e] at h1;exact absurd h1 (by decide)
 have aM:=hr1 Tryz.prog Tryz.f323 (fun(r:Ending) (w':World)=>r=.returned (.bool (true))∧atZ w0.heap.size w0 w') 36 2 rfl;refine en Tryz.func323 rfl Tryz.ntmps323 rfl (vs:=[.string s]) rfl fun _ F=>?_
 have M:=Mm.start w0;refine auc fun K1 dw=>ah<|xA (v:=.bool false) F rf rf rf fun _ F=>aud<|dw _ _ ?_
 refine auc fun K2 cQ=>auc fun K3 fJ=>ah<|xM F rf rf rf fun _ F=>ke (on rfl) (aea rfl (F.u rf) rfl) rfl F rfl (congrArg Value.bool hne) fun _ F=>xM F rf rf rf fun _ F=>kv (gn rfl rfl (F.g 7 rfl)) (bC rfl (F.u rf)) rfl F rfl fun _ F=>kv (gn rfl rfl (F.g 7 rfl)) (AK rfl (F.u rf) u9) rfl F rfl fun _ F=>
  ke (gn rfl rfl (F.g 7 rfl)) (CX rfl (F.u rf) rfl) rfl F rfl (congrArg Value.bool (decide_eq_false (by omega))) fun _ F=>
  ke (u:=.bool false) (on rfl) (bq rfl (F.u rf) rfl (F.u rf)) rfl F rfl rfl fun _ F=>
  xM F rf rf rf fun _ F=>
  kv (gn rfl rfl (F.g 12 rfl)) (bC rfl (F.u rf)) rfl F rfl fun _ F=>
  ke (gn rfl rfl (F.g 12 rfl)) (rT (i:=0) rfl (F.u rf) rfl (by omega) u9) rfl F rfl (congrArg (Value.int .u8) (congrArg Nat.cast (nu (by omega:0<s.size)))) fun _ F=>
  kv (gn rfl rfl (F.g 12 rfl)) (Nv rfl (F.u rf) u5 u21 (nr _ _)) rfl F rfl fun _ F=>
  kc (gn rfl rfl (F.g 12 rfl)) (bw rfl Tryz.func326 Xq rfl (args1 (F.u rf))) ((zA _ (dQ s 0)).mono fun _ _ ⟨e,h⟩=>⟨by rw[e,XI],h⟩) rfl F rfl M fun _ _ F M=>
  ke (u:=.bool false) (on rfl) (bq rfl (F.u rf) rfl (F.u rf)) rfl F rfl rfl fun _ F=>
  aud<|
  fJ _ _ ?_
 refine auh (F.e 17 rfl) ?_;refine wp_skip<|cQ _ _ ?_;refine auc fun K4 fQ=>auc fun K5 gL=>ah<|xM F rf rf rf fun _ F=>kz F rf (AK rfl (F.u rf) u9) fun _ F=>xM (v:=.int .i64 0) F rf rf rf fun _ F=>aud<|gL _ _ ?_
 refine aue<|?_;refine bV (ι:=Nat) (fun m a w=>Fs a 36 [(0,.string s),(19,.int .i64 ((s).size:Int)),(20,.int .i64 (m:Int))]∧Mm w0 w [] []∧m≤s.size) (fun m=>s.size-m) 0 ⟨F.sub ⟨rfl,rfl,rfl,trivial⟩,M,atW _⟩ ?_
 (repeat clear F);(repeat clear M)
 rintro m _ _ ⟨F,M,hm⟩;refine auc fun K6 iC=>ah<|kz F rf (d_ rfl (F.u rf) (F.u rf)) fun _ F=>aud<|iC _ _ ?_
 refine auc fun K7 iO=>?_
 refine auf (F.e 21 rfl) (fun hc1=>?_) (fun hc1=>?_)
 ·have hd2:=of_decide_eq_true hc1;refine wp_skip<|iO _ _ ?_;refine auc fun K8 jf=>aue<|auc fun K9 jW=>ah<|xM F rf rf rf fun _ F=>xA F rf rf rf fun _ F=>aud<|jW _ _ ?_
  refine auc fun Bh dU=>?_
  have hlt:m<s.size:=by omega
  have hld:=hall m hlt
  refine ah<|xM F rf rf rf fun _ F=>xM F rf rf rf fun _ F=>
   ke (on rfl) (rT (i:=m) rfl (F.u rf) (F.u rf) (by omega) u9) rfl F rfl (congrArg (Value.int .u8) (congrArg Nat.cast (nu (by omega:m<s.size)))) fun _ F=>
   kz F rf (Nv rfl (F.u rf) u5 u21 (nr _ _)) fun _ F=>
   xA F rf rf rf fun _ F=>
   aud<|
   dU _ _ ?_
  refine auc fun I8 gj=>ah<|xM F rf rf rf fun _ F=>xC F M rf rf afH (args1 (F.u rf)) (Gh _ (dQ s m)) fun _ _ F M=>kz F rf (jS rfl (F.u rf)) fun _ F=>xM F rf rf rf fun _ F=>bU (x:=.int .i32 (dQ s m:Int)) rfl rfl (F.g 30 rfl) (bt _) (fun ge=>(bC rfl (F.u rf))) rfl F rfl rfl fun _ F=>k_ rfl rfl (F.g 30 rfl) (bt _) (fun ge=>(bw rfl Tryz.func326 Xq rfl (args1 ((F.g 31 rfl).on ge).ev))) (fun ge=>zA _ (dQ s m)) rfl F rfl M fun _ _ F M=>bU (x:=.bool (!(mI (dQ s m)))) rfl rfl (F.g 30 rfl) (bt _) (fun ge=>(jS rfl ((F.g 32 rfl).on ge).ev)) rfl F rfl rfl fun _ F=>kz F rf (rq (bq rfl (F.u rf) (F.u rf) rfl) (qH _ _)) fun _ F=>aud<|gj _ _ ?_
  refine auf (F.e 34 rfl) (fun hc3=>?_) (fun hc3=>?_)
  ·refine auc fun I7 fT=>ah<|xA (v:=.bool false) F rf rf rf fun _ F=>aud<|fT _ _ ?_
   refine wp_ret<|aM _ _ _ _ F rfl ?_;rcases hld with h|h<;>simp[h] at hc3
  ·refine wp_skip<|jf _ _ ?_
   refine ah<|
    ke (on rfl) (cL rfl (F.u rf) rfl) rfl F rfl (congrArg (Value.int .i64) (wrap_i64 (by omega))) fun _ F=>
    xM F rf rf rf fun _ F=>
    aud<|?_
   exact⟨m+1,⟨F.sub ⟨rfl,rfl,rfl,trivial⟩,M,by omega⟩,by show s.size-(m+1)<s.size-m;omega⟩
 ·have BH:=of_decide_eq_false hc1;refine wp_exit<|fQ _ _ ?_;refine auc fun Jh gM=>ah<|xA (v:=.bool true) F rf rf rf fun _ F=>aud<|gM _ _ ?_
  refine wp_ret<|aM _ _ _ _ F rfl ?_;exact⟨rfl,M.below⟩
theorem Dx(w0:World)(s:ByteArray)(nN:jQ s=false):Calls Tryz.prog 324 #[.string s] w0 (fun(r:Ending) (w':World)=>r=.returned (.bool (false))∧atZ w0.heap.size w0 w'):=by
 have aM:=hr1 Tryz.prog Tryz.f324 (fun(r:Ending) (w':World)=>r=.returned (.bool (false))∧atZ w0.heap.size w0 w') 47 2 rfl;refine en Tryz.func324 rfl Tryz.ntmps324 rfl (vs:=[.string s]) rfl fun _ F=>?_
 have M:=Mm.start w0;refine auc fun K1 dw=>ah<|xA (v:=.bool false) F rf rf rf fun _ F=>aud<|dw _ _ ?_
 refine auc fun K2 cQ=>auc fun K3 fJ=>ah<|xM F rf rf rf fun _ F=>aud<|fJ _ _ ?_
 refine aue<|auc fun K4 fQ=>auc fun K5 gL=>ah<|
  ke (on rfl) (cA rfl (F.u rf) rfl) rfl F rfl (congrArg Value.bool (cP nN (by kernel_rfl))) fun _ F=>
  xA F rf rf rf fun _ F=>
  aud<|
  gL _ _ ?_
 refine auh (F.e 4 rfl) ?_
 refine auc fun K6 iC=>ah<|
  ke (on rfl) (cA rfl (F.u rf) rfl) rfl F rfl (congrArg Value.bool (cP nN (by kernel_rfl))) fun _ F=>
  xA F rf rf rf fun _ F=>
  aud<|
  iC _ _ ?_
 refine auh (F.e 4 rfl) ?_
 refine auc fun K7 iO=>ah<|
  ke (on rfl) (cA rfl (F.u rf) rfl) rfl F rfl (congrArg Value.bool (cP nN (by kernel_rfl))) fun _ F=>
  xA F rf rf rf fun _ F=>
  aud<|
  iO _ _ ?_
 refine auh (F.e 4 rfl) ?_
 refine auc fun K8 jf=>ah<|
  ke (on rfl) (cA rfl (F.u rf) rfl) rfl F rfl (congrArg Value.bool (cP nN (by kernel_rfl))) fun _ F=>
  xA F rf rf rf fun _ F=>
  aud<|
  jf _ _ ?_
 refine auh (F.e 4 rfl) ?_
 refine auc fun K9 jW=>ah<|
  ke (on rfl) (cA rfl (F.u rf) rfl) rfl F rfl (congrArg Value.bool (cP nN (by kernel_rfl))) fun _ F=>
  xA F rf rf rf fun _ F=>
  aud<|
  jW _ _ ?_
 refine auh (F.e 4 rfl) ?_
 refine auc fun Bh dU=>ah<|
  ke (on rfl) (cA rfl (F.u rf) rfl) rfl F rfl (congrArg Value.bool (cP nN (by kernel_rfl))) fun _ F=>
  xA F rf rf rf fun _ F=>
  aud<|
  dU _ _ ?_
 refine auh (F.e 4 rfl) ?_
 refine auc fun I8 gj=>ah<|
  ke (on rfl) (cA rfl (F.u rf) rfl) rfl F rfl (congrArg Value.bool (cP nN (by kernel_rfl))) fun _ F=>
  xA F rf rf rf fun _ F=>
  aud<|
  gj _ _ ?_
 refine auh (F.e 4 rfl) ?_
 refine auc fun I7 fT=>ah<|
  ke (on rfl) (cA rfl (F.u rf) rfl) rfl F rfl (congrArg Value.bool (cP nN (by kernel_rfl))) fun _ F=>
  xA F rf rf rf fun _ F=>
  aud<|
  fT _ _ ?_
 refine auh (F.e 4 rfl) ?_
 refine auc fun Jh gM=>ah<|
  ke (on rfl) (cA rfl (F.u rf) rfl) rfl F rfl (congrArg Value.bool (cP nN (by kernel_rfl))) fun _ F=>
  xA F rf rf rf fun _ F=>
  aud<|
  gM _ _ ?_
 refine auh (F.e 4 rfl) ?_
 refine ah<|
  ke (on rfl) (cA rfl (F.u rf) rfl) rfl F rfl (congrArg Value.bool (cP nN (by kernel_rfl))) fun _ F=>
  xA F rf rf rf fun _ F=>
  aud<|
  fQ _ _ ?_
 refine auh (F.e 4 rfl) ?_
 refine auc fun NR jg=>auc fun W6 mY=>ah<|
  ke (on rfl) (cA rfl (F.u rf) rfl) rfl F rfl (congrArg Value.bool (cP nN (by kernel_rfl))) fun _ F=>
  xA F rf rf rf fun _ F=>
  aud<|
  mY _ _ ?_
 refine auh (F.e 15 rfl) ?_
 refine auc fun K16 tR=>ah<|
  ke (on rfl) (cA rfl (F.u rf) rfl) rfl F rfl (congrArg Value.bool (cP nN (by kernel_rfl))) fun _ F=>
  xA F rf rf rf fun _ F=>
  aud<|
  tR _ _ ?_
 refine auh (F.e 15 rfl) ?_
 refine auc fun K17 Lj=>ah<|
  ke (on rfl) (cA rfl (F.u rf) rfl) rfl F rfl (congrArg Value.bool (cP nN (by kernel_rfl))) fun _ F=>
  xA F rf rf rf fun _ F=>
  aud<|
  Lj _ _ ?_
 refine auh (F.e 15 rfl) ?_
 refine auc fun K18 S_=>ah<|
  ke (on rfl) (cA rfl (F.u rf) rfl) rfl F rfl (congrArg Value.bool (cP nN (by kernel_rfl))) fun _ F=>
  xA F rf rf rf fun _ F=>
  aud<|
  S_ _ _ ?_
 refine auh (F.e 15 rfl) ?_
 refine auc fun K19 ZV=>ah<|
  ke (on rfl) (cA rfl (F.u rf) rfl) rfl F rfl (congrArg Value.bool (cP nN (by kernel_rfl))) fun _ F=>
  xA F rf rf rf fun _ F=>
  aud<|
  ZV _ _ ?_
 refine auh (F.e 15 rfl) ?_
 refine auc fun K20 ZU=>ah<|
  ke (on rfl) (cA rfl (F.u rf) rfl) rfl F rfl (congrArg Value.bool (cP nN (by kernel_rfl))) fun _ F=>
  xA F rf rf rf fun _ F=>
  aud<|
  ZU _ _ ?_
 refine auh (F.e 15 rfl) ?_
 refine auc fun K21 ZT=>ah<|
  ke (on rfl) (cA rfl (F.u rf) rfl) rfl F rfl (congrArg Value.bool (cP nN (by kernel_rfl))) fun _ F=>
  xA F rf rf rf fun _ F=>
  aud<|
  ZT _ _ ?_
 refine auh (F.e 15 rfl) ?_
 refine auc fun K22 ZS=>ah<|
  ke (on rfl) (cA rfl (F.u rf) rfl) rfl F rfl (congrArg Value.bool (cP nN (by kernel_rfl))) fun _ F=>
  xA F rf rf rf fun _ F=>
  aud<|
  ZS _ _ ?_
 refine auh (F.e 15 rfl) ?_
 refine ah<|
  ke (on rfl) (cA rfl (F.u rf) rfl) rfl F rfl (congrArg Value.bool (cP nN (by kernel_rfl))) fun _ F=>
  xA F rf rf rf fun _ F=>
  aud<|
  jg _ _ ?_
 refine auh (F.e 15 rfl) ?_
 refine auc fun K23 Wq=>auc fun K24 ZR=>ah<|
  ke (on rfl) (cA rfl (F.u rf) rfl) rfl F rfl (congrArg Value.bool (cP nN (by kernel_rfl))) fun _ F=>
  xA F rf rf rf fun _ F=>
  aud<|
  ZR _ _ ?_
 refine auh (F.e 25 rfl) ?_
 refine auc fun K25 Wp=>ah<|
  ke (on rfl) (cA rfl (F.u rf) rfl) rfl F rfl (congrArg Value.bool (cP nN (by kernel_rfl))) fun _ F=>
  xA F rf rf rf fun _ F=>
  aud<|
  Wp _ _ ?_
 refine auh (F.e 25 rfl) ?_
 refine auc fun K26 ZQ=>ah<|
  ke (on rfl) (cA rfl (F.u rf) rfl) rfl F rfl (congrArg Value.bool (cP nN (by kernel_rfl))) fun _ F=>
  xA F rf rf rf fun _ F=>
  aud<|
  ZQ _ _ ?_
 refine auh (F.e 25 rfl) ?_
 refine auc fun K27 ZP=>ah<|
  ke (on rfl) (cA rfl (F.u rf) rfl) rfl F rfl (congrArg Value.bool (cP nN (by kernel_rfl))) fun _ F=>
  xA F rf rf rf fun _ F=>
  aud<|
  ZP _ _ ?_
 refine auh (F.e 25 rfl) ?_
 refine auc fun K28 ZO=>ah<|
  ke (on rfl) (cA rfl (F.u rf) rfl) rfl F rfl (congrArg Value.bool (cP nN (by kernel_rfl))) fun _ F=>
  xA F rf rf rf fun _ F=>
  aud<|
  ZO _ _ ?_
 refine auh (F.e 25 rfl) ?_
 refine auc fun K29 ZN=>ah<|
  ke (on rfl) (cA rfl (F.u rf) rfl) rfl F rfl (congrArg Value.bool (cP nN (by kernel_rfl))) fun _ F=>
  xA F rf rf rf fun _ F=>
  aud<|
  ZN _ _ ?_
 refine auh (F.e 25 rfl) ?_
 refine auc fun K30 ahx=>ah<|
  ke (on rfl) (cA rfl (F.u rf) rfl) rfl F rfl (congrArg Value.bool (cP nN (by kernel_rfl))) fun _ F=>
  xA F rf rf rf fun _ F=>
  aud<|
  ahx _ _ ?_
 refine auh (F.e 25 rfl) ?_
 refine ah<|
  ke (on rfl) (cA rfl (F.u rf) rfl) rfl F rfl (congrArg Value.bool (cP nN (by kernel_rfl))) fun _ F=>
  xA F rf rf rf fun _ F=>
  aud<|
  Wq _ _ ?_
 refine auh (F.e 25 rfl) ?_
 refine auc fun K31 ahw=>auc fun K32 ahv=>ah<|
  ke (on rfl) (cA rfl (F.u rf) rfl) rfl F rfl (congrArg Value.bool (cP nN (by kernel_rfl))) fun _ F=>
  xA F rf rf rf fun _ F=>
  aud<|
  ahv _ _ ?_
 refine auh (F.e 34 rfl) ?_
 refine auc fun K33 ahu=>ah<|
  ke (on rfl) (cA rfl (F.u rf) rfl) rfl F rfl (congrArg Value.bool (cP nN (by kernel_rfl))) fun _ F=>
  xA F rf rf rf fun _ F=>
  aud<|
  ahu _ _ ?_
 refine auh (F.e 34 rfl) ?_
 refine auc fun K34 aht=>ah<|
  ke (on rfl) (cA rfl (F.u rf) rfl) rfl F rfl (congrArg Value.bool (cP nN (by kernel_rfl))) fun _ F=>
  xA F rf rf rf fun _ F=>
  aud<|
  aht _ _ ?_
 refine auh (F.e 34 rfl) ?_
 refine auc fun K35 ahs=>ah<|
  ke (on rfl) (cA rfl (F.u rf) rfl) rfl F rfl (congrArg Value.bool (cP nN (by kernel_rfl))) fun _ F=>
  xA F rf rf rf fun _ F=>
  aud<|
  ahs _ _ ?_
 refine auh (F.e 34 rfl) ?_
 refine auc fun K36 ahr=>ah<|
  ke (on rfl) (cA rfl (F.u rf) rfl) rfl F rfl (congrArg Value.bool (cP nN (by kernel_rfl))) fun _ F=>
  xA F rf rf rf fun _ F=>
  aud<|
  ahr _ _ ?_
 refine auh (F.e 34 rfl) ?_
 refine auc fun K37 ahq=>ah<|
  ke (on rfl) (cA rfl (F.u rf) rfl) rfl F rfl (congrArg Value.bool (cP nN (by kernel_rfl))) fun _ F=>
  xA F rf rf rf fun _ F=>
  aud<|
  ahq _ _ ?_
 refine auh (F.e 34 rfl) ?_
 refine auc fun K38 ahp=>ah<|
  ke (on rfl) (cA rfl (F.u rf) rfl) rfl F rfl (congrArg Value.bool (cP nN (by kernel_rfl))) fun _ F=>
  xA F rf rf rf fun _ F=>
  aud<|
  ahp _ _ ?_
 refine auh (F.e 34 rfl) ?_
 refine auc fun K39 aho=>ah<|
  ke (on rfl) (cA rfl (F.u rf) rfl) rfl F rfl (congrArg Value.bool (cP nN (by kernel_rfl))) fun _ F=>
  xA F rf rf rf fun _ F=>
  aud<|
  aho _ _ ?_
 refine auh (F.e 34 rfl) ?_
 refine auc fun K40 ahn=>ah<|
  ke (on rfl) (cA rfl (F.u rf) rfl) rfl F rfl (congrArg Value.bool (cP nN (by kernel_rfl))) fun _ F=>
  xA F rf rf rf fun _ F=>
  aud<|
  ahn _ _ ?_
 refine auh (F.e 34 rfl) ?_
 refine auc fun K41 ahm=>ah<|
  ke (on rfl) (cA rfl (F.u rf) rfl) rfl F rfl (congrArg Value.bool (cP nN (by kernel_rfl))) fun _ F=>
  xA F rf rf rf fun _ F=>
  aud<|
  ahm _ _ ?_
 refine auh (F.e 34 rfl) ?_
 refine auc fun K42 ahl=>ah<|
  ke (on rfl) (cA rfl (F.u rf) rfl) rfl F rfl (congrArg Value.bool (cP nN (by kernel_rfl))) fun _ F=>
  xA F rf rf rf fun _ F=>
  aud<|
  ahl _ _ ?_
 refine auh (F.e 34 rfl) ?_
 refine ah<|
  ke (on rfl) (cA rfl (F.u rf) rfl) rfl F rfl (congrArg Value.bool (cP nN (by kernel_rfl))) fun _ F=>
  xA F rf rf rf fun _ F=>
  aud<|
  ahw _ _ ?_
 refine auh (F.e 34 rfl) ?_;refine auc fun K43 ahk=>ah<|xA (v:=.bool false) F rf rf rf fun _ F=>aud<|ahk _ _ ?_
 refine wp_ret<|aM _ _ _ _ F rfl ?_;exact⟨rfl,M.below⟩
theorem JO(w0:World)(s:ByteArray)(hs:dX s)(h:pR s=true):Calls Tryz.prog 318 #[.string s] w0 (fun(r:Ending) (w':World)=>r=.returned (.bool (true))∧atZ w0.heap.size w0 w'):=by
 have h1:wW s=true:=(Bool.and_eq_true_iff.1 h).1;have h2:jQ s=false:=by have:=(Bool.and_eq_true_iff.1 h).2;simpa using this
 have aM:=hr1 Tryz.prog Tryz.f318 (fun(r:Ending) (w':World)=>r=.returned (.bool (true))∧atZ w0.heap.size w0 w') 10 2 rfl;refine en Tryz.func318 rfl Tryz.ntmps318 rfl (vs:=[.string s]) rfl fun _ F=>?_
 have M:=Mm.start w0;refine auc fun K1 dw=>ah<|xA (v:=.bool false) F rf rf rf fun _ F=>aud<|dw _ _ ?_
 refine auc fun K2 cQ=>ah<|xM F rf rf rf fun _ F=>xC F M rf rf afI (args1 (F.u rf)) (O1 _ s hs h1) fun _ _ F M=>xM F rf rf rf fun _ F=>kv (gn rfl rfl (F.g 5 rfl)) (bC rfl (F.u rf)) rfl F rfl fun _ F=>kc (gn rfl rfl (F.g 5 rfl)) (bw rfl Tryz.func324 acg rfl (args1 (F.u rf))) (Dx _ s h2) rfl F rfl M fun _ _ F M=>kv (gn rfl rfl (F.g 5 rfl)) (jS rfl (F.u rf)) rfl F rfl fun _ F=>ke (u:=.bool true) (on rfl) (bq rfl (F.u rf) (F.u rf) rfl) rfl F rfl rfl fun _ F=>xA F rf rf rf fun _ F=>aud<|cQ _ _ ?_
 refine wp_ret<|aM _ _ _ _ F rfl ?_;exact⟨rfl,M.below⟩
def FH(op:Int):Int:=if op=1 then 0 else if op=2 then 1 else if op=3 then 2 else if op=4 then 2 else if op=5 then 2 else if op=6 then 2 else if op=7 then 2 else -1
inductive jo:Nat→aA→Prop
 | name {d:Nat} {s:ByteArray}:pR s=true→dX s→jo (d+1) (.node 1 0 0 0 [s] au.zero [])
 | not {d:Nat} {k:aA}:jo d k→jo (d+1) (.node 2 0 0 0 [] au.zero [k])
 | bin {d:Nat} {op:Int} {k l:aA}:3≤op→op≤7→jo d k→jo d l→jo (d+1) (.node op 0 0 0 [] au.zero [k,l])
theorem VE{op:Int}(h1:3≤op)(h2:op≤7):FH op=2:=by
 unfold FH;rcases(show op=3∨op=4∨op=5∨op=6∨op=7 by omega) with rfl|rfl|rfl|rfl|rfl<;>rfl
structure Bl (d:Nat) (e:aA):Prop where
 a:e.a=0
 rel:e.rel=0
 b:e.b=0
 set:e.set=au.zero
 kids:(e.kids.length:Int)=FH e.op
 nm:FH e.op=0→∃ s,e.names=[s]∧pR s=true∧dX s
 nn:FH e.op≠0→e.names=[]
 kid:∀ k∈e.kids,∃ c,d=c+1∧jo c k
 pos:1≤d
 op1:FH e.op=0↔e.op=1
theorem jo.facts{d:Nat}{e:aA}(h:jo d e):Bl d e:=by
 cases h with
 | name h1 h2=>exact⟨rfl,rfl,rfl,rfl,rfl,fun _=>⟨_,rfl,h1,h2⟩,fun h=>absurd rfl h,fun _ h=>(by cases h),(by omega),⟨fun _=>rfl,fun _=>rfl⟩⟩
 | not h1=>exact⟨rfl,rfl,rfl,rfl,rfl,fun h=>(by cases h),fun _=>rfl,fun k hk=>⟨_,rfl,(by rw[auj.1 hk];exact h1)⟩,(by omega),⟨fun h=>(by cases h),fun h=>(by cases h)⟩⟩
 | @bin d op k l h1 h2 h3 h4=>
  have ho:=VE h1 h2;refine⟨rfl,rfl,rfl,rfl,by rw[show(aA.node op 0 0 0 [] au.zero [k,l]).op=op from rfl,ho];rfl,fun h=>?_,fun _=>rfl,fun x hx=>⟨_,rfl,?_⟩,by omega,?_⟩
  ·rw[show(aA.node op 0 0 0 [] au.zero [k,l]).op=op from rfl,ho] at h;cases h
  ·rcases atX.1 hx with hx|hx
   ·rw[hx];exact h3
   ·rw[auj.1 hx];exact h4
  ·rw[show(aA.node op 0 0 0 [] au.zero [k,l]).op=op from rfl,ho];exact⟨fun h=>(by cases h),fun h=>by omega⟩
mutual
def bR:aA→List ByteArray
 | .node _ _ _ _ names _ kids=>names++bZ kids
def bZ:List aA→List ByteArray
 | []=>[]
 | k::l=>bR k++bZ l
end
theorem mV(e:aA):bR e=e.names++bZ e.kids:=by cases e;rw[bR];rfl
def eB(e:aA)(m:Nat):List ByteArray:=e.names++bZ (e.kids.take m)
theorem pO:∀ a b:List aA,bZ (a++b)=bZ a++bZ b
 | [],b=>by rw[bZ];rfl
 | k::a,b=>by rw[List.cons_append,bZ,bZ,pO a b,List.append_assoc]
theorem zU{e:aA}{m:Nat}{y:aA}(hy:e.kids[m]?=some y):eB e (m+1)=eB e m++bR y:=by
 unfold eB;rw[List.take_add_one,hy,pO,Option.toList_some,bZ,bZ,List.append_nil,List.append_assoc]
theorem OZ{e:aA}:eB e e.kids.length=bR e:=by unfold eB;rw[List.take_length,mV]
theorem OY(e:aA):e.names.length≤(bR e).length:=by rw[mV,aua];omega
theorem KA{e:aA}{m:Nat}{y:aA}(hy:e.kids[m]?=some y):(eB e m).length+(bR y).length≤(bR e).length:=by
 have h1:=zU hy;have h2:=congrArg List.length h1;rw[aua] at h2;have h3:bZ e.kids=bZ (e.kids.take (m+1))++bZ (e.kids.drop (m+1)):=by rw[← pO,List.take_append_drop]
 have h4:=congrArg List.length (mV e);rw[h3] at h4;unfold eB at h2 ⊢;simp only[aua] at h2 h4 ⊢;omega
theorem Y0{e:aA}{m n k t:Nat}{y:aA}{v:Value}{xs:List Value}{rs:List Rw}(hy:e.kids[m]?=some y):(⟨v,t,k,n+(eB e m).length+(bR y).length,(xs++(eB e m).flatMap aN)++(bR y).flatMap aN⟩::rs:List Rw)=⟨v,t,k,n+(eB e (m+1)).length,xs++(eB e (m+1)).flatMap aN⟩::rs:=by
 rw[zU hy,aua,aub,List.append_assoc,Nat.add_assoc]
theorem VI{e:aA}{n k t:Nat}{v:Value}{xs:List Value}{rs:List Rw}:(⟨v,t,k,n+e.names.length,xs++e.names.flatMap aN⟩::rs:List Rw)=⟨v,t,k,n+(eB e 0).length,xs++(eB e 0).flatMap aN⟩::rs:=by
 have h:eB e 0=e.names:=by unfold eB;rw[List.take_zero,bZ,List.append_nil]
 rw[h]
theorem T3(w0:World)(op:Int):Calls Tryz.prog 317 #[.int .i64 op] w0 (fun(r:Ending) (w':World)=>r=.returned (.int .i64 (FH op))∧atZ w0.heap.size w0 w'):=by
 have aM:=hr1 Tryz.prog Tryz.f317 (fun(r:Ending) (w':World)=>r=.returned (.int .i64 (FH op))∧atZ w0.heap.size w0 w') 14 2 rfl;refine en Tryz.func317 rfl Tryz.ntmps317 rfl (vs:=[.int .i64 op]) rfl fun _ F=>?_
 have M:=Mm.start w0;refine auc fun K1 dw=>ah<|xA (v:=.int .i64 0) F rf rf rf fun _ F=>aud<|dw _ _ ?_
 refine auc fun K2 cQ=>auc fun K3 fJ=>ah<|xM F rf rf rf fun _ F=>aud<|fJ _ _ ?_
 refine aue<|auc fun K4 fQ=>ah<|kz F rf (eX rfl (F.u rf) rfl) fun _ F=>xA F rf rf rf fun _ F=>aud<|fQ _ _ ?_
 refine auf (F.e 4 rfl) (fun hc1=>?_) (fun hc1=>?_)
 ·have hd2:=of_decide_eq_true hc1;refine auc fun K5 gL=>ah<|xA (v:=.int .i64 0) F rf rf rf fun _ F=>aud<|gL _ _ ?_
  refine wp_ret<|aM _ _ _ _ F rfl ?_;exact⟨bE (by unfold FH;refine Eq.symm ?_;repeat (first|with_reducible rfl|assumption|(with_reducible refine Eq.trans (if_pos ?_) ?_;focus (first|assumption|(refine cO ?_;assumption)|(refine cN ?_;assumption)|omega|(simp[hd2];done)))|(with_reducible refine Eq.trans (if_neg ?_) ?_;focus (first|assumption|(refine cO ?_;assumption)|(refine cN ?_;assumption)|omega|(simp[hd2];done)))|omega)),M.below⟩
 ·have hd3:=of_decide_eq_false hc1;refine auc fun K6 iC=>ah<|kz F rf (eX rfl (F.u rf) rfl) fun _ F=>xA F rf rf rf fun _ F=>aud<|iC _ _ ?_
  refine auf (F.e 6 rfl) (fun yd=>?_) (fun yd=>?_)
  ·have Ao:=of_decide_eq_true yd;refine auc fun K7 iO=>ah<|xA (v:=.int .i64 1) F rf rf rf fun _ F=>aud<|iO _ _ ?_
   refine wp_ret<|aM _ _ _ _ F rfl ?_;exact⟨bE (by unfold FH;refine Eq.symm ?_;repeat (first|with_reducible rfl|assumption|(with_reducible refine Eq.trans (if_pos ?_) ?_;focus (first|assumption|(refine cO ?_;assumption)|(refine cN ?_;assumption)|omega|(simp[Ao];done)))|(with_reducible refine Eq.trans (if_neg ?_) ?_;focus (first|assumption|(refine cO ?_;assumption)|(refine cN ?_;assumption)|omega|(simp[hd3,Ao];done)))|omega)),M.below⟩
  ·have vU:=of_decide_eq_false yd;refine auc fun K8 jf=>auc fun K9 jW=>ah<|kz F rf (eX rfl (F.u rf) rfl) fun _ F=>xA F rf rf rf fun _ F=>aud<|jW _ _ ?_
   refine auf (F.e 8 rfl) (fun XK=>?_) (fun XK=>?_)
   ·have Qz:=of_decide_eq_true XK;refine wp_skip<|jf _ _ ?_;have F:=F.eq 8 rfl (congrArg Value.bool XK);refine wp_cond_true (F.e 8 rfl) ?_;refine auc fun Bh dU=>ah<|xA (v:=.int .i64 2) F rf rf rf fun _ F=>aud<|dU _ _ ?_
    refine wp_ret<|aM _ _ _ _ F rfl ?_;exact⟨bE (by unfold FH;refine Eq.symm ?_;repeat (first|with_reducible rfl|assumption|(with_reducible refine Eq.trans (if_pos ?_) ?_;focus (first|assumption|(refine cO ?_;assumption)|(refine cN ?_;assumption)|omega|(simp[Qz];done)))|(with_reducible refine Eq.trans (if_neg ?_) ?_;focus (first|assumption|(refine cO ?_;assumption)|(refine cN ?_;assumption)|omega|(simp[hd3,vU,Qz];done)))|omega)),M.below⟩
   ·have Ea:=of_decide_eq_false XK;refine auc fun I8 gj=>ah<|kz F rf (eX rfl (F.u rf) rfl) fun _ F=>xA F rf rf rf fun _ F=>aud<|gj _ _ ?_
    refine auf (F.e 8 rfl) (fun jt=>?_) (fun jt=>?_)
    ·have Hx:=of_decide_eq_true jt;refine wp_skip<|jf _ _ ?_;have F:=F.eq 8 rfl (congrArg Value.bool jt);refine wp_cond_true (F.e 8 rfl) ?_;refine auc fun I7 fT=>ah<|xA (v:=.int .i64 2) F rf rf rf fun _ F=>aud<|fT _ _ ?_
     refine wp_ret<|aM _ _ _ _ F rfl ?_;exact⟨bE (by unfold FH;refine Eq.symm ?_;repeat (first|with_reducible rfl|assumption|(with_reducible refine Eq.trans (if_pos ?_) ?_;focus (first|assumption|(refine cO ?_;assumption)|(refine cN ?_;assumption)|omega|(simp[Hx];done)))|(with_reducible refine Eq.trans (if_neg ?_) ?_;focus (first|assumption|(refine cO ?_;assumption)|(refine cN ?_;assumption)|omega|(simp[hd3,vU,Ea,Hx];done)))|omega)),M.below⟩
    ·have vV:=of_decide_eq_false jt;refine auc fun Jh gM=>ah<|kz F rf (eX rfl (F.u rf) rfl) fun _ F=>xA F rf rf rf fun _ F=>aud<|gM _ _ ?_
     refine auf (F.e 8 rfl) (fun Pv=>?_) (fun Pv=>?_)
     ·have adF:=of_decide_eq_true Pv;refine wp_skip<|jf _ _ ?_;have F:=F.eq 8 rfl (congrArg Value.bool Pv);refine wp_cond_true (F.e 8 rfl) ?_;refine auc fun NR jg=>ah<|xA (v:=.int .i64 2) F rf rf rf fun _ F=>aud<|jg _ _ ?_
      refine wp_ret<|aM _ _ _ _ F rfl ?_;exact⟨bE (by unfold FH;refine Eq.symm ?_;repeat (first|with_reducible rfl|assumption|(with_reducible refine Eq.trans (if_pos ?_) ?_;focus (first|assumption|(refine cO ?_;assumption)|(refine cN ?_;assumption)|omega|(simp[adF];done)))|(with_reducible refine Eq.trans (if_neg ?_) ?_;focus (first|assumption|(refine cO ?_;assumption)|(refine cN ?_;assumption)|omega|(simp[hd3,vU,Ea,vV,adF];done)))|omega)),M.below⟩
     ·have Pr:=of_decide_eq_false Pv;refine auc fun W6 mY=>ah<|kz F rf (eX rfl (F.u rf) rfl) fun _ F=>xA F rf rf rf fun _ F=>aud<|mY _ _ ?_
      refine auf (F.e 8 rfl) (fun Wj=>?_) (fun Wj=>?_)
      ·have adE:=of_decide_eq_true Wj;refine wp_skip<|jf _ _ ?_;have F:=F.eq 8 rfl (congrArg Value.bool Wj);refine wp_cond_true (F.e 8 rfl) ?_;refine auc fun K16 tR=>ah<|xA (v:=.int .i64 2) F rf rf rf fun _ F=>aud<|tR _ _ ?_
       refine wp_ret<|aM _ _ _ _ F rfl ?_;exact⟨bE (by unfold FH;refine Eq.symm ?_;repeat (first|with_reducible rfl|assumption|(with_reducible refine Eq.trans (if_pos ?_) ?_;focus (first|assumption|(refine cO ?_;assumption)|(refine cN ?_;assumption)|omega|(simp[adE];done)))|(with_reducible refine Eq.trans (if_neg ?_) ?_;focus (first|assumption|(refine cO ?_;assumption)|(refine cN ?_;assumption)|omega|(simp[hd3,vU,Ea,vV,Pr,adE];done)))|omega)),M.below⟩
      ·have Wb:=of_decide_eq_false Wj;refine ah<|kz F rf (eX rfl (F.u rf) rfl) fun _ F=>xA F rf rf rf fun _ F=>aud<|jf _ _ ?_
       refine auf (F.e 8 rfl) (fun hc19=>?_) (fun hc19=>?_)
       ·have ZC:=of_decide_eq_true hc19;refine auc fun K17 Lj=>ah<|xA (v:=.int .i64 2) F rf rf rf fun _ F=>aud<|Lj _ _ ?_
        refine wp_ret<|aM _ _ _ _ F rfl ?_;exact⟨bE (by unfold FH;refine Eq.symm ?_;repeat (first|with_reducible rfl|assumption|(with_reducible refine Eq.trans (if_pos ?_) ?_;focus (first|assumption|(refine cO ?_;assumption)|(refine cN ?_;assumption)|omega|(simp[ZC];done)))|(with_reducible refine Eq.trans (if_neg ?_) ?_;focus (first|assumption|(refine cO ?_;assumption)|(refine cN ?_;assumption)|omega|(simp[hd3,vU,Ea,vV,Pr,Wb,ZC];done)))|omega)),M.below⟩
       ·have adD:=of_decide_eq_false hc19;refine wp_skip<|cQ _ _ ?_;refine auc fun K18 S_=>ah<|xA (v:=.int .i64 (-1)) F rf rf rf fun _ F=>aud<|S_ _ _ ?_
        refine wp_ret<|aM _ _ _ _ F rfl ?_;exact⟨bE (by unfold FH;refine Eq.symm ?_;repeat (first|with_reducible rfl|assumption|(with_reducible refine Eq.trans (if_pos ?_) ?_;focus (first|assumption|(refine cO ?_;assumption)|(refine cN ?_;assumption)|omega|(simp[hd3,vU,Ea,vV,Pr,Wb,adD];done)))|(with_reducible refine Eq.trans (if_neg ?_) ?_;focus (first|assumption|(refine cO ?_;assumption)|(refine cN ?_;assumption)|omega|(simp[hd3,vU,Ea,vV,Pr,Wb,adD];done)))|omega)),M.below⟩
theorem RS(w0:World)(cs:List Value)(e:aA)(d:Nat)(hE:bB w0 cs e)(hB:jo d e)(lv:Nat)(hlv:lv≤12):Calls Tryz.prog 306 #[.agg cs.toArray,.int .i64 (lv:Int)] w0 (fun(r:Ending) (w':World)=>r=.returned (.int .i64 (0))∧atZ w0.heap.size w0 w'):=by
 have hb:=hB.facts;have hko:=hb.kids;obtain⟨_,_,rfl,hnn,hkk⟩:=hE.open;obtain⟨_,_,rfl,-⟩:=bp.get hnn;obtain⟨_,_,rfl,-⟩:=aC.form hkk (by decide);refine fL [] (fn:=Tryz.f306) Tryz.func306 rfl Tryz.ntmps306 rfl<|fun g1 w1 M1=>lb 0<|an rfl<|cl<|an (T3 _ e.op) fun w2 M2=>?_
 refine an (fun hz=>?_) fun hz=>?_
 all_goals
  refine an (fun h=>?_) fun h=>?_
  ·exact absurd h (by simp;omega)
  refine lb 0<|an (fun _=>rfl)<|lb 0<|an (fun _=>rfl)<|lb 0<|an (fun _=>rfl)<|lb 0<|an (fun _=>rfl)<|ei (x:=.agg #[.int .u64 0,.int .u64 0,.int .u64 0,.int .u64 0])<|an (fun _=>bd (by kernel_rfl))<|ei (x:=decide (e.set=au.zero))<|an (fun _=>⟨AJ,fun w=>AB e.set au.zero w⟩)<|lb 0<|an (fun _=>rfl)<|lb 0<|an (fun _=>rfl)<|?_
 ·obtain⟨sn,V5,hsI,hsO⟩:=hb.nm (of_decide_eq_true hz);have hnl:e.names.length=1:=by rw[V5];rfl
  refine an (fun h2=>?_) fun h2=>?_
  ·exfalso;simp[hb.a,hb.b,hb.rel,hb.set,hnl,← hko] at h2;try omega
  obtain⟨b,o,e1,hc⟩:=SliceAt.elt (i:=0) hnn (fun _=>rfl) (by decide) (show e.names[0]?=some sn by rw[V5];rfl) (show 0<e.names.length by omega);refine lb 0<|an (fun _=>rfl)<|ia<|an (fun _=>⟨e1,rfl,show 0<e.names.length by omega⟩)<|lc (x:=.string sn)<|an (fun _=>dJ M2.below hc 0 _ rfl)<|cl<|an (fun _=>JO _ sn hsO hsI) fun w3 M3=>?_
  exact an (fun h=>by simp at h) fun h M=>⟨rfl,M.below⟩
 ·have hz:FH e.op≠0:=of_decide_eq_false hz;have hnl:e.names.length=0:=by rw[hb.nn hz];rfl
  refine an (fun h2=>?_) fun h2=>?_
  ·exfalso;simp[hb.a,hb.b,hb.rel,hb.set,hnl,← hko] at h2;try omega
  refine lb 0<|an (fun _=>rfl)<|ia (b:=0) (off:=0) (i:=0)<|an (fun h=>absurd (of_decide_eq_true h) hz)<|lc (x:=.string ByteArray.empty)<|an (fun h=>absurd (of_decide_eq_true h) hz)<|cl (v:=.bool true)<|an (fun h=>absurd (of_decide_eq_true h) hz) fun w3 M3=>?_
  exact an (fun h=>by simp at h) fun h M=>⟨rfl,M.below⟩
theorem LI:∀ (e:aA) (w0:World) (cs:List Value) (d lv:Nat),bB w0 cs e→jo d e→lv+d≤13→Calls Tryz.prog 295 #[.agg cs.toArray,.int .i64 (lv:Int)] w0 (fun(r:Ending) (w':World)=>r=.returned (.int .i64 (0))∧atZ w0.heap.size w0 w'):=by
 refine aA.ind fun e ih=>?_
 intro w0 cs d lv hE hB hlv;have hb:=hB.facts;have hko:=hb.kids;have ZW:=hE;obtain⟨_,_,rfl,hnn,hkk⟩:=ZW.open;obtain⟨Vy,Vx,rfl,hnk,hnm,K0⟩:=SliceAt.form hnn (by decide);obtain⟨qa,qc,rfl,hkc,hkm,hcell⟩:=aC.form hkk (by decide);have aM:=hr1 Tryz.prog Tryz.f295 (fun(r:Ending) (w':World)=>r=.returned (.int .i64 (0))∧atZ w0.heap.size w0 w') 30 4 rfl;refine en Tryz.func295 rfl Tryz.ntmps295 rfl (vs:=[.agg #[.int .i64 e.op,.int .i64 e.a,.int .i64 e.rel,.int .i64 e.b,.slice Vy e.names.length Vx,.int .u64 e.set.a,.int .u64 e.set.b,.int .u64 e.set.c,.int .u64 e.set.d,.slice qa e.kids.length qc],.int .i64 (lv:Int)]) rfl fun _ F=>?_
 have M:=Mm.start w0;refine auc fun K1 dw=>ah<|oG (on rfl) rfl (F.u rf) rfl F rfl M fun g1 _ _ F M=>xA (v:=.int .i64 0) F rf rf rf fun _ F=>aud<|dw _ _ ?_
 refine auc fun K2 cQ=>auc fun K3 fJ=>ah<|xW F (M.b 0 rfl) rf rf rf j9 rf eG rf fun _ F=>xM F rf rf rf fun _ F=>
  xC F M rf rf afJ (args2 (F.u rf) (F.u rf)) (RS _ _ e d (hE.keep M.below) hB lv (by have:=hb.pos;omega)) fun _ _ F M=>
  xA F rf rf rf fun _ F=>
  aud<|
  fJ _ _ ?_
 refine auc fun K4 fQ=>ah<|xM F rf rf rf fun _ F=>ke (on rfl) (qY rfl (F.u rf) rfl) rfl F rfl (show Value.bool (!decide ((0:Int)=0))=_ from rfl) fun _ F=>aud<|fQ _ _ ?_
 refine auh (F.e 13 rfl) ?_;refine wp_skip<|cQ _ _ ?_;refine auc fun K5 gL=>auc fun K6 iC=>ah<|xF 9 F rf rf rf j9 rf qG rf fun _ F=>xL F (M.b 0 rfl) rf rf rf sM rf rf fun _ F=>kz F rf (bA rfl (F.u rf) sM) fun _ F=>xM (v:=.int .i64 0) F rf rf rf fun _ F=>aud<|iC _ _ ?_
 refine aue<|?_;refine bV (ι:=Nat) (fun m a w=>Fs a 30 [(1,.int .i64 (lv:Int)),(16,.slice qa e.kids.length qc),(17,.int .i64 (e.kids.length:Int)),(18,.int .i64 (m:Int))]∧Mm w0 w [] []∧m≤e.kids.length) (fun m=>e.kids.length-m) 0 ⟨F.sub ⟨rfl,rfl,rfl,rfl,trivial⟩,M.only (.cons _ .slnil) .slnil,atW _⟩ ?_
 (repeat clear F);(repeat clear M)
 rintro m _ _ ⟨F,M,hm⟩;refine auc fun K7 iO=>ah<|kz F rf (d_ rfl (F.u rf) (F.u rf)) fun _ F=>aud<|iO _ _ ?_
 refine auc fun K8 jf=>?_
 refine auf (F.e 19 rfl) (fun hc2=>?_) (fun hc2=>?_)
 ·have hd3:=of_decide_eq_true hc2;refine wp_skip<|jf _ _ ?_;refine auc fun K9 jW=>aue<|auc fun Bh dU=>?_
  have hlty:m<e.kids.length:=by omega
  obtain⟨y,hy⟩:∃ y,e.kids[m]?=some y:=⟨_,at1 hlty⟩;have Qy:=at2 hy;obtain⟨b9,o9,cs9,rfl,Nh,-,Pn⟩:=hcell m y hy;obtain⟨_,_,rfl,SI,hkky⟩:=Nh.open;obtain⟨nay,nky,rfl,-⟩:=SliceAt.form SI (by decide);obtain⟨kay,kky,rfl,-⟩:=aC.form hkky (by decide);obtain⟨c,hdc,hBk⟩:=hb.kid y Qy
  refine ah<|
   kz F rf (aK (i:=m) rfl (F.u rf) (F.u rf) (by omega) sM eG) fun _ F=>
   kz F rf (bT [.int .i64 y.op,.int .i64 y.a,.int .i64 y.rel,.int .i64 y.b,.slice nay y.names.length nky,.int .u64 y.set.a,.int .u64 y.set.b,.int .u64 y.set.c,.int .u64 y.set.d,.slice kay y.kids.length kky] rfl (F.u rf) j9 rfl eG (dJ M.below Pn)) fun _ F=>
   sF (on rfl) rfl xH rfl F rfl M fun g4 _ _ F M=>
   sE (on rfl) rfl (F.u rf) (F.u rf) F M 0 rfl eG rfl rfl rfl fun _ M=>
   aud<|
   dU _ _ ?_
  refine auc fun I8 gj=>?_
  refine ah<|xW F (M.b 0 rfl) rf rf rf j9 rf eG rf fun _ F=>xM F rf rf rf fun _ F=>
   ke (on rfl) (cL rfl (F.u rf) rfl) rfl F rfl (congrArg (Value.int .i64) ((wrap_i64 (by omega)).trans (by omega))) fun _ F=>
   xC F M rf rf ab5 (args2 (F.u rf) (F.u rf)) (ih y Qy _ _ c (lv+1) (Nh.keep M.below) hBk (by omega)) fun _ _ F M=>
   xA F rf rf rf fun _ F=>
   aud<|
   gj _ _ ?_
  refine auc fun I7 fT=>ah<|xM F rf rf rf fun _ F=>ke (on rfl) (qY rfl (F.u rf) rfl) rfl F rfl (show Value.bool (!decide ((0:Int)=0))=_ from rfl) fun _ F=>aud<|fT _ _ ?_
  refine auh (F.e 27 rfl) ?_;refine wp_skip<|jW _ _ ?_
  refine ah<|
   ke (on rfl) (cL rfl (F.u rf) rfl) rfl F rfl (congrArg (Value.int .i64) (wrap_i64 (by omega))) fun _ F=>
   xM F rf rf rf fun _ F=>
   aud<|?_
  exact⟨m+1,⟨F.sub ⟨rfl,rfl,rfl,rfl,trivial⟩,(M.only (.cons _ .slnil) .slnil),by omega⟩,by show e.kids.length-(m+1)<e.kids.length-m;omega⟩
 ·have Ao:=of_decide_eq_false hc2;refine wp_exit<|gL _ _ ?_;refine auc fun Jh gM=>ah<|xA (v:=.int .i64 0) F rf rf rf fun _ F=>aud<|gM _ _ ?_
  refine wp_ret<|aM _ _ _ _ F rfl ?_;exact⟨rfl,M.below⟩
theorem LJ(w0:World)(cs:List Value)(e:aA)(d:Nat)(hE:bB w0 cs e)(hB:jo d e)(hd:d≤12):Calls Tryz.prog 267 #[.agg cs.toArray] w0 (fun(r:Ending) (w':World)=>r=.returned (.int .i64 (0))∧atZ w0.heap.size w0 w'):=by
 have ZW:=hE;obtain⟨_,_,rfl,hnn,hkk⟩:=ZW.open;obtain⟨Vy,Vx,rfl,hnk,hnm,K0⟩:=SliceAt.form hnn (by decide);obtain⟨qa,qc,rfl,hkc,hkm,hcell⟩:=aC.form hkk (by decide);have aM:=hr1 Tryz.prog Tryz.f267 (fun(r:Ending) (w':World)=>r=.returned (.int .i64 (0))∧atZ w0.heap.size w0 w') 5 2 rfl;refine en Tryz.func267 rfl Tryz.ntmps267 rfl (vs:=[.agg #[.int .i64 e.op,.int .i64 e.a,.int .i64 e.rel,.int .i64 e.b,.slice Vy e.names.length Vx,.int .u64 e.set.a,.int .u64 e.set.b,.int .u64 e.set.c,.int .u64 e.set.d,.slice qa e.kids.length qc]]) rfl fun _ F=>?_
 have M:=Mm.start w0;refine auc fun K1 dw=>ah<|oG (on rfl) rfl (F.u rf) rfl F rfl M fun g1 _ _ F M=>xA (v:=.int .i64 0) F rf rf rf fun _ F=>aud<|dw _ _ ?_
 refine auc fun K2 cQ=>ah<|xW F (M.b 0 rfl) rf rf rf j9 rf eG rf fun _ F=>
  xC F M rf rf ab5 (args2 (F.u rf) rfl) (LI e _ _ d 1 (hE.keep M.below) hB (by omega)) fun _ _ F M=>
  xA F rf rf rf fun _ F=>
  aud<|
  cQ _ _ ?_
 refine wp_ret<|aM _ _ _ _ F rfl ?_;exact⟨rfl,M.below⟩
theorem IB:∀ (e:aA) (wa w0:World) (bs:List Bx) (rs:List Rw) (d:Nat) (v:Value) (n:Nat) (xs:List Value) (cs:List Value),Mm wa w0 bs (⟨v,9,1,n,xs⟩::rs)→bB wa cs e→jo d e→n+(bR e).length≤100000→Calls Tryz.prog 268 #[v,.agg cs.toArray] w0 (fun(r:Ending) (w':World)=>∃ v',r=.returned v'∧Mm wa w' bs (⟨v',9,1,n+(bR e).length,xs++(bR e).flatMap aN⟩::rs)):=by
 refine aA.ind fun e ih=>?_
 intro wa w0 bs rs d v n xs cs hM hE hB hlen;have hb:=hB.facts;have hko:=hb.kids;obtain⟨_,_,rfl,hnn,hkk⟩:=hE.open;obtain⟨Vy,Vx,rfl,hnk,hnm,-⟩:=SliceAt.form hnn (by decide);obtain⟨qa,qc,rfl,hkc,hkm,hcell⟩:=aC.form hkk (by decide);have hnE:=OY e;have aM:=hr1 Tryz.prog Tryz.f268 (fun(r:Ending) (w':World)=>∃ v',r=.returned v'∧Mm wa w' bs (⟨v',9,1,n+(bR e).length,xs++(bR e).flatMap aN⟩::rs)) 23 4 rfl;refine en Tryz.func268 rfl Tryz.ntmps268 rfl (vs:=[v,.agg #[.int .i64 e.op,.int .i64 e.a,.int .i64 e.rel,.int .i64 e.b,.slice Vy e.names.length Vx,.int .u64 e.set.a,.int .u64 e.set.b,.int .u64 e.set.c,.int .u64 e.set.d,.slice qa e.kids.length qc]]) rfl fun _ F=>?_
 have M:=hM;refine auc fun K1 dw=>ah<|oG (on rfl) rfl (F.u rf) rfl F rfl M fun g1 _ _ F M=>xA (v:=.slice none 0 0) F rf rf rf fun _ F=>aud<|dw _ _ ?_
 refine auc fun K2 cQ=>ah<|xM F rf rf rf fun _ F=>xF 4 F rf rf rf j9 rf sQ rf fun _ F=>xL F (M.b 0 rfl) rf rf rf Dv rf rf fun _ F=>
  kp (on rfl) rfl Dv agl rfl M 0 rfl (F.u rf) (F.u rf) (SliceAt.keep hnn M.below) ⟨by unfold maxLen;omega,by omega⟩ rfl F rfl fun v2 _ _ F M=>
  xA F rf rf rf fun _ F=>
  aud<|
  cQ _ _ ?_
 refine auc fun K3 fJ=>auc fun K4 fQ=>ah<|xF 9 F rf rf rf j9 rf qG rf fun _ F=>xL F (M.b 0 rfl) rf rf rf sM rf rf fun _ F=>kz F rf (bA rfl (F.u rf) sM) fun _ F=>xM (v:=.int .i64 0) F rf rf rf fun _ F=>aud<|fQ _ _ ?_
 refine aue<|?_;refine bV (ι:=Nat×Value) (fun|(m,v2),a,w=>Fs a 23 [(0,v2),(12,.slice qa e.kids.length qc),(13,.int .i64 (e.kids.length:Int)),(14,.int .i64 (m:Int))]∧Mm wa w ([]++bs) ([⟨v2,9,1,n+(eB e m).length,xs++(eB e m).flatMap aN⟩]++rs)∧m≤e.kids.length) (fun|(m,v2)=>e.kids.length-m) (0,v2) ⟨F.sub ⟨rfl,rfl,rfl,rfl,trivial⟩,((M.only (List.sublist_cons_self _ _) (List.Sublist.refl _):Mm wa _ bs _).cast rfl (VI)),atW _⟩ ?_
 (repeat clear F);(repeat clear M)
 rintro⟨m,v2⟩ _ _ ⟨F,M,hm⟩;refine auc fun K5 gL=>ah<|kz F rf (d_ rfl (F.u rf) (F.u rf)) fun _ F=>aud<|gL _ _ ?_
 refine auc fun K6 iC=>?_
 refine auf (F.e 15 rfl) (fun hc3=>?_) (fun hc3=>?_)
 ·have BH:=of_decide_eq_true hc3;refine wp_skip<|iC _ _ ?_;refine auc fun K7 iO=>aue<|auc fun K8 jf=>?_
  have hlty:m<e.kids.length:=by omega
  obtain⟨y,hy⟩:∃ y,e.kids[m]?=some y:=⟨_,at1 hlty⟩;have Qy:=at2 hy;obtain⟨b9,o9,cs9,rfl,Nh,-,Pn⟩:=hcell m y hy;obtain⟨_,_,rfl,SI,hkky⟩:=Nh.open;obtain⟨nay,nky,rfl,-⟩:=SliceAt.form SI (by decide);obtain⟨kay,kky,rfl,-⟩:=aC.form hkky (by decide);obtain⟨c,hdc,hBk⟩:=hb.kid y Qy
  refine ah<|
   kz F rf (aK (i:=m) rfl (F.u rf) (F.u rf) (by omega) sM eG) fun _ F=>
   kz F rf (bT [.int .i64 y.op,.int .i64 y.a,.int .i64 y.rel,.int .i64 y.b,.slice nay y.names.length nky,.int .u64 y.set.a,.int .u64 y.set.b,.int .u64 y.set.c,.int .u64 y.set.d,.slice kay y.kids.length kky] rfl (F.u rf) j9 rfl eG (dJ M.below Pn)) fun _ F=>
   sF (on rfl) rfl xH rfl F rfl M fun g5 _ _ F M=>
   sE (on rfl) rfl (F.u rf) (F.u rf) F M 0 rfl eG rfl rfl rfl fun _ M=>
   aud<|
   jf _ _ ?_
  have ans:=KA hy;refine ah<|xM F rf rf rf fun _ F=>xW F (M.b 0 rfl) rf rf rf j9 rf eG rf fun _ F=>kt (on rfl) (bw rfl Tryz.func268 Xr rfl (args2 (F.u rf) (F.u rf))) (ih y Qy wa _ _ _ c _ _ _ _ M Nh hBk (by omega)) rfl F rfl fun v9 _ w9 hR F=>?_
  have M:=hR;refine xA F rf rf rf fun _ F=>aud<|iO _ _ ?_
  refine ah<|
   ke (on rfl) (cL rfl (F.u rf) rfl) rfl F rfl (congrArg (Value.int .i64) (wrap_i64 (by omega))) fun _ F=>
   xM F rf rf rf fun _ F=>
   aud<|?_
  exact⟨(m+1,v9),⟨F.sub ⟨rfl,rfl,rfl,rfl,trivial⟩,((M.only (List.Sublist.append (.cons _ .slnil) (List.Sublist.refl _)) (List.Sublist.refl _))).cast rfl (Y0 hy),by omega⟩,by show e.kids.length-(m+1)<e.kids.length-m;omega⟩
 ·have vU:=of_decide_eq_false hc3;refine wp_exit<|fJ _ _ ?_;refine auc fun K9 jW=>ah<|xM F rf rf rf fun _ F=>xA F rf rf rf fun _ F=>aud<|jW _ _ ?_
  refine wp_ret<|aM _ _ _ _ F rfl ?_;obtain rfl:m=e.kids.length:=by omega
  rw[OZ] at M;exact⟨_,rfl,M.only (show List.Sublist bs _ from List.sublist_append_right _ _) (List.Sublist.refl _)⟩
end Go.Proofs.YtdcofoaihmongaaGreat
namespace Go.Proofs.YtdcofoaihmongaaGreat
open Go Go.Proofs Go.Shelf
def G5:Go.Shelf.Ren:=⟨fun|190=>269|125=>208|258=>296|128=>262|129=>263|302=>307|303=>308|304=>309|305=>310|306=>311|307=>312|308=>313|309=>314|310=>315|333=>319|329=>290|330=>291|334=>320|335=>321|336=>322|344=>325|n=>n,fun|31=>28|9=>9|3=>3|46=>246|0=>0|51=>50|53=>52|4=>4|183=>325|182=>324|131=>161|5=>5|218=>352|222=>356|228=>362|229=>363|n=>n,fun|n=>n⟩
theorem MU:Go.Proofs.Lays.n190 Tryz.prog G5:={
 mixed:=by kernel_rfl
 f125:=Tryz.func208.trans (congrArg some (by kernel_rfl))
 f128:=Tryz.func262.trans (congrArg some (by kernel_rfl))
 f129:=Tryz.func263.trans (congrArg some (by kernel_rfl))
 f190:=Tryz.func269.trans (congrArg some (by kernel_rfl))
 f258:=Tryz.func296.trans (congrArg some (by kernel_rfl))
 f302:=Tryz.func307.trans (congrArg some (by kernel_rfl))
 f303:=Tryz.func308.trans (congrArg some (by kernel_rfl))
 f304:=Tryz.func309.trans (congrArg some (by kernel_rfl))
 f305:=Tryz.func310.trans (congrArg some (by kernel_rfl))
 f306:=Tryz.func311.trans (congrArg some (by kernel_rfl))
 f307:=Tryz.func312.trans (congrArg some (by kernel_rfl))
 f308:=Tryz.func313.trans (congrArg some (by kernel_rfl))
 f309:=Tryz.func314.trans (congrArg some (by kernel_rfl))
 f310:=Tryz.func315.trans (congrArg some (by kernel_rfl))
 f329:=Tryz.func290.trans (congrArg some (by kernel_rfl))
 f330:=Tryz.func291.trans (congrArg some (by kernel_rfl))
 f333:=Tryz.func319.trans (congrArg some (by kernel_rfl))
 f334:=Tryz.func320.trans (congrArg some (by kernel_rfl))
 f335:=Tryz.func321.trans (congrArg some (by kernel_rfl))
 f336:=Tryz.func322.trans (congrArg some (by kernel_rfl))
 f344:=Tryz.func325.trans (congrArg some (by kernel_rfl))
 t0:=Tryz.underlying0
 a0:=Tryz.isAgg0
 z0:=Tryz.sizeOf0
 v0:=Tryz.zeroValue0
 t3:=Tryz.underlying3
 a3:=Tryz.isAgg3
 z3:=Tryz.sizeOf3
 v3:=Tryz.zeroValue3
 t4:=Tryz.underlying4
 a4:=Tryz.isAgg4
 z4:=Tryz.sizeOf4
 v4:=Tryz.zeroValue4
 t5:=Tryz.underlying5
 a5:=Tryz.isAgg5
 z5:=Tryz.sizeOf5
 v5:=Tryz.zeroValue5
 t9:=Tryz.underlying9
 a9:=Tryz.isAgg9
 z9:=Tryz.sizeOf9
 v9:=Tryz.zeroValue9
 t31:=Tryz.underlying28
 a31:=Tryz.isAgg28
 z31:=Tryz.sizeOf28
 v31:=Tryz.zeroValue28
 t46:=Tryz.underlying246
 a46:=Tryz.isAgg246
 z46:=Tryz.sizeOf246
 v46:=Tryz.zeroValue246
 t51:=Tryz.underlying50
 a51:=Tryz.isAgg50
 z51:=Tryz.sizeOf50
 v51:=Tryz.zeroValue50
 t53:=Tryz.underlying52
 a53:=Tryz.isAgg52
 z53:=Tryz.sizeOf52
 v53:=Tryz.zeroValue52
 t131:=Tryz.underlying161
 a131:=Tryz.isAgg161
 z131:=Tryz.sizeOf161
 v131:=Tryz.zeroValue161
 t182:=Tryz.underlying324
 a182:=Tryz.isAgg324
 z182:=Tryz.sizeOf324
 v182:=Tryz.zeroValue324
 t183:=Tryz.underlying325
 a183:=Tryz.isAgg325
 z183:=Tryz.sizeOf325
 v183:=Tryz.zeroValue325
 t218:=Tryz.underlying352
 a218:=Tryz.isAgg352
 z218:=Tryz.sizeOf352
 v218:=Tryz.zeroValue352
 t222:=Tryz.underlying356
 a222:=Tryz.isAgg356
 z222:=Tryz.sizeOf356
 v222:=Tryz.zeroValue356
 t228:=Tryz.underlying362
 a228:=Tryz.isAgg362
 z228:=Tryz.sizeOf362
 v228:=Tryz.zeroValue362
 t229:=Tryz.underlying363
 a229:=Tryz.isAgg363
 z229:=Tryz.sizeOf363
 v229:=Tryz.zeroValue363 }
def G4:Go.Shelf.Ren:=⟨fun|194=>270|n=>n,fun|31=>28|9=>9|3=>3|4=>4|0=>0|n=>n,fun|n=>n⟩
theorem MS:Go.Proofs.Lays.n194 Tryz.prog G4:={
 mixed:=by kernel_rfl
 f194:=Tryz.func270.trans (congrArg some (by kernel_rfl))
 t0:=Tryz.underlying0
 a0:=Tryz.isAgg0
 z0:=Tryz.sizeOf0
 v0:=Tryz.zeroValue0
 t3:=Tryz.underlying3
 a3:=Tryz.isAgg3
 z3:=Tryz.sizeOf3
 v3:=Tryz.zeroValue3
 t4:=Tryz.underlying4
 a4:=Tryz.isAgg4
 z4:=Tryz.sizeOf4
 v4:=Tryz.zeroValue4
 t9:=Tryz.underlying9
 a9:=Tryz.isAgg9
 z9:=Tryz.sizeOf9
 v9:=Tryz.zeroValue9
 t31:=Tryz.underlying28
 a31:=Tryz.isAgg28
 z31:=Tryz.sizeOf28
 v31:=Tryz.zeroValue28 }
open Go.Sort Go.RowKit in
theorem slices_Sort_string(blk off cap:Nat)(ss:List (List UInt8))(w:World)(hH:Holds encStr w blk off ss.toArray)(hblk:blk<w.heap.size)(hsz:ss.length<4611686018427387904):
 Calls Tryz.prog 269 #[.slice (some ⟨blk,off,none⟩) ss.length cap] w fun e w'=>e=.returned (.tuple #[])∧∃ n os,w'=grow (putRow encStr (Sort.ahead w n) blk off (ss.mergeSort fun x y=>decide (x≤y)).toArray) os:=Any.slices_Sort_string MU blk off cap ss w hH hblk hsz
theorem slices_Sort_string_none(p:Option Addr)(cap:Nat)(w:World):
 Calls Tryz.prog 269 #[.slice p 0 cap] w fun e w'=>e=.returned (.tuple #[])∧w'=w:=Any.slices_Sort_string_none MU p cap w
open Go.Sort Go.RowKit in
theorem slices_Compact_string(blk off cap:Nat)(zs:List (List UInt8))(w:World)(hH:Holds encStr w blk off zs.toArray)(hsz:zs.length≤9223372036854775807)(hcap:zs.length≤cap):
 Calls Tryz.prog 270 #[.slice (some ⟨blk,off,none⟩) zs.length cap] w fun e w'=>e=.returned (.slice (some ⟨blk,off,none⟩) (Lib.compact zs).length cap)∧∃ q,w'=putRow encStr (Sort.ahead w q) blk off (Lib.compact zs++List.replicate (zs.length-(Lib.compact zs).length) []).toArray:=Any.slices_Compact_string MS blk off cap zs w hH hsz hcap
theorem slices_Compact_string_empty(a:Option Addr)(cap:Nat)(w:World):
 Calls Tryz.prog 270 #[.slice a 0 cap] w fun e w'=>e=.returned (.slice a 0 cap)∧w'=w:=Any.slices_Compact_string_empty MS a cap w
open Go.Sort Go.RowKit
def dP(s:ByteArray):List UInt8:=s.data.toList
def unB(b:List UInt8):ByteArray:=⟨b.toArray⟩
theorem mP(s:ByteArray):unB (dP s)=s:=by cases s;simp[unB,dP]
def wR(l:List ByteArray):List ByteArray:=((l.map dP).mergeSort fun x y=>decide (x≤y)).map unB
def nj(l:List ByteArray):List ByteArray:=(Lib.compact (l.map dP)).map unB
theorem C6(l:List ByteArray):l.flatMap aN=(l.map dP).map encStr:=by
 induction l with
 | nil=>rfl
 | cons s l ih=>rw[List.flatMap_cons,List.map_cons,List.map_cons,← ih];show Value.string s::_=Value.string (unB (dP s))::_;rw[mP];rfl
theorem C4(l:List (List UInt8)):(l.map unB).flatMap aN=l.map encStr:=by
 induction l with
 | nil=>rfl
 | cons s l ih=>rw[List.map_cons,List.flatMap_cons,List.map_cons,← ih];rfl
theorem P5(w:World)(base:Nat)(v:Value)(n:Nat)(l:List ByteArray)(hn:n=l.length)(h:w.ownsRow base 9 1 v n (l.flatMap aN))(hz:n≤100000001):
 Calls Tryz.prog 269 #[v] w fun e w'=>∃ z,e=.returned z∧w'.ownsRow base 9 1 v n ((wR l).flatMap aN)∧w.grownBy w' v.ownBlock:=by
 subst hn;unfold wR;rw[C6] at h;rw[C4];rcases h.2 with⟨rfl,h0⟩|⟨g,cap,cur,rfl,hg,hh,h1,h2,h3,h4⟩
 ·have:l=[]:=List.eq_nil_of_length_eq_zero h0;subst this;refine(slices_Sort_string_none none 0 w).mono ?_;rintro e w' ⟨rfl,rfl⟩;exact⟨_,rfl,by simpa using h,World.grownBy.refl _ _⟩
 ·have hl:(l.map dP).length=l.length:=atV ..;rw[← hl] at h1 ⊢;refine(slices_Sort_string g 0 cap (l.map dP) w (holds_of_block hh (by rw[Nat.mul_one,← hl] at h4;exact h4)) (Array.getElem?_eq_some_iff.1 hh).1 (by rw[hl];omega)).mono ?_;rintro e w' ⟨rfl,n,os,rfl⟩;exact⟨_,rfl,ownsRow_sorted (List.length_mergeSort _) hg hh h1 h2 h3,grownBy_sorted _⟩
theorem yc:∀ l:List (List UInt8),(Lib.compact l).length≤l.length:=fun l=>by
 unfold Lib.compact Lib.compactUpTo;rw[atV];exact at9 (List.length_filter_le _ _) (by rw[List.length_range];omega)
theorem ow(d:Array (List UInt8))(x:List UInt8):∀ m,(x∈Lib.compactUpTo d m↔∃ j,j<m∧d[j]! = x)
 | 0=>by simp[Lib.compactUpTo]
 | m+1=>by
  rw[Lib.compactUpTo_succ,at7,ow d x m];constructor
  ·rintro(⟨j,hj,h⟩|h)
   ·exact⟨j,by omega,h⟩
   ·split at h
    ·exact⟨m,by omega,(auj.1 h).symm⟩
    ·cases h
  ·rintro⟨j,hj,h⟩;by_cases hk:Lib.keeps d m=true
   ·by_cases hjm:j=m
    ·subst hjm;right;rw[if_pos hk];exact auj.2 h.symm
    ·exact .inl ⟨j,by omega,h⟩
   ·left;by_cases hjm:j=m
    ·subst hjm;have h3:¬ (j=0∨d[j]!≠d[j-1]!):=fun h4=>hk (decide_eq_true h4)
     have h4:j≠0:=fun e=>h3 (.inl e)
     have h5:d[j]! = d[j-1]!:=Classical.byContradiction fun e=>h3 (.inr e)
     exact⟨j-1,by omega,by rw[← h5,h]⟩
    ·exact⟨j,by omega,h⟩
theorem xu(l:List (List UInt8))(x:List UInt8):x∈Lib.compact l↔x∈l:=by
 unfold Lib.compact;rw[ow];constructor
 ·rintro⟨j,hj,rfl⟩;rw[getElem!_pos l.toArray j (by simpa using hj)];simp
 ·intro h;obtain⟨j,hj,rfl⟩:=List.getElem_of_mem h;exact⟨j,hj,by rw[getElem!_pos l.toArray j (by simpa using hj)];simp⟩
theorem Te(w:World):grow w #[]=w:=by simp[grow]
theorem Fo(w:World)(base:Nat)(v:Value)(n:Nat)(l:List ByteArray)(hn:n=l.length)(h:w.ownsRow base 9 1 v n (l.flatMap aN))(hz:n≤100000001):
 Calls Tryz.prog 270 #[v] w fun e w'=>∃ v',e=.returned v'∧w'.ownsRow base 9 1 v' (nj l).length ((nj l).flatMap aN)∧w.grownBy w' v.ownBlock∧v'.ownBlock=v.ownBlock:=by
 subst hn;unfold nj;rw[C6] at h;rw[C4];rcases h.2 with⟨rfl,h0⟩|⟨g,cap,cur,rfl,hg,hh,h1,h2,h3,h4⟩
 ·have:l=[]:=List.eq_nil_of_length_eq_zero h0;subst this;refine(slices_Compact_string_empty none 0 w).mono ?_;rintro e w' ⟨rfl,rfl⟩;refine⟨_,rfl,?_,World.grownBy.refl _ _,rfl⟩;rw[show([]:List ByteArray).map dP=[] from rfl,show Lib.compact ([]:List (List UInt8))=[] from rfl];simpa using h
 ·have hl:(l.map dP).length=l.length:=atV ..;have hc:=yc (l.map dP);rw[← hl] at h1 ⊢;refine(slices_Compact_string g 0 cap (l.map dP) w (holds_of_block hh (by rw[Nat.mul_one,← hl] at h4;exact h4)) (by rw[hl];omega) h1).mono ?_;rintro e w' ⟨rfl,q,rfl⟩;have hb:=heap_sorted (n:=q) (os:=#[]) (Lib.compact (l.map dP)++List.replicate ((l.map dP).length-(Lib.compact (l.map dP)).length) []).toArray hh;have hgr:=grownBy_sorted (w:=w) (g:=g) (n:=q) (os:=#[]) (Lib.compact (l.map dP)++List.replicate ((l.map dP).length-(Lib.compact (l.map dP)).length) []).toArray;rw[Te] at hb hgr;refine⟨_,rfl,⟨by simp,.inr ⟨g,cap,_,by rw[atV],hg,hb,by rw[atV];omega,h2,by simp[putCells,h3],?_⟩⟩,hgr,rfl⟩;have ht:=take_putCells cur (Lib.compact (l.map dP)++List.replicate ((l.map dP).length-(Lib.compact (l.map dP)).length) []) (by rw[aua,List.length_replicate];omega);have ht2:=congrArg (List.take (Lib.compact (l.map dP)).length) ht;rw[List.take_take,List.map_append,List.take_left' (atV ..),Nat.min_eq_left (by rw[aua];omega)] at ht2;rw[atV,Nat.mul_one];exact ht2
theorem Ou(l:List ByteArray)(s:ByteArray):s∈wR l↔s∈l:=by
 unfold wR;constructor
 ·intro h;obtain⟨b,hb,rfl⟩:=atY.1 h;rw[List.mem_mergeSort] at hb;obtain⟨t,ht,rfl⟩:=atY.1 hb;rw[mP];exact ht
 ·intro h;exact atY.2 ⟨dP s,List.mem_mergeSort.2 (List.mem_map_of_mem h),mP s⟩
theorem Ov(l:List ByteArray):(wR l).length=l.length:=by unfold wR;rw[atV,List.length_mergeSort,atV]
theorem EB(l:List ByteArray)(s:ByteArray):s∈nj l↔s∈l:=by
 unfold nj;constructor
 ·intro h;obtain⟨b,hb,rfl⟩:=atY.1 h;obtain⟨t,ht,rfl⟩:=atY.1 ((xu _ _).1 hb);rw[mP];exact ht
 ·intro h;exact atY.2 ⟨dP s,(xu _ _).2 (List.mem_map_of_mem h),mP s⟩
def ct(e:aA):List ByteArray:=nj (wR (bR e))
theorem zV(e:aA)(s:ByteArray):s∈ct e↔s∈bR e:=by unfold ct;rw[EB,Ou]
end Go.Proofs.YtdcofoaihmongaaGreat
namespace Go.Proofs.YtdcofoaihmongaaGreat
open Go Go.RowKit
theorem VH{e:aA}{t k:Nat}{v:Value}{rs:List Rw}:(⟨v,t,k,0+(bR e).length,[]++(bR e).flatMap aN⟩::rs:List Rw)=⟨v,t,k,(bR e).length,(bR e).flatMap aN⟩::rs:=by rw[Nat.zero_add,List.nil_append]
theorem jo.len2{d:Nat}{e:aA}(h:jo d e):(bR e).length≤2^d:=by
 induction h with
 | @name d s h1 h2=>rw[bR,bZ];exact Nat.one_le_two_pow
 | @not d k h1 ih=>rw[bR,bZ,bZ,Nat.pow_succ];simp only[List.nil_append,List.append_nil];omega
 | @bin d op k l h1 h2 h3 h4 ih1 ih2=>rw[bR,bZ,bZ,bZ,Nat.pow_succ];simp only[List.nil_append,List.append_nil,aua];omega
theorem jo.len{d:Nat}{e:aA}(h:jo d e)(hd:d≤12):(bR e).length≤4096:=at9 h.len2 (Nat.pow_le_pow_right (by decide:0<2) hd)
theorem LH(w0:World)(cs:List Value)(e:aA)(d:Nat)(hE:bB w0 cs e)(hB:jo d e)(hd:d≤12):Calls Tryz.prog 229 #[.agg cs.toArray] w0 (fun(r:Ending) (w':World)=>∃ v',r=.returned v'∧(w'.ownsRow w0.heap.size 9 1 v' (ct e).length ((ct e).flatMap aN)∧atZ w0.heap.size w0 w')):=by
 have hln:=hB.len hd;have ZW:=hE;obtain⟨_,_,rfl,hnn,hkk⟩:=ZW.open;obtain⟨Vy,Vx,rfl,hnk,hnm,K0⟩:=SliceAt.form hnn (by decide);obtain⟨qa,qc,rfl,hkc,hkm,hcell⟩:=aC.form hkk (by decide);have aM:=hr1 Tryz.prog Tryz.f229 (fun(r:Ending) (w':World)=>∃ v',r=.returned v'∧(w'.ownsRow w0.heap.size 9 1 v' (ct e).length ((ct e).flatMap aN)∧atZ w0.heap.size w0 w')) 13 2 rfl;refine en Tryz.func229 rfl Tryz.ntmps229 rfl (vs:=[.agg #[.int .i64 e.op,.int .i64 e.a,.int .i64 e.rel,.int .i64 e.b,.slice Vy e.names.length Vx,.int .u64 e.set.a,.int .u64 e.set.b,.int .u64 e.set.c,.int .u64 e.set.d,.slice qa e.kids.length qc]]) rfl fun _ F=>?_
 have M:=Mm.start w0;refine auc fun K1 dw=>ah<|oG (on rfl) rfl (F.u rf) rfl F rfl M fun g1 _ _ F M=>xA (v:=.slice none 0 0) F rf rf rf fun _ F=>aud<|dw _ _ ?_
 refine auc fun K2 cQ=>auc fun K3 fJ=>ah<|xW F (M.b 0 rfl) rf rf rf j9 rf eG rf fun _ F=>xC F M rf rf afK (args1 (F.u rf)) (LJ _ _ e d (hE.keep M.below) hB hd) fun _ _ F M=>ke (on rfl) (qY rfl (F.u rf) rfl) rfl F rfl (show Value.bool (!decide ((0:Int)=0))=_ from rfl) fun _ F=>aud<|fJ _ _ ?_
 refine auh (F.e 6 rfl) ?_;refine wp_skip<|cQ _ _ ?_;refine auc fun K4 fQ=>ah<|xW F (M.b 0 rfl) rf rf rf j9 rf eG rf fun _ F=>kt (on rfl) (bw rfl Tryz.func268 Xr rfl (args2 rfl (F.u rf))) (IB e w0 _ _ _ d _ _ _ _ (M.bX 9 1) hE hB (by omega)) rfl F rfl fun v9 _ w9 hR F=>?_
 have M:=hR.cast rfl (VH (e:=e));refine xA F rf rf rf fun _ F=>aud<|fQ _ _ ?_
 refine auc fun K5 gL=>ah<|xM F rf rf rf fun _ F=>kt (on rfl) (bw rfl Tryz.func269 aci rfl (args1 (F.u rf))) (P5 _ w0.heap.size _ _ (bR e) rfl (M.r 0 rfl) (by omega)) rfl F rfl fun z9 _ w9 hR F=>?_
 have M:=M.grow 0 rfl hR.1 hR.2 (.inl rfl);refine aud<|gL _ _ ?_;refine auc fun K6 iC=>ah<|xM F rf rf rf fun _ F=>kt (on rfl) (bw rfl Tryz.func270 ach rfl (args1 (F.u rf))) (Fo _ w0.heap.size _ _ (wR (bR e)) (Ov _).symm (M.r 0 rfl) (by omega)) rfl F rfl fun v8 _ w9 hR F=>?_
 have M:=M.grow 0 rfl hR.1 hR.2.1 (.inl hR.2.2);refine xA F rf rf rf fun _ F=>aud<|iC _ _ ?_
 refine wp_ret<|aM _ _ _ _ F rfl ?_;exact⟨_,rfl,M.r 0 rfl,M.below⟩
def Hj(l:List ByteArray)(s:ByteArray):Nat:=l.findIdx (fun y=>decide (s=y))
theorem V0{l:List ByteArray}{x:ByteArray}{m:Nat}{y:ByteArray}(hy:l[m]?=some y)(h:∀ j z,j<m→l[j]?=some z→x≠z)(e:x=y):(m:Int)=(Hj l x:Int):=by
 unfold Hj;obtain⟨hm,hy'⟩:=aug.1 hy;rw[(List.findIdx_eq hm).2 ⟨by rw[hy'];simpa using e,fun j hj=>by simpa using h j (l[j]) hj (at1 (by omega))⟩]
theorem Sy{l:List ByteArray}{x:ByteArray}{m:Nat}(hm:m=l.length)(h:∀ j z,j<m→l[j]?=some z→x≠z)(hx:x∈l):False:=by
 obtain⟨j,hj,e⟩:=List.getElem_of_mem hx;exact h j x (by omega) (by rw[at1 hj,e]) rfl
theorem VZ{l:List ByteArray}{x:ByteArray}(hx:x∈l):Hj l x<l.length:=List.findIdx_lt_length.2 ⟨x,hx,by simp⟩
theorem Pj{l:List ByteArray}{x y:ByteArray}{m:Nat}(hy:l[m]?=some y)(h:∀ j z,j<m→l[j]?=some z→x≠z)(hne:x≠y):∀ j z,j<m+1→l[j]?=some z→x≠z:=fun j z hj hz=>by
 by_cases e:j=m
 ·subst e;rw[hy] at hz;cases hz;exact hne
 ·exact h j z (by omega) hz
def ML(op:Int):Nat:=if op=3 then 297 else if op=4 then 298 else if op=6 then 299 else 300
def OQ(op x y:Int):Int:=if op=3 then bits .and .u64 x y else if op=4 then bits .or .u64 x y else if op=6 then bits .xor .u64 18446744073709551615 (bits .xor .u64 x y) else bits .xor .u64 x y
def Rl(ns:List ByteArray)(op:Int)(names:List ByteArray)(l:List Int):Int:=
 if op=1 then fG (Hj ns (names.getD 0 ⟨#[]⟩):Int) 64 else if op=2 then bits .xor .u64 18446744073709551615 (l.getD 0 0) else OQ op (l.getD 0 0) (l.getD 1 0)
mutual
def gW(ns:List ByteArray):aA→Int
 | .node op _ _ _ names _ kids=>Rl ns op names (Om ns kids)
def Om(ns:List ByteArray):List aA→List Int
 | []=>[]
 | k::l=>gW ns k::Om ns l
end
theorem Dy(ns:List ByteArray)(e:aA):gW ns e=Rl ns e.op e.names (Om ns e.kids):=by cases e;rw[gW];rfl
theorem sP(ns:List ByteArray):∀ (l:List aA) (i:Nat) {y:aA},l[i]?=some y→(Om ns l).getD i 0=gW ns y
 | [],_,_,h=>by simp at h
 | k::l,0,y,h=>by
  rw[Om];obtain rfl:k=y:=by simpa using h
  rfl
 | k::l,i+1,y,h=>by
  rw[Om];simpa using sP ns l i (by simpa using h)
theorem Wx{x y:ByteArray}(h:(x.toList == y.toList)=true):x=y:=of_decide_eq_true ((nG x y).symm.trans h)
theorem aah{x y:ByteArray}(h:(x.toList == y.toList)=false):x≠y:=of_decide_eq_false ((nG x y).symm.trans h)
theorem P4(w0:World)(nB:Nat)(hn:nB≤5):Calls Tryz.prog 230 #[.int .i64 (nB:Int)] w0 (fun(r:Ending) (w':World)=>r=.returned (.int .u64 (aY nB))∧atZ w0.heap.size w0 w'):=by
 have Zq:=nt6 hn;have aM:=hr1 Tryz.prog Tryz.f230 (fun(r:Ending) (w':World)=>r=.returned (.int .u64 (aY nB))∧atZ w0.heap.size w0 w') 10 2 rfl;refine en Tryz.func230 rfl Tryz.ntmps230 rfl (vs:=[.int .i64 (nB:Int)]) rfl fun _ F=>?_
 have M:=Mm.start w0;refine auc fun K1 dw=>ah<|xA (v:=.int .u64 0) F rf rf rf fun _ F=>aud<|dw _ _ ?_
 refine auc fun K2 cQ=>auc fun K3 fJ=>ah<|xM F rf rf rf fun _ F=>
  ke (on rfl) (lU rfl rfl (F.u rf) (by omega) (show _≤((64:Nat):Int) by omega)) rfl F rfl (congrArg (Value.int .i64) (nt1 hn)) fun _ F=>
  kz F rf (Ip rfl (F.u rf) rfl) fun _ F=>
  aud<|
  fJ _ _ ?_
 refine auf (F.e 5 rfl) (fun hc1=>?_) (fun hc1=>?_)
 ·have hd2:=of_decide_eq_true hc1;refine auc fun K4 fQ=>ah<|xA (v:=.int .u64 18446744073709551615) F rf rf rf fun _ F=>aud<|fQ _ _ ?_
  refine wp_ret<|aM _ _ _ _ F rfl ?_;exfalso;omega
 ·have hd3:=of_decide_eq_false hc1;refine wp_skip<|cQ _ _ ?_
  refine auc fun K5 gL=>ah<|xM F rf rf rf fun _ F=>
   ke (on rfl) (lU rfl rfl (F.u rf) (by omega) (show _≤((64:Nat):Int) by omega)) rfl F rfl (congrArg (Value.int .u64) (nt3 hn)) fun _ F=>
   ke (on rfl) (lU rfl rfl (F.u rf) (Int.natCast_nonneg _) (Int.ofNat_le.2 (at9 Zq (by decide)))) rfl F rfl (congrArg (Value.int .u64) (nt4 hn)) fun _ F=>
   ke (on rfl) (CW rfl (F.u rf) rfl) rfl F rfl (congrArg (Value.int .u64) (nt5 hn)) fun _ F=>
   xA F rf rf rf fun _ F=>
   aud<|
   gL _ _ ?_
  refine wp_ret<|aM _ _ _ _ F rfl ?_;exact⟨rfl,M.below⟩
theorem RK(w0:World)(x y:Int):Calls Tryz.prog 297 #[.agg #[.int .u64 x,.int .u64 y]] w0 (fun(r:Ending) (w':World)=>r=.returned (.int .u64 (bits .and .u64 x y))∧atZ w0.heap.size w0 w'):=by
 have aM:=hr1 Tryz.prog Tryz.f297 (fun(r:Ending) (w':World)=>r=.returned (.int .u64 (bits .and .u64 x y))∧atZ w0.heap.size w0 w') 8 2 rfl;refine en Tryz.func297 rfl Tryz.ntmps297 rfl (vs:=[.agg #[.int .u64 x,.int .u64 y]]) rfl fun _ F=>?_
 have M:=Mm.start w0;refine auc fun K1 dw=>ah<|oG (on rfl) rfl (F.u rf) rfl F rfl M fun g1 _ _ F M=>xA (v:=.int .u64 0) F rf rf rf fun _ F=>aud<|dw _ _ ?_
 refine auc fun K2 cQ=>ah<|xF 0 F rf rf rf Gb rf iM rf fun _ F=>xL F (M.b 0 rfl) rf rf rf Ga rf rf fun _ F=>xF 1 F rf rf rf Gb rf iM rf fun _ F=>xL F (M.b 0 rfl) rf rf rf Ga rf rf fun _ F=>kz F rf (xg rfl (F.u rf) (F.u rf)) fun _ F=>xA F rf rf rf fun _ F=>aud<|cQ _ _ ?_
 refine wp_ret<|aM _ _ _ _ F rfl ?_;exact⟨rfl,M.below⟩
theorem Vw(w0:World)(x y:Int):Calls Tryz.prog 298 #[.agg #[.int .u64 x,.int .u64 y]] w0 (fun(r:Ending) (w':World)=>r=.returned (.int .u64 (bits .or .u64 x y))∧atZ w0.heap.size w0 w'):=by
 have aM:=hr1 Tryz.prog Tryz.f298 (fun(r:Ending) (w':World)=>r=.returned (.int .u64 (bits .or .u64 x y))∧atZ w0.heap.size w0 w') 8 2 rfl;refine en Tryz.func298 rfl Tryz.ntmps298 rfl (vs:=[.agg #[.int .u64 x,.int .u64 y]]) rfl fun _ F=>?_
 have M:=Mm.start w0;refine auc fun K1 dw=>ah<|oG (on rfl) rfl (F.u rf) rfl F rfl M fun g1 _ _ F M=>xA (v:=.int .u64 0) F rf rf rf fun _ F=>aud<|dw _ _ ?_
 refine auc fun K2 cQ=>ah<|xF 0 F rf rf rf Gb rf iM rf fun _ F=>xL F (M.b 0 rfl) rf rf rf Ga rf rf fun _ F=>xF 1 F rf rf rf Gb rf iM rf fun _ F=>xL F (M.b 0 rfl) rf rf rf Ga rf rf fun _ F=>kz F rf (TQ rfl (F.u rf) (F.u rf)) fun _ F=>xA F rf rf rf fun _ F=>aud<|cQ _ _ ?_
 refine wp_ret<|aM _ _ _ _ F rfl ?_;exact⟨rfl,M.below⟩
theorem OO(w0:World)(x y:Int):Calls Tryz.prog 299 #[.agg #[.int .u64 x,.int .u64 y]] w0 (fun(r:Ending) (w':World)=>r=.returned (.int .u64 (bits .xor .u64 18446744073709551615 (bits .xor .u64 x y)))∧atZ w0.heap.size w0 w'):=by
 have aM:=hr1 Tryz.prog Tryz.f299 (fun(r:Ending) (w':World)=>r=.returned (.int .u64 (bits .xor .u64 18446744073709551615 (bits .xor .u64 x y)))∧atZ w0.heap.size w0 w') 9 2 rfl;refine en Tryz.func299 rfl Tryz.ntmps299 rfl (vs:=[.agg #[.int .u64 x,.int .u64 y]]) rfl fun _ F=>?_
 have M:=Mm.start w0;refine auc fun K1 dw=>ah<|oG (on rfl) rfl (F.u rf) rfl F rfl M fun g1 _ _ F M=>xA (v:=.int .u64 0) F rf rf rf fun _ F=>aud<|dw _ _ ?_
 refine auc fun K2 cQ=>ah<|xF 0 F rf rf rf Gb rf iM rf fun _ F=>xL F (M.b 0 rfl) rf rf rf Ga rf rf fun _ F=>xF 1 F rf rf rf Gb rf iM rf fun _ F=>xL F (M.b 0 rfl) rf rf rf Ga rf rf fun _ F=>kz F rf (TN rfl (F.u rf) (F.u rf)) fun _ F=>kz F rf (Nw rfl (F.u rf)) fun _ F=>xA F rf rf rf fun _ F=>aud<|cQ _ _ ?_
 refine wp_ret<|aM _ _ _ _ F rfl ?_;exact⟨rfl,M.below⟩
theorem GL(w0:World)(x y:Int):Calls Tryz.prog 300 #[.agg #[.int .u64 x,.int .u64 y]] w0 (fun(r:Ending) (w':World)=>r=.returned (.int .u64 (bits .xor .u64 x y))∧atZ w0.heap.size w0 w'):=by
 have aM:=hr1 Tryz.prog Tryz.f300 (fun(r:Ending) (w':World)=>r=.returned (.int .u64 (bits .xor .u64 x y))∧atZ w0.heap.size w0 w') 8 2 rfl;refine en Tryz.func300 rfl Tryz.ntmps300 rfl (vs:=[.agg #[.int .u64 x,.int .u64 y]]) rfl fun _ F=>?_
 have M:=Mm.start w0;refine auc fun K1 dw=>ah<|oG (on rfl) rfl (F.u rf) rfl F rfl M fun g1 _ _ F M=>xA (v:=.int .u64 0) F rf rf rf fun _ F=>aud<|dw _ _ ?_
 refine auc fun K2 cQ=>ah<|xF 0 F rf rf rf Gb rf iM rf fun _ F=>xL F (M.b 0 rfl) rf rf rf Ga rf rf fun _ F=>xF 1 F rf rf rf Gb rf iM rf fun _ F=>xL F (M.b 0 rfl) rf rf rf Ga rf rf fun _ F=>kz F rf (TN rfl (F.u rf) (F.u rf)) fun _ F=>xA F rf rf rf fun _ F=>aud<|cQ _ _ ?_
 refine wp_ret<|aM _ _ _ _ F rfl ?_;exact⟨rfl,M.below⟩
theorem DT(w0:World)(op:Int):Calls Tryz.prog 273 #[.int .i64 op] w0 (fun(r:Ending) (w':World)=>r=.returned (.func (.func (ML op)) #[] #[])∧atZ w0.heap.size w0 w'):=by
 have aM:=hr1 Tryz.prog Tryz.f273 (fun(r:Ending) (w':World)=>r=.returned (.func (.func (ML op)) #[] #[])∧atZ w0.heap.size w0 w') 10 2 rfl;refine en Tryz.func273 rfl Tryz.ntmps273 rfl (vs:=[.int .i64 op]) rfl fun _ F=>?_
 have M:=Mm.start w0;refine auc fun K1 dw=>ah<|xA (v:=.nilFunc) F rf rf rf fun _ F=>aud<|dw _ _ ?_
 refine auc fun K2 cQ=>auc fun K3 fJ=>ah<|xM F rf rf rf fun _ F=>aud<|fJ _ _ ?_
 refine aue<|auc fun K4 fQ=>ah<|kz F rf (eX rfl (F.u rf) rfl) fun _ F=>xA F rf rf rf fun _ F=>aud<|fQ _ _ ?_
 refine auf (F.e 4 rfl) (fun hc1=>?_) (fun hc1=>?_)
 ·have hd2:=of_decide_eq_true hc1;refine auc fun K5 gL=>ah<|kz F rf (eC (v:=.func (.func 297) #[] #[]) rfl rfl) fun _ F=>aud<|gL _ _ ?_
  refine wp_ret<|aM _ _ _ _ F rfl ?_;exact⟨congrArg (fun(n:Nat)=>Ending.returned (.func (.func n) #[] #[])) (by unfold ML;refine Eq.symm ?_;repeat (first|with_reducible rfl|assumption|(with_reducible refine Eq.trans (if_pos ?_) ?_;focus (first|assumption|(refine cO ?_;assumption)|(refine cN ?_;assumption)|omega|(simp[hd2];done)))|(with_reducible refine Eq.trans (if_neg ?_) ?_;focus (first|assumption|(refine cO ?_;assumption)|(refine cN ?_;assumption)|omega|(simp[hd2];done)))|omega)),M.below⟩
 ·have hd3:=of_decide_eq_false hc1;refine auc fun K6 iC=>ah<|kz F rf (eX rfl (F.u rf) rfl) fun _ F=>xA F rf rf rf fun _ F=>aud<|iC _ _ ?_
  refine auf (F.e 6 rfl) (fun yd=>?_) (fun yd=>?_)
  ·have Ao:=of_decide_eq_true yd;refine auc fun K7 iO=>ah<|kz F rf (eC (v:=.func (.func 298) #[] #[]) rfl rfl) fun _ F=>aud<|iO _ _ ?_
   refine wp_ret<|aM _ _ _ _ F rfl ?_;exact⟨congrArg (fun(n:Nat)=>Ending.returned (.func (.func n) #[] #[])) (by unfold ML;refine Eq.symm ?_;repeat (first|with_reducible rfl|assumption|(with_reducible refine Eq.trans (if_pos ?_) ?_;focus (first|assumption|(refine cO ?_;assumption)|(refine cN ?_;assumption)|omega|(simp[Ao];done)))|(with_reducible refine Eq.trans (if_neg ?_) ?_;focus (first|assumption|(refine cO ?_;assumption)|(refine cN ?_;assumption)|omega|(simp[hd3,Ao];done)))|omega)),M.below⟩
  ·have vU:=of_decide_eq_false yd;refine auc fun K8 jf=>ah<|kz F rf (eX rfl (F.u rf) rfl) fun _ F=>xA F rf rf rf fun _ F=>aud<|jf _ _ ?_
   refine auf (F.e 8 rfl) (fun XK=>?_) (fun XK=>?_)
   ·have Qz:=of_decide_eq_true XK;refine auc fun K9 jW=>ah<|kz F rf (eC (v:=.func (.func 299) #[] #[]) rfl rfl) fun _ F=>aud<|jW _ _ ?_
    refine wp_ret<|aM _ _ _ _ F rfl ?_;exact⟨congrArg (fun(n:Nat)=>Ending.returned (.func (.func n) #[] #[])) (by unfold ML;refine Eq.symm ?_;repeat (first|with_reducible rfl|assumption|(with_reducible refine Eq.trans (if_pos ?_) ?_;focus (first|assumption|(refine cO ?_;assumption)|(refine cN ?_;assumption)|omega|(simp[Qz];done)))|(with_reducible refine Eq.trans (if_neg ?_) ?_;focus (first|assumption|(refine cO ?_;assumption)|(refine cN ?_;assumption)|omega|(simp[hd3,vU,Qz];done)))|omega)),M.below⟩
   ·have Ea:=of_decide_eq_false XK;refine wp_skip<|cQ _ _ ?_;refine auc fun Bh dU=>ah<|kz F rf (eC (v:=.func (.func 300) #[] #[]) rfl rfl) fun _ F=>aud<|dU _ _ ?_
    refine wp_ret<|aM _ _ _ _ F rfl ?_;exact⟨congrArg (fun(n:Nat)=>Ending.returned (.func (.func n) #[] #[])) (by unfold ML;refine Eq.symm ?_;repeat (first|with_reducible rfl|assumption|(with_reducible refine Eq.trans (if_pos ?_) ?_;focus (first|assumption|(refine cO ?_;assumption)|(refine cN ?_;assumption)|omega|(simp[hd3,vU,Ea];done)))|(with_reducible refine Eq.trans (if_neg ?_) ?_;focus (first|assumption|(refine cO ?_;assumption)|(refine cN ?_;assumption)|omega|(simp[hd3,vU,Ea];done)))|omega)),M.below⟩
theorem KV(w0:World)(v:Value)(l:List ByteArray)(h:SliceAt w0 v 1 l.length (l.flatMap aN))(x:ByteArray)(hx:x∈l):Calls Tryz.prog 272 #[v,.string x] w0 (fun(r:Ending) (w':World)=>r=.returned (.int .i64 ((Hj l x:Int)))∧atZ w0.heap.size w0 w'):=by
 obtain⟨la,lc,rfl,hk,hm,hcell⟩:=SliceAt.form h (by decide);have aM:=hr1 Tryz.prog Tryz.f272 (fun(r:Ending) (w':World)=>r=.returned (.int .i64 ((Hj l x:Int)))∧atZ w0.heap.size w0 w') 19 4 rfl;refine en Tryz.func272 rfl Tryz.ntmps272 rfl (vs:=[.slice la l.length lc,.string x]) rfl fun _ F=>?_
 have M:=Mm.start w0;refine auc fun K1 dw=>ah<|xA (v:=.int .i64 0) F rf rf rf fun _ F=>aud<|dw _ _ ?_
 refine auc fun K2 cQ=>auc fun K3 fJ=>ah<|xM F rf rf rf fun _ F=>kz F rf (bA rfl (F.u rf) Dv) fun _ F=>xM (v:=.int .i64 0) F rf rf rf fun _ F=>aud<|fJ _ _ ?_
 refine aue<|?_;refine bV (ι:=Nat) (fun m a w=>Fs a 19 [(0,.slice la l.length lc),(1,.string x),(7,.int .i64 (l.length:Int)),(8,.int .i64 (m:Int))]∧Mm w0 w [] []∧m≤l.length∧(∀ j z,j<m→l[j]?=some z→x≠z)) (fun m=>l.length-m) 0 ⟨F.sub ⟨rfl,rfl,rfl,rfl,trivial⟩,M,atW _,(fun j _ h=>absurd h (Nat.not_lt_zero j))⟩ ?_
 (repeat clear F);(repeat clear M)
 rintro m _ _ ⟨F,M,hm,hno⟩;refine auc fun K4 fQ=>ah<|kz F rf (d_ rfl (F.u rf) (F.u rf)) fun _ F=>aud<|fQ _ _ ?_
 refine auc fun K5 gL=>?_
 refine auf (F.e 9 rfl) (fun hc1=>?_) (fun hc1=>?_)
 ·have hd2:=of_decide_eq_true hc1;refine wp_skip<|gL _ _ ?_;refine auc fun K6 iC=>aue<|auc fun K7 iO=>ah<|xM F rf rf rf fun _ F=>xA F rf rf rf fun _ F=>aud<|iO _ _ ?_
  refine auc fun K8 jf=>?_
  have hlt:m<l.length:=by omega
  obtain⟨y,hy⟩:∃ y,l[m]?=some y:=⟨_,at1 hlt⟩;obtain⟨b9,o9,rfl,Pu⟩:=hcell m hlt
  have Pn:∀ j uu,[Value.string y][j]?=some uu→w0.cell? ⟨b9,o9+m*1+j,none⟩=some uu:=fun j u hu=>Pu j u (by
   rw[gN (f:=aN) (fun _=>rfl) hy j (aug.1 hu).1];exact hu)
  refine ah<|xM F rf rf rf fun _ F=>xM F rf rf rf fun _ F=>xM F rf rf rf fun _ F=>
   kz F rf (aK (i:=m) rfl (F.u rf) (F.u rf) (by omega) Dv sz9) fun _ F=>
   kz F rf (aD rf (F.u rf) u9 rfl ((dJ M.below Pn) 0 _ rfl)) fun _ F=>
   kz F rf (cA rfl (F.u rf) (F.u rf)) fun _ F=>
   aud<|
   jf _ _ ?_
  refine auf (F.e 16 rfl) (fun hc3=>?_) (fun hc3=>?_)
  ·have he:x=y:=Wx hc3;refine auc fun K9 jW=>ah<|xM F rf rf rf fun _ F=>xA F rf rf rf fun _ F=>aud<|jW _ _ ?_
   refine wp_ret<|aM _ _ _ _ F rfl ?_;exact⟨bE (V0 hy hno he),M.below⟩
  ·have hne:x≠y:=aah hc3;refine wp_skip<|iC _ _ ?_
   refine ah<|
    ke (on rfl) (cL rfl (F.u rf) rfl) rfl F rfl (congrArg (Value.int .i64) (wrap_i64 (by omega))) fun _ F=>
    xM F rf rf rf fun _ F=>
    aud<|?_
   exact⟨m+1,⟨F.sub ⟨rfl,rfl,rfl,rfl,trivial⟩,M,by omega,Pj hy hno hne⟩,by show l.length-(m+1)<l.length-m;omega⟩
 ·have BH:=of_decide_eq_false hc1;refine wp_exit<|cQ _ _ ?_;refine auc fun Bh dU=>ah<|xA (v:=.int .i64 (-1)) F rf rf rf fun _ F=>aud<|dU _ _ ?_
  refine wp_ret<|aM _ _ _ _ F rfl ?_;exact(Sy (by omega) hno hx).elim
theorem Lz(w0:World)(bi:Int)(hb0:0≤bi)(hb1:bi≤60)(nB:Nat)(hn:nB≤5):Calls Tryz.prog 271 #[.int .i64 bi,.int .i64 (nB:Int)] w0 (fun(r:Ending) (w':World)=>∃ v,r=.returned v∧((bO w' w0.heap.size v (fG bi 64))∧atZ w0.heap.size w0 w')):=by
 have aM:=hr1 Tryz.prog Tryz.f271 (fun(r:Ending) (w':World)=>∃ v,r=.returned v∧((bO w' w0.heap.size v (fG bi 64))∧atZ w0.heap.size w0 w')) 40 4 rfl;refine en Tryz.func271 rfl Tryz.ntmps271 rfl (vs:=[.int .i64 bi,.int .i64 (nB:Int)]) rfl fun _ F=>?_
 have M:=Mm.start w0;refine auc fun K1 dw=>ah<|xA (v:=.slice none 0 0) F rf rf rf fun _ F=>aud<|dw _ _ ?_
 refine auc fun K2 cQ=>ah<|xM F rf rf rf fun _ F=>
  ke (on rfl) (lU rfl rfl (F.u rf) (by omega) (show _≤((64:Nat):Int) by omega)) rfl F rfl (congrArg (Value.int .i64) (nt1 hn)) fun _ F=>
  ke (on rfl) (Ns rfl (F.u rf) rfl (by decide)) rfl F rfl (congrArg (Value.int .i64) (nt2 hn)) fun _ F=>
  ke (on rfl) (Eu rfl rfl (F.u rf)) rfl F rfl rfl fun _ F=>
  kn (f:=fun n=>.slice (some ⟨n,0,none⟩) 1 1) (on rfl) (tV rfl (F.u rf) (F.u rf) Od Hh QJ rfl (by decide)) rfl F rfl M fun g1 _ _ F M=>
  xA F rf rf rf fun _ F=>
  aud<|
  cQ _ _ ?_
 refine auc fun K3 fJ=>auc fun K4 fQ=>ah<|xM F rf rf rf fun _ F=>kz F rf (bA rfl (F.u rf) Od) fun _ F=>xM (v:=.int .i64 0) F rf rf rf fun _ F=>aud<|fQ _ _ ?_
 refine aue<|?_;refine bV (ι:=Nat×Int) (fun|(t,x),a,w=>Fs a 40 [(0,.int .i64 bi),(5,.slice (some ⟨g1,0,none⟩) 1 1),(14,.int .i64 1),(15,.int .i64 (t:Int))]∧Mm w0 w [(g1,52,#[.int .u64 x])] []∧t≤1∧(t=0→x=0)∧(t=1→x=fG bi 64)) (fun|(t,x)=>1-t) (0,0) ⟨F.sub ⟨rfl,rfl,rfl,rfl,trivial⟩,M,atW _,⟨fun _=>rfl,fun h=>by cases h⟩⟩ ?_
 (repeat clear F);(repeat clear M)
 rintro⟨t,x⟩ _ _ ⟨F,M,ht,hx⟩;refine auc fun K5 gL=>ah<|kz F rf (d_ rfl (F.u rf) (F.u rf)) fun _ F=>aud<|gL _ _ ?_
 refine auc fun K6 iC=>?_
 refine auf (F.e 16 rfl) (fun hc2=>?_) (fun hc2=>?_)
 ·have hd3:=of_decide_eq_true hc2;refine wp_skip<|iC _ _ ?_;refine auc fun K7 iO=>aue<|auc fun K8 jf=>?_
  have XB:t=0:=by omega
  have F:=F.eq 15 rfl (congrArg (Value.int .i64) (show((t:Nat):Int)=0 by omega));refine ah<|xM F rf rf rf fun _ F=>xA F rf rf rf fun _ F=>aud<|jf _ _ ?_
  refine auc fun K9 jW=>ah<|xM (v:=.int .i64 0) F rf rf rf fun _ F=>aud<|jW _ _ ?_
  refine aue<|?_;refine bV (ι:=Nat×Int) (fun|(k,acc),a,w=>Fs a 40 [(0,.int .i64 bi),(5,.slice (some ⟨g1,0,none⟩) 1 1),(6,.int .i64 0),(14,.int .i64 1),(15,.int .i64 0),(18,.int .i64 (k:Int))]∧Mm w0 w [(g1,52,#[.int .u64 acc])] []∧k≤64∧acc=fG bi k) (fun|(k,acc)=>64-k) (0,x) ⟨F.sub ⟨rfl,rfl,rfl,rfl,rfl,rfl,trivial⟩,M,atW _,hx.1 XB⟩ ?_
  (repeat clear F);(repeat clear M)
  rintro⟨k,acc⟩ _ _ ⟨F,M,hk,hacc⟩;refine auc fun Bh dU=>ah<|kz F rf (d_ rfl (F.u rf) rfl) fun _ F=>aud<|dU _ _ ?_
  refine auc fun I8 gj=>?_
  refine auf (F.e 19 rfl) (fun yd=>?_) (fun yd=>?_)
  ·have Ao:=of_decide_eq_true yd;refine wp_skip<|gj _ _ ?_;refine auc fun I7 fT=>aue<|auc fun Jh gM=>ah<|xM F rf rf rf fun _ F=>xA F rf rf rf fun _ F=>aud<|gM _ _ ?_
   refine auc fun NR jg=>ah<|xM F rf rf rf fun _ F=>
    ke (on rfl) (TR rfl (F.u rf) rfl) rfl F rfl (congrArg (Value.int .i64) (wrap_i64 (by omega))) fun _ F=>
    xM F rf rf rf fun _ F=>
    ke (on rfl) (cL rfl (F.u rf) (F.u rf)) rfl F rfl (congrArg (Value.int .i64) (wrap_i64 (by omega))) fun _ F=>
    xM F rf rf rf fun _ F=>
    kz F rf (TP rfl (F.u rf) (F.u rf) (by omega) (show _≤((64:Nat):Int) by omega)) fun _ F=>
    kz F rf (xg rfl (F.u rf) rfl) fun _ F=>
    kz F rf (eX rfl (F.u rf) rfl) fun _ F=>
    aud<|
    jg _ _ ?_
   refine auf (F.e 28 rfl) (fun je=>?_) (fun je=>?_)
   ·have QA:=of_decide_eq_true je;have hbit:jG bi k=true:=je;refine rd 8 [29,30,31,32,33,34,35,36] [bL (.slice (some ⟨g1,0,none⟩) 1 1),bL (.int .i64 0),bL (.pointer (some ⟨g1,0,none⟩)),bL (.int .u64 acc),bL (.int .i64 (k:Int)),bL (.int .u64 (IntKind.u64.wrap (1*2^((k:Int):Int).toNat))),bL (.int .u64 (bits .or .u64 acc (IntKind.u64.wrap (1*2^((k:Int):Int).toNat)))),bL (.pointer (some ⟨g1,0,none⟩))] (by kernel_rfl) (by kernel_rfl) (by kernel_rfl) rfl (by decide) rfl rfl F ⟨aj _,aj _,aj _,aj _,aj _,aj _,aj _,aj _,trivial⟩ ⟨?_,?_,?_,?_,?_,?_,?_,?_,trivial⟩ ?_
    ·exact fun a w Q' hf hi H G hK=>dv (on rfl) (bC rfl (G 5 _ rfl (F.g 5 rfl)).ev) rfl hf rfl hK rfl
    ·exact fun a w Q' hf hi H G hK=>dv (on rfl) (bC rfl (G 6 _ rfl (F.g 6 rfl)).ev) rfl hf rfl hK rfl
    ·exact fun a w Q' hf hi H G hK=>dv (on rfl) (aK (i:=0) rfl (iA (H 0 ⟨.data,by simp,rfl⟩ _ _ rfl rfl)).ev (iA (H 1 ⟨.data,by simp,rfl⟩ _ _ rfl rfl)).ev (by omega) Od iM) rfl hf rfl hK rfl
    ·exact fun a w Q' hf hi H G hK=>dv (on rfl) (aD rfl (iA (H 2 ⟨.data,by simp,rfl⟩ _ _ rfl rfl)).ev Ga rfl (((M.keep hi).b 0 rfl).c1 0)) rfl hf rfl hK rfl
    ·exact fun a w Q' hf hi H G hK=>dv (on rfl) (bC rfl (G 7 _ rfl (F.g 7 rfl)).ev) rfl hf rfl hK rfl
    ·exact fun a w Q' hf hi H G hK=>dv (on rfl) (lU rfl rfl (iA (H 4 ⟨.data,by simp,rfl⟩ _ _ rfl rfl)).ev (by omega) (show _≤((64:Nat):Int) by omega)) rfl hf rfl hK rfl
    ·exact fun a w Q' hf hi H G hK=>dv (on rfl) (TQ rfl (iA (H 3 ⟨.data,by simp,rfl⟩ _ _ rfl rfl)).ev (iA (H 5 ⟨.data,by simp,rfl⟩ _ _ rfl rfl)).ev) rfl hf rfl hK rfl
    ·exact fun a w Q' hf hi H G hK=>dv (on rfl) (aK (i:=0) rfl (iA (H 0 ⟨.data,by simp,rfl⟩ _ _ rfl rfl)).ev (iA (H 1 ⟨.data,by simp,rfl⟩ _ _ rfl rfl)).ev (by omega) Od iM) rfl hf rfl hK rfl
    (repeat clear F);intro _ _ qK F D
    obtain⟨_,h,rfl⟩:=D 6 _ _ rfl rfl;have F:=F.add h;obtain⟨_,h,rfl⟩:=D 7 _ _ rfl rfl;have F:=F.add h;have M:=M.keep qK;clear D qK;intro Qt BI;refine ks (on rfl) rfl (F.u rf) (F.u rf) F M 0 (cs':=#[.int .u64 (bits .or .u64 acc (IntKind.u64.wrap (1*2^((k:Int):Int).toNat)))]) rfl rfl rfl iM rfl (iG _ _ rfl) rfl rfl fun _ M=>aud (BI _ _ ?_)
    refine fT _ _ ?_
    refine ah<|
     ke (on rfl) (cL rfl (F.u rf) rfl) rfl F rfl (congrArg (Value.int .i64) (wrap_i64 (by omega))) fun _ F=>
     xM F rf rf rf fun _ F=>
     aud<|?_
    exact⟨(k+1,bits .or .u64 acc (IntKind.u64.wrap (1*2^((k:Int):Int).toNat))),⟨F.sub ⟨rfl,rfl,rfl,rfl,rfl,rfl,trivial⟩,M,by omega,by rw[AX hbit,← hacc]⟩,by show 64-(k+1)<64-k;omega⟩
   ·have Qz:=of_decide_eq_false je;have hbit:jG bi k=false:=je;refine wp_skip<|fT _ _ ?_
    refine ah<|
     ke (on rfl) (cL rfl (F.u rf) rfl) rfl F rfl (congrArg (Value.int .i64) (wrap_i64 (by omega))) fun _ F=>
     xM F rf rf rf fun _ F=>
     aud<|?_
    exact⟨(k+1,acc),⟨F.sub ⟨rfl,rfl,rfl,rfl,rfl,rfl,trivial⟩,M,by omega,by rw[C9 hbit,← hacc]⟩,by show 64-(k+1)<64-k;omega⟩
  ·have Ea:=of_decide_eq_false yd;refine wp_exit<|iO _ _ ?_;have F:=F.eq 15 rfl (congrArg (Value.int .i64) (show(0:Int)=((t:Nat):Int) by omega))
   refine ah<|
    ke (on rfl) (cL rfl (F.u rf) rfl) rfl F rfl (congrArg (Value.int .i64) (wrap_i64 (by omega))) fun _ F=>
    xM F rf rf rf fun _ F=>
    aud<|?_
   exact⟨(t+1,acc),⟨F.sub ⟨rfl,rfl,rfl,rfl,trivial⟩,M,by omega,⟨fun h=>by omega,fun _=>by rw[show k=64 by omega] at hacc;exact hacc⟩⟩,by show 1-(t+1)<1-t;omega⟩
 ·have ZE:=of_decide_eq_false hc2;refine wp_exit<|fJ _ _ ?_;refine auc fun W6 mY=>ah<|xM F rf rf rf fun _ F=>xA F rf rf rf fun _ F=>aud<|mY _ _ ?_
  refine wp_ret<|aM _ _ _ _ F rfl ?_;exact⟨_,rfl,⟨_,rfl,(by have hW:=M.b 0 rfl;rw[hx.2 (by omega)] at hW;exact hW),M.lo _ (at2 (i:=0) rfl)⟩,M.below⟩
end Go.Proofs.YtdcofoaihmongaaGreat

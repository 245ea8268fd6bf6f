import Derived.Laws.BitsAllLaws
import Derived.Test.YtkkmjdceiocnbaaGreatDoorSX3
open Bool renaming and_eq_true→aiJ
open Go.Lib renaming hid→aiV
open Go.RowKit renaming Below→aiQ
open List renaming getElem?_eq_some_iff→aiK,all_eq_true→aiL,mem_append→aiM,mem_cons→aiO,mem_of_getElem?→aiP,mem_cons_of_mem→aiS,mem_cons_self→aiT
open Nat renaming eq_of_beq_eq_true→aiR,zero_le→aiU
open Option.some renaming inj→aiN
set_option maxRecDepth 100000
set_option maxHeartbeats 8000000
set_option linter.unusedSectionVars false
set_option linter.unusedSimpArgs false
set_option linter.unusedVariables false
namespace Go.Proofs.YtkkmjdceiocnbaaGreatDoor
open Go Go.RowKit
variable [DS]
structure vv (X:List Nat) (a a':Act):Prop where
 fr:∀ {N:Nat},Fr a N→Fr a' N
 old:∀ {j:Nat} {u:Value},X.contains j=false→At a j u→At a' j u
theorem vv.refl(X:List Nat)(a:Act):vv X a a:=⟨fun h=>h,fun _ h=>h⟩
theorem vv.put{X:List Nat}{a a' a2:Act}{s:Nat}{v:Value}(h:vv X a a')(p:Put a' s v a2)(hs:X.contains s=true):vv X a a2:=
 ⟨fun hf=>p.fr (h.fr hf),fun {j u} hj hu=>p.old (by
  cases e:j == s with
  | false=>rfl
  | true=>
   have e':j=s:=by simpa using e
   rw[e',hs] at hj;cases hj) (h.old hj hu)⟩
theorem Fs.Rz{X:List Nat}{a a':Act}{N:Nat}{l:Slots}(F:Fs a N l)(h:vv X a a'){l':Slots}(hl:l'.all (fun p=>!X.contains p.1)=true)(hs:Sub l l'):Fs a' N l':=by
 have F':=F.sub hs;refine⟨h.fr F'.fr,fun q v hq=>?_⟩;refine h.old ?_ (F'.at_ q v hq);clear F F' hs
 induction l' with
 | nil=>cases hq
 | cons p r ih=>
  obtain⟨s,u⟩:=p;simp only[List.all_cons,aiJ] at hl;rw[bT] at hq
  cases e:q == s with
  | true=>
   have e':q=s:=by simpa using e
   rw[e'];simpa using hl.1
  | false=>
   rw[e] at hq;exact ih hl.2 hq
abbrev Kn:=Nat×Nat×Value
def Bd(o:Oper)(k:Nat):Prop:=∃ gr,(⟨k,gr⟩:Edge)∈o.after.toList∧Region.binds .any ⟨k,gr⟩=true
inductive Tr where
 | done
 | step (j:Nat) (t:Tr)
 | last (j:Nat)
 | alt (x y:Tr)
def heads:Tr→List Nat
 | .done=>[]
 | .step j _=>[j]
 | .last j=>[j]
 | .alt x y=>heads x++heads y
inductive Moved (K:List Kn) (j:Nat) (o:Oper) (a a':Act):Prop
 | none:o.dst=none→a'=a→Moved K j o a a'
 | some (d:Nat) (v:Value):o.dst=some d→Put a d v a'→(∀ (n:Nat) (k:Kn),K[n]?=some k→k.1=j→k.2.2=v)→Moved K j o a a'
section
variable (P:Program) (ops:Array Oper) (l:List Oper) (K:List Kn) (X:List Nat) (J:World→Prop) (Q:Act→World→Prop)
def Gn:Tr→Act→World→Prop
 | .done,a,w=>∀ a',vv X a a'→(∀ (n:Nat) (k:Kn),K[n]?=some k→At a' k.2.1 k.2.2)→Q a' w
 | .step j t,a,w=>∀ o,l[j]?=some o→∀ a',vv X a a'→(∀ (n:Nat) (k:Kn),K[n]?=some k→Bd o k.1→At a' k.2.1 k.2.2)→∀ Q':Exit→Act→World→Prop,(∀ a1 w1,J w1→Moved K j o a' a1→Gn t a1 w1→Q' .normal a1 w1)→wpList P ops Q' [o] a' w
 | .last j,a,w=>∀ o,l[j]?=some o→∀ a',vv X a a'→(∀ (n:Nat) (k:Kn),K[n]?=some k→Bd o k.1→At a' k.2.1 k.2.2)→∀ Q':Exit→Act→World→Prop,(∀ a1 w1,Moved K j o a' a1→(∀ a2,vv X a1 a2→(∀ (n:Nat) (k:Kn),K[n]?=some k→At a2 k.2.1 k.2.2)→Q a2 w1)→Q' .normal a1 w1)→wpList P ops Q' [o] a' w
 | .alt x y,a,w=>Gn x a w∧Gn y a w
end
def cand(l:List Oper)(F E:List Nat):List Nat:=(List.range l.length).filter fun j=>!F.contains j&&!E.contains j&&(match l[j]? with|some o=>o.after.toList.all fun e=>!Region.binds .any e||F.contains e.on||E.contains e.on|none=>false)
def iG(l:List Oper)(F:List Nat):Tr→List Nat→Bool
 | .done,E=>(List.range l.length).all fun j=>F.contains j||E.contains j
 | .step j t,E=>!E.contains j&&!F.contains j&&decide (j<l.length)&&((cand l F (j::E)).all fun i=>(heads t).contains i)&&iG l F t (j::E)
 | .last j,E=>!E.contains j&&!F.contains j&&decide (j<l.length)&&((cand l F (j::E)).all fun i=>(heads .done).contains i)&&((List.range l.length).all fun i=>F.contains i||(j::E).contains i)&&(match l[j]? with|some o=>F.all fun f=>o.after.toList.any fun e=>Region.binds .any e&&e.on == f|none=>false)
 | .alt x y,E=>iG l F x E&&iG l F y E
theorem C_{l:List Oper}{F E:List Nat}{j:Nat}{o:Oper}(hj:l[j]?=some o)(h1:F.contains j=false)(h2:E.contains j=false)(h3:∀ e∈o.after.toList,Region.binds .any e=true→F.contains e.on=true∨E.contains e.on=true):j∈cand l F E:=by
 unfold cand;refine List.mem_filter.2 ⟨List.mem_range.2 (aiK.1 hj).1,?_⟩;rw[h1,h2,hj];simp only[Bool.not_false,Bool.true_and,aiL];intro e he
 cases hb:Region.binds .any e with
 | false=>rfl
 | true=>
  rcases h3 e he hb with h|h
  ·rw[h];rfl
  ·rw[h];simp
section
variable {P:Program} {ops:Array Oper} {l:List Oper} {K:List Kn} {X F:List Nat} {J:World→Prop} {Q:Act→World→Prop}
theorem xk:∀ {t:Tr} {E:List Nat} {a:Act} {w:World} {j:Nat},Gn P ops l K X J Q t a w→iG l F t E=true→j∈heads t→(∃ t',Gn P ops l K X J Q (.step j t') a w∧iG l F (.step j t') E=true)∨(Gn P ops l K X J Q (.last j) a w∧iG l F (.last j) E=true)
 | .done,_,_,_,_,_,_,h=>by cases h
 | .step j t,E,a,w,i,h,hs,hi=>by
  obtain rfl:i=j:=by simpa[heads] using hi
  exact .inl ⟨t,h,hs⟩
 | .last j,E,a,w,i,h,hs,hi=>by
  obtain rfl:i=j:=by simpa[heads] using hi
  exact .inr ⟨h,hs⟩
 | .alt x y,E,a,w,i,h,hs,hi=>by
  simp only[iG,aiJ] at hs;rcases aiM.1 hi with hi|hi
  ·exact xk h.1 hs.1 hi
  ·exact xk h.2 hs.2 hi
theorem G2:∀ {t:Tr} {E:List Nat} {a:Act} {w:World},Gn P ops l K X J Q t a w→iG l F t E=true→(∀ j,j<l.length→F.contains j=true∨E.contains j=true)→Gn P ops l K X J Q .done a w
 | .done,_,_,_,h,_,_=>h
 | .step j t,E,a,w,h,hs,hE=>by
  simp only[iG,aiJ,decide_eq_true_iff] at hs;obtain⟨⟨⟨⟨h1,h2⟩,h3⟩,_⟩,_⟩:=hs;rcases hE j h3 with h|h
  ·rw[h] at h2;cases h2
  ·rw[h] at h1;cases h1
 | .last j,E,a,w,h,hs,hE=>by
  simp only[iG,aiJ,decide_eq_true_iff] at hs;obtain⟨⟨⟨⟨⟨h1,h2⟩,h3⟩,_⟩,_⟩,_⟩:=hs;rcases hE j h3 with h|h
  ·rw[h] at h2;cases h2
  ·rw[h] at h1;cases h1
 | .alt x y,E,a,w,h,hs,hE=>by
  simp only[iG,aiJ] at hs;exact G2 h.1 hs.1 hE
end
def pz(P:Program)(l:List Oper)(F:List Nat)(K:List Kn)(J:World→Prop)(a:Act)(N:Nat):List Kn→Prop
 | []=>True
 | k::r=>(F.contains k.1=true→∀ o,l[k.1]?=some o→∀ b u,Fr b N→J u→(∀ j v,(l.filterMap (·.dst)).contains j=false→At a j v→At b j v)→(∀ (n:Nat) (k':Kn),K[n]?=some k'→Bd o k'.1→At b k'.2.1 k'.2.2) →
  Region.wanted o (yielded l.toArray b.tmps)=true∧(execOp b.eval o).run P u=.ok (.value k.2.2) u)∧pz P l F K J a N r
theorem fl{P:Program}{l:List Oper}{K:List Kn}{J:World→Prop}{a:Act}{N:Nat}{k:Kn}{o:Oper}(ho:l[k.1]?=some o) (h:∀ b u,Fr b N→J u→(∀ j v,(l.filterMap (·.dst)).contains j=false→At a j v→At b j v)→(∀ (n:Nat) (k':Kn),K[n]?=some k'→Bd o k'.1→At b k'.2.1 k'.2.2) →
 Region.wanted o (yielded l.toArray b.tmps)=true∧(execOp b.eval o).run P u=.ok (.value k.2.2) u) (F:List Nat):F.contains k.1=true→∀ o,l[k.1]?=some o→∀ b u,Fr b N→J u→(∀ j v,(l.filterMap (·.dst)).contains j=false→At a j v→At b j v)→(∀ (n:Nat) (k':Kn),K[n]?=some k'→Bd o k'.1→At b k'.2.1 k'.2.2) →
 Region.wanted o (yielded l.toArray b.tmps)=true∧(execOp b.eval o).run P u=.ok (.value k.2.2) u:=by
 intro _ o' ho';obtain rfl:o=o':=aiN (ho.symm.trans ho');exact h
theorem mo{P:Program}{l:List Oper}{F:List Nat}{K:List Kn}{J:World→Prop}{a:Act}{N:Nat}:∀ {r:List Kn},pz P l F K J a N r→∀ k∈r,F.contains k.1=true→∀ o,l[k.1]?=some o→∀ b u,Fr b N→J u→(∀ j v,(l.filterMap (·.dst)).contains j=false→At a j v→At b j v)→(∀ (n:Nat) (k':Kn),K[n]?=some k'→Bd o k'.1→At b k'.2.1 k'.2.2) →
 Region.wanted o (yielded l.toArray b.tmps)=true∧(execOp b.eval o).run P u=.ok (.value k.2.2) u
 | [],_,_,h=>by cases h
 | x::r,h,k,hk=>by
  rcases aiO.1 hk with rfl|hk
  ·exact h.1
  ·exact mo h.2 k hk
theorem Fp:∀ {l:List Oper},(l.filterMap (·.dst)).Nodup→∀ (i j:Nat) (o o':Oper) (s:Nat),l[i]?=some o→l[j]?=some o'→o.dst=some s→o'.dst=some s→i=j
 | [],_,i,_,_,_,_,h,_,_,_=>by simp at h
 | x::r,hn,i,j,o,o',s,hi,hj,ho,ho'=>by
  have hin:∀ (k:Nat) (o:Oper),r[k]?=some o→o.dst=some s→s∈r.filterMap (·.dst):=fun k o hk hs=>List.mem_filterMap.2 ⟨o,aiP hk,hs⟩
  rw[List.filterMap_cons] at hn
  have hr:(r.filterMap (·.dst)).Nodup:=by
   split at hn
   ·exact hn
   ·exact(List.nodup_cons.1 hn).2
  have hx:x.dst=some s→s∉r.filterMap (·.dst):=fun e=>by
   rw[e] at hn;exact(List.nodup_cons.1 hn).1
  cases i with
  | zero=>
   cases j with
   | zero=>rfl
   | succ j=>
    obtain rfl:x=o:=by simpa using hi
    exact absurd (hin j o' (by simpa using hj) ho') (hx ho)
  | succ i=>
   cases j with
   | zero=>
    obtain rfl:x=o':=by simpa using hj
    exact absurd (hin i o (by simpa using hi) ho) (hx ho')
   | succ j=>rw[Fp hr i j o o' s (by simpa using hi) (by simpa using hj) ho ho']
def xs(F:List Nat)(K:List Kn):List Nat:=K.filterMap fun k=>if F.contains k.1 then some k.2.1 else none
theorem aC.swap{B:Nat}{w0 w:World}{b1 b2:Bx}{bs:List Bx}{rs:List Rw}(M:aC B w0 w (b1::b2::bs) rs):aC B w0 w (b2::b1::bs) rs:=by
 have hp:∀ b,b∈b2::b1::bs→b∈b1::b2::bs:=fun b hb=>by
  simp only[aiO] at hb ⊢;rcases hb with h|h|h
  ·exact .inr (.inl h)
  ·exact .inl h
  ·exact .inr (.inr h)
 exact⟨M.below,M.le,M.old,fun b hb=>M.box b (hp b hb),fun b hb=>M.lo b (hp b hb),((List.Perm.swap b1 b2 bs).map Prod.fst).symm.nodup_iff.1 M.nd,M.row,fun r hr b hb=>M.far r hr b (hp b hb),M.tZ⟩
structure Jm (B:Nat) (w0:World) (bs:List Bx) (u:World):Prop where
 below:aiQ B w0 u
 box:∀ b∈bs,q7 u b
theorem Jm.b{B:Nat}{w0 u:World}{bs:List Bx}(h:Jm B w0 bs u)(i:Nat){g:Nat}{t:TypeId}{cs:Array Value}(e:bs[i]?=some (g,t,cs))(ht:Nat.blt t 9000=true:=by rfl):Whole u g t cs:=(h.box _ (aiP e)).whole ht
section
variable {P:Program} {Q:Exit→Act→World→Prop}
theorem rZ{id:Nat}{l:List Oper}{a:Act}{w:World}{N:Nat}(K:List Kn)(F:List Nat)(t:Tr)(J:World→Prop)
 (hm:P.follows .mixedOrders=true) (fT:ordered 0 l=true) (hK:(K.all fun k=>((l[k.1]?).bind (·.dst)) == some k.2.1)=true) (hF:(F.all fun i=>K.any fun k=>k.1 == i)=true) (hnd:(l.filterMap (·.dst)).Nodup) (hbd:((l.filterMap (·.dst)).all fun s=>Nat.blt s N)=true)
 (TA:((cand l F []).all fun i=>(heads t).contains i)=true) (hsub:iG l F t []=true)
 (hf:Fr a N) (hfl:pz P l F K J a N K) (hJ:J w.drew) (hsp:Gn P l.toArray l K (xs F K) J (Q .normal) t a w.drew):(Code.region id l.toArray true).wp P Q a w:=by
 have hidx:=Fp hnd
 have DB:∀ k∈K,∃ o:Oper,l[k.1]?=some o∧o.dst=some k.2.1:=fun k hk=>by
  have h:=aiL.1 hK k hk;have h:(l[k.1]?).bind (·.dst)=some k.2.1:=by simpa using h
  cases e:l[k.1]? with
  | none=>rw[e] at h;cases h
  | some o=>rw[e] at h;exact⟨o,rfl,h⟩
 have hin:∀ (i:Nat) (o:Oper) (s:Nat),l[i]?=some o→o.dst=some s→(l.filterMap (·.dst)).contains s=true:=fun i o s ho hs=>by
  have:s∈l.filterMap (·.dst):=List.mem_filterMap.2 ⟨o,aiP ho,hs⟩;simpa using this
 refine mY hm fT (fun L b u=>(∀ j o,l[j]?=some o→L j=true→∀ e∈o.after.toList,Region.binds .any e=true→L e.on=true)∧Fr b N∧(J u∨∀ f,F.contains f=true→L f=true)∧(∀ j v,(l.filterMap (·.dst)).contains j=false→At a j v→At b j v) ∧
  (∀ k∈K,L k.1=true→At b k.2.1 k.2.2)∧∃ t E a0,(∀ j,j<l.length→F.contains j=false→L j=E.contains j)∧((cand l F E).all fun i=>(heads t).contains i)=true∧iG l F t E=true∧vv (xs F K) a0 b∧Gn P l.toArray l K (xs F K) J (Q .normal) t a0 u) ?_ ?_ ?_
 ·exact⟨fun _ _ _ h=>(by cases h),hf,.inl hJ,fun _ _ _ h=>h,fun _ _ h=>(by cases h),t,[],a,fun _ _ _=>rfl,TA,hsub,.refl _ _,hsp⟩
 ·have key:∀ (i:Nat) (o:Oper),l[i]?=some o→∀ (L:Nat→Bool) (b:Act) (u:World) (Q':Exit→Act→World→Prop),((∀ j o,l[j]?=some o→L j=true→∀ e∈o.after.toList,Region.binds .any e=true→L e.on=true)∧Fr b N∧(J u∨∀ f,F.contains f=true→L f=true)∧(∀ j v,(l.filterMap (·.dst)).contains j=false→At a j v→At b j v) ∧
   (∀ k∈K,L k.1=true→At b k.2.1 k.2.2)∧∃ t E a0,(∀ j,j<l.length→F.contains j=false→L j=E.contains j)∧((cand l F E).all fun i=>(heads t).contains i)=true∧iG l F t E=true∧vv (xs F K) a0 b∧Gn P l.toArray l K (xs F K) J (Q .normal) t a0 u)→L i=false →
   (∀ e∈o.after.toList,Region.binds .any e=true→L e.on=true) →
   (∀ b u,((∀ j o,l[j]?=some o→upd L i j=true→∀ e∈o.after.toList,Region.binds .any e=true→upd L i e.on=true)∧Fr b N∧(J u∨∀ f,F.contains f=true→upd L i f=true)∧(∀ j v,(l.filterMap (·.dst)).contains j=false→At a j v→At b j v) ∧
   (∀ k∈K,upd L i k.1=true→At b k.2.1 k.2.2)∧∃ t E a0,(∀ j,j<l.length→F.contains j=false→upd L i j=E.contains j)∧((cand l F E).all fun i=>(heads t).contains i)=true∧iG l F t E=true∧vv (xs F K) a0 b∧Gn P l.toArray l K (xs F K) J (Q .normal) t a0 u)→Q' .normal b u)→wpList P l.toArray Q' [o] b u:=by
   intro i o ho L b u Q' ⟨hcl,hfr,hj,hout,hkn,t,E,a0,FL,hc,hs,hag,hsp⟩ hL hA yw;have JX:=(aiK.1 ho).1;have up:∀ j,L j=true→upd L i j=true:=fun j hj=>by simp[upd,hj]
   have hcl':∀ j o,l[j]?=some o→upd L i j=true→∀ e∈o.after.toList,Region.binds .any e=true→upd L i e.on=true:=by
    intro j o' hj DA e he hb;by_cases hji:j=i
    ·subst hji;obtain rfl:o=o':=aiN (ho.symm.trans hj);exact up _ (hA e he hb)
    ·have hne:(j == i)=false:=by simpa using hji
     exact up _ (hcl j o' hj (by simpa[upd,hne] using DA) e he hb)
   have jj:∀ (n:Nat) (k:Kn),K[n]?=some k→Bd o k.1→At b k.2.1 k.2.2:=fun n k hk ⟨gr,he,hb⟩=>hkn k (aiP hk) (hA _ he hb)
   have keep:∀ {b':Act} {d:Nat} {v:Value},o.dst=some d→Put b d v b'→(∀ k∈K,k.1=i→k.2.2=v)→(∀ j v,(l.filterMap (·.dst)).contains j=false→At a j v→At b' j v)∧∀ k∈K,upd L i k.1=true→At b' k.2.1 k.2.2:=by
    intro b' d v hd hp hv;constructor
    ·intro j x Tq hx;refine hp.old ?_ (hout j x Tq hx)
     cases e:j == d with
     | false=>rfl
     | true=>
      have e':j=d:=by simpa using e
      rw[e',hin i o d ho hd] at Tq;cases Tq
    ·intro k hk TH;obtain⟨o',ho',hd'⟩:=DB k hk;by_cases hki:k.1=i
     ·rw[hki] at ho';obtain rfl:o=o':=aiN (ho.symm.trans ho');obtain rfl:d=k.2.1:=aiN (hd.symm.trans hd');rw[hv k hk hki];exact hp.now
     ·have hne:(k.1 == i)=false:=by simpa using hki
      refine hp.old ?_ (hkn k hk (by simpa[upd,hne] using TH))
      cases e:k.2.1 == d with
      | false=>rfl
      | true=>
       have e':k.2.1=d:=by simpa using e
       exact absurd (hidx k.1 i o' o d ho' ho (by rw[hd',e']) hd) hki
   cases DC:F.contains i with
   | true=>
    have hj:J u:=by
     rcases hj with hj|hj
     ·exact hj
     ·rw[hj i DC] at hL;cases hL
    obtain⟨k,hk,hki⟩:=List.any_eq_true.1 (aiL.1 hF i (by simpa using DC));have hki:k.1=i:=by simpa using hki
    obtain⟨o',ho',hd'⟩:=DB k hk;rw[hki] at ho';obtain rfl:o=o':=aiN (ho.symm.trans ho');obtain⟨hw,hr⟩:=mo hfl k hk (by rw[hki];exact DC) o (by rw[hki];exact ho) b u hfr hj hout jj
    have ZO:k.2.1<N:=by
     have:=aiL.1 hbd k.2.1 (List.mem_filterMap.2 ⟨o,aiP ho,hd'⟩);simpa using this
    refine kM hw hr hd' hfr ZO fun b' hp=>wpList_nil (yw b' u ?_)
    have hkv:∀ k'∈K,k'.1=i→k'.2.2=k.2.2:=fun k' hk' e=>by
     obtain⟨_,_,_⟩:=DB k' hk';obtain⟨w2,h2⟩:=mo hfl k' hk' (by rw[e];exact DC) o (by rw[e];exact ho) b u hfr hj hout jj;rw[hr] at h2;injection h2 with h2;injection h2 with h2;exact h2.symm
    obtain⟨g1,g2⟩:=keep hd' hp hkv;refine⟨hcl',hp.fr hfr,.inl hj,g1,g2,t,E,a0,fun j hjl FH=>?_,hc,hs,hag.put hp ?_,hsp⟩
    ·have hne:(j == i)=false:=by
      cases e:j == i with
      | false=>rfl
      | true=>
       have e':j=i:=by simpa using e
       rw[e',DC] at FH;cases FH
     rw[← FL j hjl FH];simp[upd,hne]
    ·have:k.2.1∈xs F K:=List.mem_filterMap.2 ⟨k,hk,by rw[hki,DC];rfl⟩;simpa using this
   | false=>
    have hEi:E.contains i=false:=by rw[← FL i JX DC];exact hL
    have hmem:=C_ (F:=F) (E:=E) ho DC hEi fun e he hb=>by
     have hLe:=hA e he hb;have hlt:=jf 0 l fT i o ho e he hb
     cases hFe:F.contains e.on with
     | true=>exact .inl rfl
     | false=>exact .inr (by rw[← FL e.on (by omega) hFe];exact hLe)
    have hh:=aiL.1 hc i hmem
    have fin:∀ a1,Moved K i o b a1→Fr a1 N∧(∀ j v,(l.filterMap (·.dst)).contains j=false→At a j v→At a1 j v)∧∀ k∈K,upd L i k.1=true→At a1 k.2.1 k.2.2:=by
     intro a1 MN;rcases MN with⟨hd,rfl⟩|⟨d,v,hd,hp,hv⟩
     ·refine⟨hfr,hout,fun k hk TH=>?_⟩;obtain⟨o',ho',hd'⟩:=DB k hk;by_cases hki:k.1=i
      ·rw[hki] at ho';obtain rfl:o=o':=aiN (ho.symm.trans ho');rw[hd] at hd';cases hd'
      ·have hne:(k.1 == i)=false:=by simpa using hki
       exact hkn k hk (by simpa[upd,hne] using TH)
     ·obtain⟨g1,g2⟩:=keep hd hp fun k hk e=>by
       obtain⟨n,hn⟩:=List.getElem?_of_mem hk;exact hv n k hn e
      exact⟨hp.fr hfr,g1,g2⟩
    rcases xk hsp hs (j:=i) (by simpa using hh) with⟨t',h1,h2⟩|⟨h1,h2⟩
    ·simp only[iG,aiJ] at h2;refine h1 o ho b hag jj Q' fun a1 w1 hJ1 MN hS=>yw a1 w1 ?_
     have fin:=fin a1 MN;refine⟨hcl',fin.1,.inl hJ1,fin.2.1,fin.2.2,t',i::E,a1,fun j hjl FH=>?_,h2.1.2,h2.2,.refl _ _,hS⟩;simp only[upd,List.contains_cons,FL j hjl FH]
    ·simp only[iG,aiJ] at h2;refine h1 o ho b hag jj Q' fun a1 w1 MN hS=>yw a1 w1 ?_
     have fin:=fin a1 MN;refine⟨hcl',fin.1,.inr fun f hfF=>?_,fin.2.1,fin.2.2,.done,i::E,a1,fun j hjl FH=>?_,h2.1.1.2,h2.1.2,.refl _ _,hS⟩
     ·have h3:=h2.2;rw[ho] at h3;obtain⟨e,he,hb⟩:=List.any_eq_true.1 (aiL.1 h3 f (by simpa using hfF));simp only[aiJ,beq_iff_eq] at hb;exact up f (by rw[← hb.2];exact hA e he hb.1)
     ·simp only[upd,List.contains_cons,FL j hjl FH]
  have all:∀ (r:List Oper) (m:Nat),(∀ i o,r[i]?=some o→l[m+i]?=some o)→om P l.toArray (fun L b u=>(∀ j o,l[j]?=some o→L j=true→∀ e∈o.after.toList,Region.binds .any e=true→L e.on=true)∧Fr b N∧(J u∨∀ f,F.contains f=true→L f=true)∧(∀ j v,(l.filterMap (·.dst)).contains j=false→At a j v→At b j v) ∧
   (∀ k∈K,L k.1=true→At b k.2.1 k.2.2)∧∃ t E a0,(∀ j,j<l.length→F.contains j=false→L j=E.contains j)∧((cand l F E).all fun i=>(heads t).contains i)=true∧iG l F t E=true∧vv (xs F K) a0 b∧Gn P l.toArray l K (xs F K) J (Q .normal) t a0 u) m r:=by
   intro r
   induction r with
   | nil=>intro m _;trivial
   | cons o r ih=>
    intro m h;refine⟨fun L b u Q' hI hL hA hK=>key m o (h 0 o rfl) L b u Q' hI hL hA hK,ih (m+1) fun i o' ho'=>?_⟩;have:=h (i+1) o' (by simpa using ho')
    rwa [show m+1+i=m+(i+1) by omega]
  exact all l 0 fun i o ho=>by simpa using ho
 ·intro L b u ⟨hcl,hfr,hj,hout,hkn,t,E,a0,FL,hc,hs,hag,hsp⟩ hall
  have h:=G2 hsp hs fun j hjl=>by
   cases hF:F.contains j with
   | true=>exact .inl rfl
   | false=>exact .inr (by rw[← FL j hjl hF];exact hall j hjl)
  exact h b hag fun n k hk=>hkn k (aiP hk) (hall k.1 (by
   obtain⟨o,ho,_⟩:=DB k (aiP hk);exact(aiK.1 ho).1))
end
section
variable (P:Program) (fn:Func) (R:Ending→World→Prop) (N:Nat)
theorem hrC(s:Nat)(ty:TypeId)(hr:fn.results=#[.cell s ty]){d:TypeDesc}(hu:P.underlying ty=some d)(hd:(match d with|.struct _|.array _ _=>true|_=>false)=true){n:Nat}(hi:(P.info? ty).map (·.size)=some n)
 (a:Act) (w:World) (l:Slots) (g:Nat) (t:TypeId) (cs:Array Value) (F:Fs a N l) (hv:look s l=some (.pointer (some ⟨g,0,none⟩))) (hW:Whole w g t cs) (hn:Nat.beq n cs.size=true) (hR:R (.returned (.agg cs)) w) (hD:DS.ds=[]:=by rfl):bodyPost P fn R .ret a w:=by
 refine⟨F.fr.defers.trans hD,_,?_,hR⟩;have h:=F.e s hv;have hs:(P.info? ty).map (·.size)=some cs.size:=by rw[hi,aiR hn]
 have h2:a.tmps.getD s undef=.pointer (some ⟨g,0,none⟩):=h;rw[Array.getD_eq_getD_getElem?] at h2;simp[results,hr,h2,asAddr,run_loadVar_row w g t ty cs (0,0) d hW hu hd hs]
end
end Go.Proofs.YtkkmjdceiocnbaaGreatDoor
namespace Go.Proofs.YtkkmjdceiocnbaaGreatDoor
open Go Go.RowKit
variable [DS]
theorem Cm{P:Program}{ops ops':Array Oper}{Q:Exit→Act→World→Prop}{S:Act→World→Prop}{o:Oper}{a:Act}{w:World}(hg:o.guard=none)(hS:∀ a w,S a w→a.defers=DS.ds)(h0:a.defers=DS.ds)
 (h:wpList P ops' (fun e a w=>e=.normal∧S a w) [o] a w) (next:∀ a1 w1,S a1 w1→(∃ v,a1=a.put o.dst v)→Q .normal a1 w1):wpList P ops Q [o] a w:=by
 have hw:∀ ops,Region.wanted o (yielded ops a.tmps)=true:=fun ops=>dN hg
 have hno:¬ LetsOut (fun e a w=>e=Exit.normal∧S a w):=fun⟨_,_,h,_⟩=>by cases h
 unfold wpList at h ⊢;rw[if_pos (hw _)] at h ⊢;rcases h with h|⟨_,h⟩
 case inr=>exact absurd h hno
 refine .inl ?_;unfold Oper.wp at h ⊢;generalize (execOp a.eval o).run P w=r at h ⊢
 match r,h with
 | .ok (.value v) w',h=>exact next _ _ h.2 ⟨_,rfl⟩
 | .ok .skip w',h=>exact next _ _ h.2 ⟨_,rfl⟩
 | .ok (.defer d) w',h=>exact absurd ((hS _ _ h.2).trans h0.symm) (by cases o.dst<;>simp[Act.put])
 | .ok (.enter f args) w',h=>
  refine Calls.mono h fun e w'' h=>?_
  match e,h with
  | .returned v,h=>exact next _ _ h.2 ⟨_,rfl⟩
  | .panicked c,h=>cases h.1
  | .outgrown,h=>exact absurd h hno
 | .ok (.row row args) w',h=>exact Rows.mono h fun v w'' h=>next _ _ h.2 ⟨_,rfl⟩
 | .halt (.panic v) w',h=>cases h.1
def tC:Nat→Slots→List eV
 | _,[]=>[]
 | n,(s,v)::r=>⟨s,n,[],true,v⟩::tC (n+1) r
theorem kG:∀ {S:Slots} {n:Nat} {e:eV},e∈tC n S→∃ i s v,S[i]?=some (s,v)∧e=⟨s,n+i,[],true,v⟩
 | [],_,_,h=>by cases h
 | (s,v)::r,n,e,h=>by
  rcases aiO.1 h with rfl|h
  ·exact⟨0,s,v,rfl,rfl⟩
  ·obtain⟨i,s',v',h1,h2⟩:=kG h;exact⟨i+1,s',v',by simpa using h1,by rw[h2,show n+1+i=n+(i+1) by omega]⟩
def aa3(s:Nat)(o:Oper):Oper:={ o with dst:=some s }
def qP(o:Oper)(S:Slots):Array Oper:=(S.map (fun x=>aa3 x.1 o)++[o]).toArray
section
variable {a:Act} {N:Nat} {l S:Slots} {o:Oper}
theorem wg:(qP o S)[S.length]?=some o:=by
 unfold qP;simp
theorem Nj:jS (tC 0 S) S.length:=by
 refine⟨?_,?_,?_,?_⟩
 ·intro e he;obtain⟨i,s,v,h1,rfl⟩:=kG he;have:=(aiK.1 h1).1;simpa using this
 ·intro e he e' he' hj;obtain⟨i,s,v,h1,rfl⟩:=kG he;obtain⟨i',s',v',h1',rfl⟩:=kG he';obtain rfl:i=i':=by simpa using hj
  rw[h1] at h1';obtain⟨rfl,rfl⟩:=Prod.mk.inj (aiN h1');rfl
 ·intro e he x hx;obtain⟨i,s,v,h1,rfl⟩:=kG he;cases hx
 ·intro e he;obtain⟨i,s,v,h1,rfl⟩:=kG he;simp
theorem S3(hf:Fr a N)(hS:∀ x∈S,At a x.1 x.2)(hl:∀ q v,look q l=some v→At a q v):Inv (qP o S) a N l (tC 0 S) S.length:=by
 refine⟨hf,Nj,?_,?_,fun q v _ h=>hl q v h⟩
 ·intro e he;obtain⟨i,s,v,h1,rfl⟩:=kG he;have hi:=(aiK.1 h1).1;simp only[qP,Nat.zero_add,List.getElem?_toArray];rw[List.getElem?_append_left (by simpa using hi),List.getElem?_map,h1];rfl
 ·intro e he;obtain⟨i,s,v,h1,rfl⟩:=kG he;exact hS (s,v) (aiP h1)
end
def ot:List Kn→Oper→Slots
 | [],_=>[]
 | (j,d,v)::r,o=>bif rX o j then (d,v)::ot r o else ot r o
theorem sW{o:Oper}{x:Nat×Value}:∀ {K:List Kn},x∈ot K o→∃ k∈K,rX o k.1=true∧k.2=x
 | [],h=>by cases h
 | (j,d,v)::r,h=>by
  unfold ot at h
  cases e:rX o j with
  | false=>
   rw[e] at h;obtain⟨k,h1,h2⟩:=sW h;exact⟨k,aiS _ h1,h2⟩
  | true=>
   rw[e] at h;rcases aiO.1 h with rfl|h
   ·exact⟨_,aiT ..,e,rfl⟩
   ·obtain⟨k,h1,h2⟩:=sW h;exact⟨k,aiS _ h1,h2⟩
theorem tE{o:Oper}{j:Nat}(h:rX o j=true):Bd o j:=by
 unfold rX at h;obtain⟨⟨on,gr⟩,h1,h2⟩:=List.any_eq_true.1 h;simp only[aiJ,beq_iff_eq] at h2;obtain⟨h2,rfl⟩:=h2;exact⟨gr,h1,h2⟩
def B_:List Kn→Slots
 | []=>[]
 | (_,d,v)::r=>(d,v)::B_ r
theorem Da{x:Nat×Value}:∀ {K:List Kn},x∈B_ K→∃ k∈K,k.2=x
 | [],h=>by cases h
 | (j,d,v)::r,h=>by
  rcases aiO.1 h with rfl|h
  ·exact⟨_,aiT ..,rfl⟩
  ·obtain⟨k,h1,h2⟩:=Da h;exact⟨k,aiS _ h1,h2⟩
theorem xU{q:Nat}{v:Value}:∀ {l:Slots},look q l=some v→(q,v)∈l
 | [],h=>by cases h
 | (s,u)::r,h=>by
  rw[bT] at h
  cases e:q == s with
  | true=>
   rw[e] at h;obtain rfl:u=v:=aiN h;obtain rfl:q=s:=by simpa using e
   exact aiT ..
  | false=>
   rw[e] at h;exact aiS _ (xU h)
theorem nJ{q:Nat}:∀ {l:Slots},look q l=none→∀ x∈l,x.1≠q
 | [],_,x,hx=>by cases hx
 | (s,u)::r,h,x,hx=>by
  rw[bT] at h
  cases e:q == s with
  | true=>rw[e] at h;cases h
  | false=>
   rw[e] at h;rcases aiO.1 hx with rfl|hx
   ·exact fun h'=>(by simpa using e:q≠s) h'.symm
   ·exact nJ h x hx
theorem MC{o:Option Value}(h:Wj o=true):o=none:=by cases o with|none=>rfl|some v=>cases h
theorem xV{q:Nat}{v:Value}:∀ {l r:Slots},look q (l++r)=some v→look q l=some v∨look q r=some v
 | [],_,h=>.inr h
 | (s,u)::t,r,h=>by
  rw[List.cons_append,bT] at h;rw[bT]
  cases e:q == s with
  | true=>rw[e] at h;exact .inl h
  | false=>
   rw[e] at h;exact xV h
def Y8(B:Nat)(w0:World)(bs:List Bx)(D:TD)(g off:Nat)(k:Value→Prop):Prop:=
 bif D.one' then
  (∃ i,p9 bs i fun b=>match b with|(b,T,cs)=>bif Nat.blt T 9000 then b=g∧p9 cs.toList off k else False)∨(∃ v,(∀ u,aiQ B w0 u→u.cell? ⟨g,off,none⟩=some v)∧k v)
 else
  (∃ i,p9 bs i fun b=>match b with|(b,T,cs)=>bif Nat.blt T 9000 then b=g∧(DJ off cs.toList fun r=>Cy (jI D) r fun l=>k (.agg l.toArray)) else False) ∨
   (∃ cs:List Value,(∀ u,aiQ B w0 u→∀ j v,cs[j]?=some v→u.cell? ⟨g,off+j,none⟩=some v)∧qg cs (jI D) (k (.agg cs.toArray)))
theorem SL{B:Nat}{w0:World}{bs:List Bx}{D:TD}{g off:Nat}{kk:Value→Prop}(h:Y8 B w0 bs D g off kk){ty:TypeId}(hD:jZ Tryz.prog ty D=true):∃ v,kk v∧∀ u,Jm B w0 bs u→∀ (a:Act) (o:Oper) (x:Operand),o.op=.load ty x→a.eval x=.pointer (some ⟨g,off,none⟩)→(execOp a.eval o).run Tryz.prog u=.ok (.value v) u:=by
 unfold Y8 at h
 cases h1:D.one' with
 | true=>
  rw[h1] at h;obtain⟨dd,hu,hd⟩:=Ll hD h1;rcases h with⟨i,h⟩|⟨v,h2,h3⟩
  ·obtain⟨⟨b,T,cs⟩,hb,h⟩:=fL h;obtain⟨hT,rfl,h3⟩:=bA h;obtain⟨v,h4,h5⟩:=fL h3;exact⟨v,h5,fun u J a o x ho hx=>wD ho hx hu (by cases dd<;>first|rfl|cases hd) ((J.b i hb hT).cell off▸by simpa using h4)⟩
  ·exact⟨v,h3,fun u J a o x ho hx=>wD ho hx hu (by cases dd<;>first|rfl|cases hd) (h2 u J.below)⟩
 | false=>
  rw[h1] at h;obtain⟨dd,hu,hd,hs⟩:=vS hD h1;rcases h with⟨i,h⟩|⟨cs,h2,h3⟩
  ·obtain⟨⟨b,T,cs⟩,hb,h⟩:=fL h;obtain⟨hT,rfl,h3⟩:=bA h;obtain⟨h4,h5⟩:=DI h3;obtain⟨h6,h7⟩:=Cx h5;refine⟨_,h7,fun u J a o x ho hx=>?_⟩;refine tF _ ho hx hu (by cases dd<;>first|rfl|cases hd) (hs.trans ?_) (wP (J.b i hb hT) ?_)
   ·rw[List.length_take,Nat.min_eq_left h6]
   ·rw[List.length_take,Nat.min_eq_left h6]
  ·obtain⟨h4,h5⟩:=jc h3;exact⟨_,h5,fun u J a o x ho hx=>tF cs ho hx hu (by cases dd<;>first|rfl|cases hd) (hs.trans (by rw[h4])) (h2 u J.below)⟩
def KE(B:Nat)(w0:World)(l:Slots)(iO:List Bx)(L:List Oper):List Nat→List Kn→(List Kn→Prop)→Prop
 | [],K,f=>f K
 | j::r,K,f=>p9 L j fun o=>match o.guard with
  | some _=>False
  | none=>match o.dst with
   | none=>False
   | some d=>match o.op with
    | .load ty x=>oG l (tC 0 (ot K o)) [] x fun u=>Bh u False fun g off=>zk ty (fun D=>Y8 B w0 iO D g off fun v=>kJ K [(j,d,v)] fun K'=>KE B w0 l iO L r K' f) TT
    | op=>pop l (tC 0 (ot K o)) [] true (fun v=>kJ K [(j,d,v)] fun K'=>KE B w0 l iO L r K' f) op
def XQ(B:Nat)(w0:World)(N:Nat)(l:Slots)(iO:List Bx)(L:List Oper)(K:List Kn)(k:Kn):Prop:=
 ∃ o,L[k.1]?=some o∧o.dst=some k.2.1∧o.guard=none∧∀ (b:Act) (u:World),Fr b N→Jm B w0 iO u→(∀ q v,look q l=some v→At b q v)→(∀ k'∈K,rX o k'.1=true→At b k'.2.1 k'.2.2)→(execOp b.eval o).run Tryz.prog u=.ok (.value k.2.2) u
section
variable {B:Nat} {w0:World} {N:Nat} {l:Slots} {iO:List Bx} {L:List Oper}
theorem AR:∀ {F:List Nat} {K:List Kn} {f:List Kn→Prop},KE B w0 l iO L F K f→∃ K1,f (K++K1)∧K1.map (·.1)=F∧∀ k∈K1,XQ B w0 N l iO L (K++K1) k
 | [],K,f,h=>⟨[],by rw[List.append_nil];unfold KE at h;exact h,rfl,by simp⟩
 | j::r,K,f,h=>by
  unfold KE at h;obtain⟨o,ho,h⟩:=fL h;split at h
  ·exact h.elim
  rename_i hg;split at h
  ·exact h.elim
  rename_i d hd
  have hE:∀ (b:Act),Fr b N→(∀ q v,look q l=some v→At b q v)→(∀ k'∈K,rX o k'.1=true→At b k'.2.1 k'.2.2)→Inv (qP o (ot K o)) b N l (tC 0 (ot K o)) (ot K o).length:=fun b hf hl hk=>S3 hf (fun x hx=>by
   obtain⟨k,h1,h2,rfl⟩:=sW hx;exact hk k h1 h2) hl
  have main:∀ v:Value,(∀ (b:Act) (u:World),Fr b N→Jm B w0 iO u→Inv (qP o (ot K o)) b N l (tC 0 (ot K o)) (ot K o).length→(execOp b.eval o).run Tryz.prog u=.ok (.value v) u)→(kJ K [(j,d,v)] fun K'=>KE B w0 l iO L r K' f)→∃ K1,f (K++K1)∧K1.map (·.1)=j::r∧∀ k∈K1,XQ B w0 N l iO L (K++K1) k:=by
   intro v hv h;obtain⟨K1,h1,h2,h3⟩:=AR (cG h);rw[List.append_assoc] at h1 h3;refine⟨(j,d,v)::K1,h1,by simp[h2],fun k hk=>?_⟩;rcases aiO.1 hk with rfl|hk
   ·exact⟨o,ho,hd,hg,fun b u hf hJ hl hkn=>hv b u hf hJ (hE b hf hl fun k' hk'=>hkn k' (List.mem_append_left _ hk'))⟩
   ·exact h3 k hk
  split at h
  ·rename_i ty x hop;obtain⟨u,h1,h5⟩:=bR h;rcases oH h5 with⟨g,off,rfl,h6⟩|h6
   case inr=>exact h6.elim
   obtain⟨D,hD,h7⟩:=kD h6;obtain⟨v,h2,h3⟩:=SL h7 hD;exact main v (fun b u hf hJ I=>h3 u hJ b o x hop (I.E h1 (by simp))) h2
  ·obtain⟨v,h2,h3⟩:=ES Nj (by simp) h;exact main v (fun b u hf hJ I=>h3 b u o rfl (fun x _ π' v hR hc=>I.E hR hc) rfl) h2
end
def newS:Nat→List eV→Slots→(Slots→Prop)→Prop
 | 0,_,T,f=>f T
 | n+1,⟨s,_,p,t,v⟩::r,T,f=>(match p with
  | []=>(match t with
   | true=>newS n r T fun T'=>f ((s,v)::T')
   | false=>False)
  | _::_=>False)
 | _+1,[],_,_=>False
theorem sV:∀ {n:Nat} {m:List eV} {T:Slots} {f:Slots→Prop},newS n m T f→∃ T',f T'∧∀ x∈T',x∈T∨∃ e∈m,e.t=true∧(e.s,e.v)=x
 | 0,_,T,f,h=>⟨T,h,fun x hx=>.inl hx⟩
 | n+1,⟨s,j,p,t,v⟩::r,T,f,h=>by
  unfold newS at h;split at h
  ·split at h
   ·obtain⟨T',h1,h2⟩:=sV h;refine⟨_,h1,fun x hx=>?_⟩;rcases aiO.1 hx with rfl|hx
    ·exact .inr ⟨_,aiT ..,rfl,rfl⟩
    ·rcases h2 x hx with h3|⟨e,h3,h4⟩
     ·exact .inl h3
     ·exact .inr ⟨e,aiS _ h3,h4⟩
   ·exact h.elim
  ·exact h.elim
 | _+1,[],_,_,h=>h.elim
def RY:List Nat→List Bx→(List Bx→Prop)→Prop
 | [],_,f=>f []
 | i::r,bs,f=>p9 bs i fun b=>RY r bs fun l=>f (b::l)
theorem G3:∀ {kb:List Nat} {bs:List Bx} {f:List Bx→Prop},RY kb bs f→∃ l,f l∧∀ b∈l,b∈bs
 | [],_,_,h=>⟨[],h,by simp⟩
 | i::r,bs,f,h=>by
  obtain⟨b,h1,h2⟩:=fL h;obtain⟨l,h3,h4⟩:=G3 h2;refine⟨_,h3,fun x hx=>?_⟩;rcases aiO.1 hx with rfl|hx
  ·exact aiP h1
  ·exact h4 x hx
def X3:List Bx→List Bx→(List Bx→Prop)→Prop
 | [],acc,f=>f acc
 | b::r,acc,f=>X3 r (b::acc) f
theorem LC:∀ {bs acc:List Bx} {f:List Bx→Prop},X3 bs acc f→∃ l,f l∧∀ b∈l,b∈bs∨b∈acc
 | [],acc,_,h=>⟨acc,h,fun _ h=>.inr h⟩
 | b::r,acc,f,h=>by
  obtain⟨l,h1,h2⟩:=LC (bs:=r) h;refine⟨l,h1,fun x hx=>?_⟩;rcases h2 x hx with h3|h3
  ·exact .inl (aiS _ h3)
  ·rcases aiO.1 h3 with rfl|h3
   ·exact .inl (aiT ..)
   ·exact .inr h3
def R6:List Nat→List Bx→(List Bx→Prop)→Prop
 | [],_,f=>f []
 | i::kb,bs,f=>X3 bs [] fun r=>RY (i::kb) r f
theorem AZ{kb:List Nat}{bs:List Bx}{f:List Bx→Prop}(h:R6 kb bs f):∃ l,f l∧∀ b∈l,b∈bs:=by
 cases kb with
 | nil=>exact⟨[],h,by simp⟩
 | cons i kb=>
  obtain⟨r,h,hr⟩:=LC (show X3 bs [] _ from h);obtain⟨l,h,hl⟩:=G3 h;exact⟨l,h,fun b hb=>(hr b (hl b hb)).elim id fun h=>by cases h⟩
def oN(o:Oper)(T:Slots):Bool:=match o.dst with
 | none=>true
 | some d=>Wj (look d T)
def RV(q:Nat):List Kn→Bool
 | []=>true
 | (_,d,_)::r=>bif Nat.beq q d then false else RV q r
theorem Er{q:Nat}:∀ {K:List Kn},RV q K=true→∀ k∈K,k.2.1≠q
 | [],_,_,h=>by cases h
 | (j,d,v)::r,h,k,hk=>by
  unfold RV at h
  cases e:Nat.beq q d with
  | true=>rw[e] at h;cases h
  | false=>
   rw[e] at h;rcases aiO.1 hk with rfl|hk
   ·intro e';have e':d=q:=e';rw[e',Nat.beq_refl] at e;cases e
   ·exact Er h k hk
def TR(K:List Kn):Slots→Bool
 | []=>true
 | (q,_)::r=>bif RV q K then TR K r else false
theorem FQ{K:List Kn}:∀ {T:Slots},TR K T=true→∀ x∈T,∀ k∈K,k.2.1≠x.1
 | [],_,_,h=>by cases h
 | (q,v)::r,h,x,hx=>by
  unfold TR at h
  cases e:RV q K with
  | false=>rw[e] at h;cases h
  | true=>
   rw[e] at h;rcases aiO.1 hx with rfl|hx
   ·exact Er e
   ·exact FQ h x hx
def SF(j:Nat):List Kn→Bool
 | []=>true
 | (i,_,_)::r=>bif Nat.beq j i then false else SF j r
theorem Fm{j:Nat}:∀ {K:List Kn},SF j K=true→∀ k∈K,k.1≠j
 | [],_,_,h=>by cases h
 | (i,d,v)::r,h,k,hk=>by
  unfold SF at h
  cases e:Nat.beq j i with
  | true=>rw[e] at h;cases h
  | false=>
   rw[e] at h;rcases aiO.1 hk with rfl|hk
   ·intro e';have e':i=j:=e';rw[e',Nat.beq_refl] at e;cases e
   ·exact Fm h k hk
theorem BH{ds:List Nat}:∀ {l:Slots} {f:Slots→Prop},FT ds l f→∃ l',f l'∧∀ x∈l',x∈l
 | [],f,h=>⟨[],h,fun _ h=>h⟩
 | (s,v)::r,f,h=>by
  unfold FT at h
  cases hm:jC s ds with
  | true=>
   rw[hm] at h;obtain⟨l',h1,h2⟩:=BH h;exact⟨l',h1,fun x hx=>aiS _ (h2 x hx)⟩
  | false=>
   rw[hm] at h;obtain⟨l',h1,h2⟩:=BH h;exact⟨_,h1,fun x hx=>(aiO.1 hx).elim (fun e=>e▸aiT ..) fun hx=>aiS _ (h2 x hx)⟩
def Yi(d:Option Nat)(T:Slots)(f:Slots→Prop):Prop:=match d with
 | none=>f T
 | some q=>FT [q] T f
theorem Ng{d:Option Nat}{T:Slots}{f:Slots→Prop}(h:Yi d T f):∃ l',f l'∧∀ x∈l',x∈T:=by
 unfold Yi at h;split at h
 ·exact⟨T,h,fun _ h=>h⟩
 ·exact BH h
def Mb(K:List Kn)(l:Slots):List Nat→(Slots→Prop)→Prop
 | [],f=>f []
 | d::r,f=>match look d l with
  | none=>Mb K l r f
  | some v=>bif RV d K then Mb K l r fun T=>f ((d,v)::T) else Mb K l r f
theorem ug{K:List Kn}{l:Slots}:∀ {ds:List Nat} {f:Slots→Prop},Mb K l ds f→∃ T,f T∧∀ x∈T,look x.1 l=some x.2∧∀ k∈K,k.2.1≠x.1
 | [],f,h=>⟨[],h,fun _ h=>by cases h⟩
 | d::r,f,h=>by
  unfold Mb at h;split at h
  ·exact ug h
  ·rename_i v hv
   cases e:RV d K with
   | false=>rw[e] at h;exact ug h
   | true=>
    rw[e] at h;obtain⟨T,h1,h2⟩:=ug h;refine⟨_,h1,fun x hx=>?_⟩;rcases aiO.1 hx with rfl|hx
    ·exact⟨hv,Er e⟩
    ·exact h2 x hx
def Wf(j:Nat)(v:Value)(p:Prop):List Kn→Prop
 | []=>p
 | (i,_,u)::r=>bif Nat.beq i j then u=v∧Wf j v p r else Wf j v p r
theorem Br{j:Nat}{v:Value}{p:Prop}:∀ {K:List Kn},Wf j v p K→p∧∀ k∈K,k.1=j→k.2.2=v
 | [],h=>⟨h,fun _ h=>by cases h⟩
 | (i,d,u)::r,h=>by
  unfold Wf at h
  cases e:Nat.beq i j with
  | true=>
   rw[e] at h;obtain⟨h1,h2⟩:=Br (K:=r) h.2;exact⟨h1,fun k hk=>(aiO.1 hk).elim (fun e _=>by rw[e];exact h.1) (h2 k)⟩
  | false=>
   rw[e] at h;obtain⟨h1,h2⟩:=Br (K:=r) h;refine⟨h1,fun k hk hkj=>?_⟩;rcases aiO.1 hk with rfl|hk
   ·have hkj:i=j:=hkj;rw[hkj,Nat.beq_refl] at e;cases e
   ·exact h2 k hk hkj
def ZG(s:Nat):Option Nat→Bool
 | none=>false
 | some q=>Nat.beq q s
def UW(K:List Kn)(j:Nat)(d:Option Nat)(p:Prop):Slots→Prop
 | []=>False
 | (s,v)::r=>match r with
  | []=>bif ZG s d then Wf j v p K else False
  | _::_=>False
def X0(B:Nat)(w0:World)(N:Nat)(l:Slots)(L:List Oper)(K:List Kn)(j:Nat)(T:Slots)(bs:List Bx)(rs:List Rw)(w:World)(k:Slots→List Bx→List Rw→World→Prop):Prop:=
 p9 L j fun o=>match o.guard with
  | some _=>False
  | none=>Yi o.dst T fun T1=>bif oN o T1 then bif SF j K then kJ T1 (ot K o) fun S=>sx none B w0 N l o S.length (tC 0 S) bs rs w fun m' bs' rs' w'=>newS (m'.length-S.length) m' T1 fun T'=>bif TR K T' then k T' bs' rs' w' else False else (kJ T1 (ot K o) fun S=>sx none B w0 N l o S.length (tC 0 S) bs rs w fun m' bs' rs' w'=>newS (m'.length-S.length) m' [] fun T'=>UW K j o.dst (k T1 bs' rs' w') T') else False
def UM(B:Nat)(w0:World)(N:Nat)(l:Slots)(L:List Oper)(K:List Kn)(kb:List Nat)(iO:List Bx)(k:Slots→List Bx→List Rw→World→Prop):Tr→Slots→List Bx→List Rw→World→Prop
 | .done,T,bs,rs,w=>kJ (B_ K) l fun r=>kJ T r fun l'=>k l' bs rs w
 | .step j t,T,bs,rs,w=>X0 B w0 N l L K j T bs rs w fun T' bs' rs' w'=>(R6 kb bs' fun b=>b=iO)∧UM B w0 N l L K kb iO k t T' bs' rs' w'
 | .last j,T,bs,rs,w=>X0 B w0 N l L K j T bs rs w fun T' bs' rs' w'=>kJ (B_ K) l fun r=>kJ T' r fun l'=>k l' bs' rs' w'
 | .alt x y,T,bs,rs,w=>UM B w0 N l L K kb iO k x T bs rs w∧UM B w0 N l L K kb iO k y T bs rs w
section
variable {B:Nat} {w0:World} {N:Nat} {l:Slots} {iO:List Bx} {L:List Oper} {K:List Kn} {kb:List Nat} {k:Slots→List Bx→List Rw→World→Prop}
theorem QI{F:List Nat}{q:Nat}(h:∀ k∈K,k.2.1≠q):(xs F K).contains q=false:=by
 cases e:(xs F K).contains q with
 | false=>rfl
 | true=>
  have e:q∈xs F K:=by simpa using e
  unfold xs at e;obtain⟨k,h1,h2⟩:=List.mem_filterMap.1 e;split at h2
  ·exact absurd (aiN h2) (h k h1)
  ·cases h2
structure TI (N:Nat) (l:Slots) (K:List Kn) (T:Slots) (a:Act):Prop where
 fr:Fr a N
 l_:∀ q v,look q l=some v→At a q v
 T_:∀ x∈T,At a x.1 x.2
 K_:∀ x∈T,∀ k∈K,k.2.1≠x.1
variable (rU:∀ q v,look q l=some v→∀ k∈K,k.2.1≠q) (gL:∀ (j:Nat) (o:Oper) (d:Nat),L[j]?=some o→o.dst=some d→look d l=none∧d<N)
include rU in
theorem TI.Rz{F:List Nat}{T:Slots}{a a':Act}(h:TI N l K T a)(hA:vv (xs F K) a a'):TI N l K T a':=
 ⟨hA.fr h.fr,fun q v hq=>hA.old (QI (rU q v hq)) (h.l_ q v hq),fun x hx=>hA.old (QI (h.K_ x hx)) (h.T_ x hx),h.K_⟩
include rU in
theorem TI.end{F:List Nat}{T:Slots}{a a':Act}(h:TI N l K T a)(hA:vv (xs F K) a a')(hk:∀ (n:Nat) (k:Kn),K[n]?=some k→At a' k.2.1 k.2.2):Fs a' N (T++(B_ K++l)):=by
 have h':=h.Rz rU hA;refine⟨h'.fr,fun q v hq=>?_⟩;rcases xV hq with hq|hq
 ·exact h'.T_ _ (xU hq)
 ·rcases xV hq with hq|hq
  ·obtain⟨k,h1,h2⟩:=Da (xU hq);obtain⟨i,hi⟩:=List.getElem?_of_mem h1;have:=hk i k hi
   rwa [h2] at this
  ·exact h'.l_ q v hq
include rU gL in
theorem Lb{F:List Nat}{ops:Array Oper}{Q':Exit→Act→World→Prop}{j:Nat}{T:Slots}{bs:List Bx}{rs:List Rw}{a a':Act}{w:World}{kk:Slots→List Bx→List Rw→World→Prop}(hv:X0 B w0 N l L K j T bs rs w kk)(h:TI N l K T a)(M:aC B w0 w bs rs){o:Oper}(ho:L[j]?=some o)
 (hA:vv (xs F K) a a') (hb:∀ (n:Nat) (k:Kn),K[n]?=some k→Bd o k.1→At a' k.2.1 k.2.2)
 (next:∀ a1 w1 T' bs' rs',TI N l K T' a1→aC B w0 w1 bs' rs'→kk T' bs' rs' w1→Moved K j o a' a1→Q' .normal a1 w1):wpList Tryz.prog ops Q' [o] a' w:=by
 unfold X0 at hv;obtain⟨o',ho',hv⟩:=fL hv;obtain rfl:o'=o:=aiN (ho'.symm.trans ho);split at hv
 ·exact hv.elim
 rename_i hg;obtain⟨T1,hv,Ow⟩:=Ng hv;obtain⟨Tj,hv⟩:=bA hv;have h':=h.Rz rU hA
 have keep:∀ v q u,(∀ d,o'.dst=some d→d≠q)→At a' q u→At (a'.put o'.dst v) q u:=fun v q u hq hu=>by
  cases hd:o'.dst with
  | none=>exact hu
  | some d=>
   refine(lT h'.fr (gL j o' d ho hd).2).old ?_ hu;simpa using fun e=>hq d hd e.symm
 have hT:∀ v,∀ x∈T1,At (a'.put o'.dst v) x.1 x.2:=fun v x hx=>keep v _ _ (fun d hd=>by
  unfold oN at Tj;rw[hd] at Tj;exact fun e=>nJ (MC Tj) x hx e.symm) (h'.T_ x (Ow x hx))
 have hS:∀ x∈T1++ot K o',At a' x.1 x.2:=fun x hx=>by
  rcases aiM.1 hx with hx|hx
  ·exact h'.T_ x (Ow x hx)
  ·obtain⟨k,h1,h2,rfl⟩:=sW hx;obtain⟨i,hi⟩:=List.getElem?_of_mem h1;exact hb i k hi (tE h2)
 have I:Inv (qP o' (T1++ot K o')) a' N l (tC 0 (T1++ot K o')) (T1++ot K o').length:=S3 h'.fr hS h'.l_
 cases Tl:SF j K with
 | false=>
  rw[Tl] at hv;replace hv:=cG hv;refine Cm (ops':=qP o' (T1++ot K o')) (S:=fun a1 w1=>∃ m' bs' rs',Inv (qP o' (T1++ot K o')) a1 N l m' ((T1++ot K o').length+1)∧aC B w0 w1 bs' rs'∧newS (m'.length-(T1++ot K o').length) m' [] fun T'=>UW K j o'.dst (kk T1 bs' rs' w1) T') hg (fun a w ⟨_,_,_,I,_⟩=>I.fr.defers) h'.fr.defers (ld I M wg hv (fun _ h=>by cases h) fun a1 m' bs' rs' w1 I' M' h'=>wpList_nil ⟨rfl,m',bs',rs',I',M',h'⟩) ?_;rintro a1 w1 ⟨m',bs',rs',I',M',hn⟩ ⟨v,rfl⟩;obtain⟨T',h1,h2⟩:=sV hn;unfold UW at h1;split at h1
  ·exact h1.elim
  rename_i s u r;split at h1
  ·obtain⟨h3,h4⟩:=bA h1;obtain⟨h5,h6⟩:=Br h4
   obtain⟨d,hd⟩:∃ d,o'.dst=some d:=by
    cases hd:o'.dst with
    | none=>rw[hd] at h3;cases h3
    | some d=>exact⟨d,rfl⟩
   have hs:d=s:=by rw[hd] at h3;exact aiR h3
   have hat:At (a'.put o'.dst v) s u:=by
    rcases h2 (s,u) (aiT ..) with h7|⟨e,h7,h8,h9⟩
    ·cases h7
    ·have:=I'.at_ e h7;rw[h8] at this;obtain⟨rfl,rfl⟩:=Prod.mk.inj h9;exact this
   have hp:Put a' d v (a'.put o'.dst v):=by rw[hd];exact lT h'.fr (gL j o' d ho hd).2
   have huv:u=v:=by
    have h10:=hp.now;rw[hs] at h10;exact aiN (hat.symm.trans h10)
   refine next _ _ T1 bs' rs' ⟨I'.fr,fun q u hq=>keep v _ _ (fun d hd e=>?_) (h'.l_ q u hq),hT v,fun x hx=>h'.K_ x (Ow x hx)⟩ M' h5 (.some d v hd hp fun n k hk hkj=>(h6 k (aiP hk) hkj).trans huv)
   rw[← e,(gL j o' d ho hd).1] at hq;cases hq
  ·exact h1.elim
 | true=>
 rw[Tl] at hv;replace hv:=cG hv;refine Cm (ops':=qP o' (T1++ot K o')) (S:=fun a1 w1=>∃ m' bs' rs',Inv (qP o' (T1++ot K o')) a1 N l m' ((T1++ot K o').length+1)∧aC B w0 w1 bs' rs'∧newS (m'.length-(T1++ot K o').length) m' T1 fun T'=>bif TR K T' then kk T' bs' rs' w1 else False) hg (fun a w ⟨_,_,_,I,_⟩=>I.fr.defers) h'.fr.defers (ld I M wg hv (fun _ h=>by cases h) fun a1 m' bs' rs' w1 I' M' h'=>wpList_nil ⟨rfl,m',bs',rs',I',M',h'⟩) ?_;rintro a1 w1 ⟨m',bs',rs',I',M',hn⟩ ⟨v,rfl⟩;obtain⟨T',h1,h2⟩:=sV hn;obtain⟨h3,h4⟩:=bA h1;refine next _ _ T' bs' rs' ⟨I'.fr,fun q u hq=>keep v _ _ (fun d hd e=>?_) (h'.l_ q u hq),fun x hx=>?_,FQ h3⟩ M' h4 ?_
 ·rw[← e,(gL j o' d ho hd).1] at hq;cases hq
 ·rcases h2 x hx with h5|⟨e,h5,h6,rfl⟩
  ·exact hT v x h5
  ·have:=I'.at_ e h5
   rwa [h6] at this
 ·cases hd:o'.dst with
  | none=>exact .none hd rfl
  | some d=>
   refine .some d v hd (lT h'.fr (gL j o' d ho hd).2) fun n k hk hkj=>absurd hkj (Fm Tl k (aiP hk))
include rU gL in
theorem AQ{F:List Nat}{ops:Array Oper}{Q:Act→World→Prop}(hQ:∀ a l' bs rs w,Fs a N l'→aC B w0 w bs rs→k l' bs rs w→Q a w):∀ {t:Tr} {T:Slots} {bs:List Bx} {rs:List Rw} {a:Act} {w:World},UM B w0 N l L K kb iO k t T bs rs w→TI N l K T a→aC B w0 w bs rs→Gn Tryz.prog ops L K (xs F K) (Jm B w0 iO) Q t a w
 | .done,T,bs,rs,a,w,hv,h,M=>fun a' hA hk=>hQ a' _ bs rs w (h.end rU hA hk) M (cG (cG hv))
 | .step j t,T,bs,rs,a,w,hv,h,M=>fun o ho a' hA hb Q' hn=>Lb rU gL hv h M ho hA hb fun a1 w1 T' bs' rs' h' M' ⟨h1,h2⟩ mv=>by
  refine hn a1 w1 ⟨M'.below,fun b hbx=>M'.box b ?_⟩ mv (AQ hQ h2 h' M');obtain⟨s,h5,h6⟩:=AZ h1;subst h5;exact h6 b hbx
 | .last j,T,bs,rs,a,w,hv,h,M=>fun o ho a' hA hb Q' hn=>Lb rU gL hv h M ho hA hb fun a1 w1 T' bs' rs' h' M' h1 mv=>hn a1 w1 mv fun a2 WW hk=>hQ a2 _ bs' rs' w1 (h'.end rU WW hk) M' (cG (cG h1))
 | .alt x y,T,bs,rs,a,w,hv,h,M=>⟨AQ hQ hv.1 h M,AQ hQ hv.2 h M⟩
end
def Oy:List Oper→(List Nat→Prop)→Prop
 | [],f=>f []
 | o::r,f=>match o.dst with
  | some d=>Oy r fun s=>f (d::s)
  | none=>Oy r f
theorem yJ:∀ {L:List Oper} {f:List Nat→Prop},Oy L f→f (L.filterMap (·.dst))
 | [],_,h=>h
 | o::r,f,h=>by
  unfold Oy at h;split at h
  ·rename_i d hd;rw[List.filterMap_cons,hd];exact yJ h
  ·rename_i hd;rw[List.filterMap_cons,hd];exact yJ h
def xq(N:Nat)(L:List Oper)(F:List Nat)(t:Tr):Bool:=
 ordered 0 L&&(decide (L.filterMap (·.dst)).Nodup&&(((L.filterMap (·.dst)).all fun s=>Nat.blt s N)&&(((cand L F []).all fun i=>(heads t).contains i)&&iG L F t [])))
def JG(L:List Oper)(F:List Nat):List Kn→Bool
 | []=>true
 | (j,d,_)::r=>bif F.contains j then false else (match L[j]? with
  | none=>false
  | some o=>bif ZG d o.dst then JG L F r else false)
theorem wz{L:List Oper}{F:List Nat}:∀ {K:List Kn},JG L F K=true→(∀ k∈K,∃ o:Oper,L[k.1]?=some o∧o.dst=some k.2.1)∧∀ k∈K,F.contains k.1=false
 | [],_=>⟨fun _ h=>(by cases h),fun _ h=>(by cases h)⟩
 | (j,d,v)::r,h=>by
  unfold JG at h
  cases e:F.contains j with
  | true=>rw[e] at h;cases h
  | false=>
   rw[e] at h
   cases e2:L[j]? with
   | none=>rw[e2] at h;cases h
   | some o=>
    rw[e2] at h
    cases e3:ZG d o.dst with
    | false=>simp only[e3] at h;cases h
    | true=>
     simp only[e3] at h;obtain⟨h1,h2⟩:=wz (K:=r) h;refine⟨fun k hk=>?_,fun k hk=>?_⟩
     ·rcases aiO.1 hk with rfl|hk
      ·refine⟨o,e2,?_⟩
       cases hd:o.dst with
       | none=>rw[hd] at e3;cases e3
       | some q=>rw[hd] at e3;exact congrArg some (aiR e3)
      ·exact h1 k hk
     ·rcases aiO.1 hk with rfl|hk
      ·exact e
      ·exact h2 k hk
theorem spk{X Y:Prop}{KP:PK}{B:Nat}{w0 w:World}{N:Nat}{l:Slots}{bs:List Bx}{rs:List Rw}{ops:Array Oper}{id:Nat}{k:Slots→List Bx→List Rw→World→Prop}(K0:List Kn)(F:List Nat)(t:Tr)(kb:List Nat)(hk0:JG ops.toList F K0=true)(h0:xq N ops.toList F t=true)
 (h:Oy ops.toList fun ds=>FT ds l fun l'=>R6 kb bs fun iO=>KE B w0 l' iO ops.toList F K0 fun K=>Mb K l ds fun T=>∀ w',aiQ w.heap.size w w'→aC B w0 w' bs rs→UM B w0 N l' ops.toList K kb iO k t T bs rs w') :
 X∨Y∨∀ (a:Act) (Q:Exit→Act→World→Prop),Fs a N l→aC B w0 w bs rs→(∀ Pn,KP=some Pn→∀ a' ch w',Fr a' N→Pn ch w'→Q (.panic ch) a' w')→(∀ a' l' bs' rs' w',Fs a' N l'→aC B w0 w' bs' rs'→k l' bs' rs' w'→Q .normal a' w')→(Code.region id ops true).wp Tryz.prog Q a w:=by
 refine .inr (.inr fun a Q Fa M pJ next=>?_);obtain⟨L,rfl⟩:∃ L:List Oper,ops=L.toArray:=⟨ops.toList,by simp⟩;rw[List.toList_toArray] at hk0 h0 h;unfold xq at h0;simp only[aiJ,decide_eq_true_eq] at h0;obtain⟨fT,hnd,hbd,hcd,hsub⟩:=h0;obtain⟨l',h,hl'⟩:=rV (yJ h);obtain⟨iO,h,hJ⟩:=AZ h;obtain⟨K,h,WS,hK⟩:=AR (N:=N) h;obtain⟨hk1,hk2⟩:=wz hk0;obtain⟨T0,h,Nc⟩:=ug h;have hin:∀ (j:Nat) (o:Oper) (d:Nat),L[j]?=some o→o.dst=some d→d∈L.filterMap (·.dst):=fun j o d ho hd=>List.mem_filterMap.2 ⟨o,aiP ho,hd⟩
 have hno:∀ d,d∈L.filterMap (·.dst)→look d l'=none:=fun d hd=>by
  rw[hl',iT.2 hd];rfl
 have hold:∀ q v,look q l'=some v→look q l=some v∧(L.filterMap (·.dst)).contains q=false:=fun q v hq=>by
  rw[hl'] at hq
  cases hm:jC q (L.filterMap (·.dst)) with
  | true=>rw[hm] at hq;cases hq
  | false=>
   rw[hm] at hq;refine⟨hq,?_⟩
   cases hc:(L.filterMap (·.dst)).contains q with
   | false=>rfl
   | true=>
    have:q∈L.filterMap (·.dst):=by simpa using hc
    rw[iT.2 this] at hm;cases hm
 have Q9:∀ k∈K0++K,∃ o:Oper,L[k.1]?=some o∧o.dst=some k.2.1:=fun k hk=>by
  rcases aiM.1 hk with hk|hk
  ·exact hk1 k hk
  ·obtain⟨o,h1,h2,-⟩:=hK k hk;exact⟨o,h1,h2⟩
 have DB:∀ k∈K0++K,k.2.1∈L.filterMap (·.dst):=fun k hk=>by
  obtain⟨o,h1,h2⟩:=Q9 k hk;exact hin _ _ _ h1 h2
 have rU:∀ q v,look q l'=some v→∀ k∈K0++K,k.2.1≠q:=fun q v hq k hk e=>by
  have h1:=hno _ (DB k hk);rw[e,hq] at h1;cases h1
 have gL:∀ (j:Nat) (o:Oper) (d:Nat),L[j]?=some o→o.dst=some d→look d l'=none∧d<N:=fun j o d ho hd=>⟨hno d (hin j o d ho hd),by
  have:=aiL.1 hbd d (hin j o d ho hd);simpa using this⟩
 have Md:=M.keep (w':=w.drew) (Below.refl _ _).drew;refine rZ (K0++K) F t (Jm B w0 iO) (by kernel_rfl) fT ?_ ?_ hnd hbd hcd hsub Fa.fr ?_ ⟨Md.below,fun b hb=>Md.box b ?_⟩ (AQ rU gL (fun a l' bs rs w F M h=>next a l' bs rs w F M h) (h w.drew (Below.refl _ _).drew Md) ⟨Fa.fr,fun q v hq=>Fa.at_ q v (hold q v hq).1,fun x hx=>Fa.at_ _ _ (Nc x hx).1,fun x hx=>(Nc x hx).2⟩ Md)
 ·rw[aiL];intro k hk;obtain⟨o,h1,h2⟩:=Q9 k hk;simp[h1,h2]
 ·rw[aiL];intro i hi;rw[← WS] at hi;obtain⟨k,hk,rfl⟩:=List.mem_map.1 hi;exact List.any_eq_true.2 ⟨k,List.mem_append_right _ hk,by simp⟩
 ·have key:∀ K2:List Kn,(∀ k∈K2,F.contains k.1=true→XQ B w0 N l' iO L (K0++K) k)→pz Tryz.prog L F (K0++K) (Jm B w0 iO) a N K2:=by
   intro K2
   induction K2 with
   | nil=>intro _;trivial
   | cons k r ih=>
    intro h2;refine⟨fun HV o ho b u hf hj hq hb=>?_,ih fun k' hk'=>h2 k' (aiS _ hk')⟩;obtain⟨o',h3,-,h4,h5⟩:=h2 k (aiT ..) HV;obtain rfl:o'=o:=aiN (h3.symm.trans ho)
    exact⟨dN h4,h5 b u hf hj (fun q v hv=>hq q v (hold q v hv).2 (Fa.at_ q v (hold q v hv).1)) fun k' hk' he=>by
     obtain⟨i,hi⟩:=List.getElem?_of_mem hk';exact hb i k' hi (tE he)⟩
  exact key _ fun k hk HV=>(aiM.1 hk).elim (fun h=>by rw[hk2 k h] at HV;cases HV) (hK k)
 ·exact hJ b hb
theorem sp{X Y:Prop}{KP:PK}{B:Nat}{w0 w:World}{N:Nat}{l:Slots}{bs:List Bx}{rs:List Rw}{ops:Array Oper}{id:Nat}{k:Slots→List Bx→List Rw→World→Prop}(F:List Nat)(t:Tr)(kb:List Nat)(h0:xq N ops.toList F t=true)
 (h:Oy ops.toList fun ds=>FT ds l fun l'=>R6 kb bs fun iO=>KE B w0 l' iO ops.toList F [] fun K=>Mb K l ds fun T=>∀ w',aiQ w.heap.size w w'→aC B w0 w' bs rs→UM B w0 N l' ops.toList K kb iO k t T bs rs w') :
 X∨Y∨∀ (a:Act) (Q:Exit→Act→World→Prop),Fs a N l→aC B w0 w bs rs→(∀ Pn,KP=some Pn→∀ a' ch w',Fr a' N→Pn ch w'→Q (.panic ch) a' w')→(∀ a' l' bs' rs' w',Fs a' N l'→aC B w0 w' bs' rs'→k l' bs' rs' w'→Q .normal a' w')→(Code.region id ops true).wp Tryz.prog Q a w:=spk [] F t kb rfl h0 h
end Go.Proofs.YtkkmjdceiocnbaaGreatDoor
namespace Go.Proofs.YtkkmjdceiocnbaaGreatDoor
open Go Go.RowKit
theorem SliceAt.elt{α:Type}{f:α→List Value}{k n i c:Nat}{w:World}{a:Option Addr}{l:List α}{y:α}(h:SliceAt w (.slice a n c) k n (l.flatMap f))(hf:∀ x,(f x).length=k)(hk:0<k)(hy:l[i]?=some y)(hi:i<n):
 ∃ b off,a=some ⟨b,off,none⟩∧∀ j u,(f y)[j]?=some u→w.cell? ⟨b,off+i*k+j,none⟩=some u:=by
 obtain⟨a',c',e,-,-,h2⟩:=SliceAt.form h hk;injection e with e1 e2 e3;subst e1;obtain⟨b,off,hb,h3⟩:=h2 i hi;refine⟨b,off,hb,fun j u hu=>h3 j u ?_⟩;rw[H7 hf hy j (hf y▸(aiK.1 hu).1)];exact hu
theorem aJ.get{w:World}{v:Value}{l:List ByteArray}(h:aJ w v l):∃ a c,v=.slice a l.length c∧l.length≤9223372036854775807∧∀ (i:Nat) s,l[i]?=some s→∃ b off,a=some ⟨b,off,none⟩∧w.cell? ⟨b,off+i*1,none⟩=some (.string s):=by
 obtain⟨a,c,rfl,-,hm,-⟩:=SliceAt.form h (by decide);refine⟨a,c,rfl,hm,fun i s hs=>?_⟩;obtain⟨b,off,e,hc⟩:=SliceAt.elt (f:=aO) h (fun _=>rfl) (by decide) hs (aiK.1 hs).1;exact⟨b,off,e,hc 0 _ rfl⟩
theorem aD.open{w:World}{c0 c1 c2 c3 c4 c5 c6 c7 c8 c9 c10 c11 c12 c13 c14 c15 c16:Value}{p:aA}(h:aD w c0 c1 c2 c3 c4 c5 c6 c7 c8 c9 c10 c11 c12 c13 c14 c15 c16 p):∃ a0 a1 a2 a3 a4 a5 a6 a7 a8 a9 nr mH a12 mF mE og n_ k0 k1 k2 k3 k4 k5 k6 k7 k8 k9 k10 k11 k12 k13 k14 k15 k16,c0=.slice a0 p.classes.length k0∧c1=.slice a1 p.types.length k1∧c2=.slice a2 p.attrs.length k2∧c3=.slice a3 p.roles.length k3∧c4=.slice a4 p.users.length k4∧c5=.slice a5 p.bools.length k5∧c6=.slice a6 p.ay.length k6∧c7=.slice a7 p.cats.length k7∧c8=.slice a8 p.conds.length k8∧c9=.slice a9 p.rules.length k9∧c10=.slice nr p.trans.length k10∧c11=.slice mH p.ak.length k11∧c12=.slice a12 p.ranges.length k12∧c13=.slice mF p.cons.length k13∧c14=.slice mE p.aN.length k14∧c15=.slice og p.files.length k15∧c16=.slice n_ p.asserts.length k16:=by
 obtain⟨a0,k0,e0,-⟩:=au.form h.classes (by decide);obtain⟨a1,k1,e1,-⟩:=au.form h.types (by decide);obtain⟨a2,k2,e2,-⟩:=SliceAt.form h.attrs (by decide);obtain⟨a3,k3,e3,-⟩:=SliceAt.form h.roles (by decide);obtain⟨a4,k4,e4,-⟩:=SliceAt.form h.users (by decide);obtain⟨a5,k5,e5,-⟩:=SliceAt.form h.bools (by decide);obtain⟨a6,k6,e6,-⟩:=aJ.get h.ay;obtain⟨a7,k7,e7,-⟩:=aJ.get h.cats;obtain⟨a8,k8,e8,-⟩:=au.form h.conds (by decide);obtain⟨a9,k9,e9,-⟩:=SliceAt.form h.rules (by decide);obtain⟨nr,k10,e10,-⟩:=SliceAt.form h.trans (by decide);obtain⟨mH,k11,e11,-⟩:=SliceAt.form h.ak (by decide);obtain⟨a12,k12,e12,-⟩:=SliceAt.form h.ranges (by decide);obtain⟨mF,k13,e13,-⟩:=au.form h.cons (by decide);obtain⟨mE,k14,e14,-⟩:=SliceAt.form h.aN (by decide);obtain⟨og,k15,e15,-⟩:=SliceAt.form h.files (by decide);obtain⟨n_,k16,e16,-⟩:=SliceAt.form h.asserts (by decide);exact⟨_,_,_,_,_,_,_,_,_,_,_,_,_,_,_,_,_,_,_,_,_,_,_,_,_,_,_,_,_,_,_,_,_,_,e0,e1,e2,e3,e4,e5,e6,e7,e8,e9,e10,e11,e12,e13,e14,e15,e16⟩
theorem bd{t:TypeId}{parts:Array (Nat×Operand)}{vs:List Value}{cells:Array Value}(h:Tryz.prog.built t ((parts.toList.zip vs).map fun x=>(x.1.1,x.2))=some cells)(a:Act)(w:World)(o:Oper)(ho:o.op=.build t parts)(hv:q6 a (gb (.build t parts)) vs):
 (execOp a.eval o).run Tryz.prog w=.ok (.value (.agg cells)) w:=by
 refine BK ho rfl ?_;rw[← h];congr 1;have h1:vs=(parts.toList.map (·.2)).map a.eval:=(tB hv).symm;rw[h1,Array.toList_map];generalize parts.toList=l
 induction l with
 | nil=>rfl
 | cons x r ih=>simp only[List.map_cons,List.zip_cons_cons,ih]
theorem ri{v M:Int}(h:M=v):Ending.returned (AX [.int .i64 v])=.returned (.int .i64 M):=by rw[h];rfl
theorem rb{v M:Bool}(h:M=v):Ending.returned (AX [.bool v])=.returned (.bool M):=by rw[h];rfl
theorem cP{w:World}{B n:Nat}{u:Value}{xs:List Value}{l:List ByteArray}(h:w.ownsRow B 9 1 u n xs)(hn:n=l.length)(hx:xs=l.flatMap aO):aJ w u l:=by
 subst hn hx;exact SliceAt.iM h fun v hv=>by obtain⟨s,-,hs⟩:=List.mem_flatMap.1 hv;simp only[aO,List.mem_singleton] at hs;subst hs;rfl
theorem i_{α:Type}{f:α→ByteArray}{l:List α}{m:Nat}{y:α}(h:l[m]?=some y):((l.take (m+1)).map f).flatMap aO=((l.take m).map f).flatMap aO++[.string (f y)]:=by
 rw[List.take_add_one,h];simp[aO]
theorem au.elt{α:Type}{k i c:Nat}{R:List Value→α→Prop}{w:World}{a:Option Addr}{l:List α}{y:α}{n:Nat}(h:au k R w (.slice a n c) l)(hk:0<k)(hy:l[i]?=some y):∃ b off x,a=some ⟨b,off,none⟩∧R x y∧∀ j u,x[j]?=some u→w.cell? ⟨b,off+i*k+j,none⟩=some u:=by
 obtain⟨la,lk,e,-,-,hc⟩:=au.form h hk;injection e with e1 e2 e3;subst e1;obtain⟨b,off,x,h1,h2,-,h3⟩:=hc i y hy;exact⟨b,off,x,h1,h2,h3⟩
theorem Rb{op:Op}{ty:TypeId}{xs:List Operand}{vs:List Value}{v:Value}{B:Nat}{w0 w:World}{bs:List Bx}{rs:List Rw}{K:Value→List Bx→List Rw→World→Prop}(M:aC B w0 w bs rs)(hx:∀ (a:Act) (o':Oper),o'.op=op→q6 a xs vs→(execOp a.eval o').run Tryz.prog w=.ok (.value v) w)(h:K v bs rs w):
 ∃ R:Value→World→Prop,(∀ (a:Act) (o':Oper),o'.op=op→o'.type=ty→q6 a xs vs→∃ v w',(execOp a.eval o').run Tryz.prog w=.ok (.value v) w'∧R v w')∧∀ v w',R v w'→∃ bs' rs',aC B w0 w' bs' rs'∧K v bs' rs' w':=
 ⟨fun v' w'=>v'=v∧w'=w,fun a o' ho _ hv=>⟨_,_,hx a o' ho hv,rfl,rfl⟩,fun _ _ ⟨h1,h2⟩=>by subst h1 h2;exact⟨_,_,M,h⟩⟩
theorem Bc{P:Program}{a:Act}{w:World}{o:Oper}{ty yt:TypeId}{x y:Operand}{q r:Nat}(hq:q<4)(hr:r<64)(ho:o.op=.binOp .quo ty x y yt)(hx:a.eval x=.int .i64 ((64*q+r:Nat):Int))(hy:a.eval y=.int .i64 64):(execOp a.eval o).run P w=.ok (.value (.int .i64 (q:Int))) w:=by
 rw[Rg ho hx hy (by decide),Int.tdiv_eq_ediv_of_nonneg (by omega),show((64*q+r:Nat):Int)/64=q by omega,wrap_i64];constructor<;>omega
theorem Lg{x r:Nat}(hx:cW x)(hr:r<64):bits .or .u64 (x:Int) ((2^r:Nat):Int)=((x|||2^r:Nat):Int):=bits_or_u64_nat _ _ hx (AV hr)
theorem R7{P:Program}{a:Act}{w:World}{o:Oper}{ty yt:TypeId}{x y:Operand}{q r:Nat}(hr:r<64)(ho:o.op=.binOp .rem ty x y yt)(hx:a.eval x=.int .i64 ((64*q+r:Nat):Int))(hy:a.eval y=.int .i64 64):(execOp a.eval o).run P w=.ok (.value (.int .i64 (r:Int))) w:=by
 unfold execOp;simp[ho,hx,hy,eqGuard,binOp,Op.intDiv];rw[Int.tmod_eq_emod_of_nonneg (by omega)];omega
theorem VN{P:Program}{a:Act}{w:World}{o:Oper}{ty yt:TypeId}{x y:Operand}{r:Nat}(hr:r<64)(ho:o.op=.binOp .shl ty x y yt)(hx:a.eval x=.int .u64 1)(hy:a.eval y=.int .i64 (r:Int)):(execOp a.eval o).run P w=.ok (.value (.int .u64 ((2^r:Nat):Int))) w:=by
 rw[Nn ho hx hy (by omega) (by simp[IntKind.bits];omega),Int.toNat_natCast,Int.one_mul,wJ hr]
theorem Gj(w:World){q r:Nat}(hq:q<4)(hr:r<64):Calls Tryz.prog 302 #[.int .i64 ((64*q+r:Nat):Int)] w fun e w'=>e=.returned (.int .u64 ((2^r:Nat):Int))∧aiQ w.heap.size w w':=(QC w (64*q+r) (by omega)).mono fun _ _ ⟨h1,h2⟩=>⟨by rw[h1,show(64*q+r)%64=r by omega],h2▸aiQ.refl _ _⟩
theorem qL{n:Int}(h:0≤n∧n<256):∃ q r:Nat,q<4∧r<64∧n=((64*q+r:Nat):Int):=⟨n.toNat/64,n.toNat%64,by omega,by omega,by omega⟩
theorem wO{s:aq}{q r:Nat}(hq:q<4)(hr:r<64):s.with ((64*q+r:Nat):Int)=s.put q (s.word q|||2^r):=by
 unfold aq.with aq.add;rw[if_pos ⟨by omega,by omega⟩,Int.toNat_natCast,show(64*q+r)/64=q by omega,show(64*q+r)%64=r by omega]
theorem R3(w0:World)(s:aq)(hs:s.Ok)(n:Int):Calls Tryz.prog 260 #[.agg #[.int .u64 s.a,.int .u64 s.b,.int .u64 s.c,.int .u64 s.d],.int .i64 n] w0 fun e w'=>e=.returned (.agg #[.int .u64 (s.with n).a,.int .u64 (s.with n).b,.int .u64 (s.with n).c,.int .u64 (s.with n).d])∧aiQ w0.heap.size w0 w':=by
 refine bU [] (fn:=Tryz.f260) Tryz.func260 rfl Tryz.ntmps260 rfl<|fun g1 w1 M1=>ei<|an pG fun g2 w2 M2=>an (fun h=>?_) fun h=>lb 1<|an rfl<|lb 0<|an ⟨rfl,rfl⟩ fun w M=>ei (x:=0)<|an rfl fun M=>⟨?_,M.below⟩
 ·obtain⟨q,r,hq,hr,rfl⟩:=qL (n:=n) (by simpa using h);rw[wO hq hr];clear h;rcases(show q=0∨q=1∨q=2∨q=3 by omega) with rfl|rfl|rfl|rfl
  all_goals
   refine dr (by kernel_rfl)<|ei<|an (fun a w o ho hv=>Bc hq hr ho (aQ hv) (cO hv))<|ei<|an (fun a w o ho hv=>Bc hq hr ho (aQ hv) (cO hv))<|ei<|an ⟨rfl,by decide⟩<|lb 1<|an rfl<|cl<|an (fun w' hb M'=>Gj w' hq hr)<|ei<|an (Lg (by first|exact hs.a|exact hs.b|exact hs.c|exact hs.d) hr)<|ei<|an ⟨rfl,by decide⟩<|fun w3 eu M3=>lb 1<|an ⟨rfl,rfl⟩ fun w4 M4=>lb 1<|an rfl<|lb 0<|an ⟨rfl,rfl⟩ fun w5 M5=>ei (x:=0)<|an rfl fun M=>⟨rfl,M.below⟩
 ·rw[show s.with n=s from if_neg (by intro h2;rw[Bool.and_eq_false_iff,decide_eq_false_iff_not,decide_eq_false_iff_not] at h;omega)]
theorem OU{x r:Nat}(hx:cW x)(hr:r<64):(!decide (bits .and .u64 (x:Int) ((2^r:Nat):Int)=0))=x.testBit r:=by
 rw[bits_and_u64_nat _ _ hx (AV hr)]
 have h:x&&&2^r=if x.testBit r=true then 2^r else 0:=by
  refine Nat.eq_of_testBit_eq fun j=>?_
  rw[Nat.testBit_and,Nat.testBit_two_pow];by_cases e:r=j
  ·subst e;cases hb:x.testBit r<;>simp
  ·cases hb:x.testBit r<;>simp[e]
 rw[h];have:=Nat.two_pow_pos r
 cases x.testBit r with
 | false=>rw[if_neg (by decide)];rfl
 | true=>rw[if_pos rfl,decide_eq_false (by omega)];rfl
theorem z6{s:aq}{q r:Nat}(hq:q<4)(hr:r<64):s.mem ((64*q+r:Nat):Int)=(s.word q).testBit r:=by
 unfold aq.mem aq.has;rw[decide_eq_true ⟨by omega,by omega⟩,Bool.true_and,Int.toNat_natCast,show(64*q+r)/64=q by omega,show(64*q+r)%64=r by omega]
theorem QN(w0:World)(s:aq)(hs:s.Ok)(n:Int):Calls Tryz.prog 265 #[.agg #[.int .u64 s.a,.int .u64 s.b,.int .u64 s.c,.int .u64 s.d],.int .i64 n] w0 fun e w'=>e=.returned (.bool (s.mem n))∧aiQ w0.heap.size w0 w':=by
 by_cases h:0≤n∧n<256
 ·obtain⟨q,r,hq,hr,rfl⟩:=qL h;rw[z6 hq hr];rcases(show q=0∨q=1∨q=2∨q=3 by omega) with rfl|rfl|rfl|rfl
  all_goals
   refine bU [] (fn:=Tryz.f265) Tryz.func265 rfl Tryz.ntmps265 rfl<|fun g1 w1 M1=>dr (by kernel_rfl)<|ei<|an (fun _ a w o ho hv=>Bc hq hr ho (aQ hv) (cO hv))<|ei<|an (fun _=>⟨rfl,by decide⟩)<|lb 0<|an (fun _=>rfl)<|cl<|an (fun _ w' hb M'=>Gj w' hq hr)<|ei<|an (fun _=>rfl)<|fun w3 eu M3=>fun M=>⟨?_,M.below⟩
   rw[decide_eq_true h.1,decide_eq_true h.2];exact congrArg (fun b=>Ending.returned (.bool b)) (OU (by first|exact hs.a|exact hs.b|exact hs.c|exact hs.d) hr)
 ·refine bU [] (fn:=Tryz.f265) Tryz.func265 rfl Tryz.ntmps265 rfl<|fun g1 w1 M1=>dr (by kernel_rfl)<|ei (x:=.int .i64 0)<|an (fun h2=>absurd h (by simpa using h2))<|ei (x:=0)<|an (fun h2=>⟨rfl,by decide⟩)<|lb 0<|an (fun _=>rfl)<|cl (v:=.int .u64 0)<|an (fun h2=>absurd h (by simpa using h2))<|ei<|an (fun _=>rfl)<|fun w3 eu M3=>fun M=>⟨?_,M.below⟩
  rw[show s.mem n=false by unfold aq.mem;rw[decide_eq_false h];rfl]
  have:(decide (0≤n)&&decide (n<256))=false:=by
   rw[Bool.and_eq_false_iff,decide_eq_false_iff_not,decide_eq_false_iff_not];omega
  simp[AX,this]
theorem I8(w0:World)(s:aq)(hs:s.Ok):Calls Tryz.prog 262 #[.agg #[.int .u64 s.a,.int .u64 s.b,.int .u64 s.c,.int .u64 s.d],.int .i64 0] w0 fun e w'=>e=.returned (.agg #[.int .u64 ((s.a&&&(18446744073709551615-1):Nat):Int),.int .u64 s.b,.int .u64 s.c,.int .u64 s.d])∧aiQ w0.heap.size w0 w':=by
 exact bU [] (fn:=Tryz.f262) Tryz.func262 rfl Tryz.ntmps262 rfl<|fun g1 w1 M1=>ei<|an pG fun g2 w2 M2=>an (fun _=>dr (by kernel_rfl)<|ei<|an (fun a w o ho hv=>Bc (q:=0) (r:=0) (by decide) (by decide) ho (aQ hv) (cO hv))<|ei<|an (fun a w o ho hv=>Bc (q:=0) (r:=0) (by decide) (by decide) ho (aQ hv) (cO hv))<|ei<|an ⟨rfl,by decide⟩<|lb 1<|an rfl<|cl<|an (fun w' hb M'=>Gj w' (q:=0) (r:=0) (by decide) (by decide))<|ei<|an (u64_andNot_nat s.a 1 hs.a (by decide))<|ei<|an ⟨rfl,by decide⟩<|fun w3 eu M3=>lb 1<|an ⟨rfl,rfl⟩ fun w4 M4=>lb 1<|an rfl<|lb 0<|an ⟨rfl,rfl⟩ fun w5 M5=>ei (x:=0)<|an rfl fun M=>⟨rfl,M.below⟩) fun h=>by simp at h
theorem Vl(w0:World)(s:aq)(hs:s.Ok)(n:Int):Calls Tryz.prog 329 #[.agg #[.int .u64 s.a,.int .u64 s.b,.int .u64 s.c,.int .u64 s.d],.int .i64 n] w0 fun e w'=>e=.returned (.agg #[.int .u64 (s.with n).a,.int .u64 (s.with n).b,.int .u64 (s.with n).c,.int .u64 (s.with n).d])∧aiQ w0.heap.size w0 w':=by
 by_cases h:0≤n∧n<256
 ·have hin:∀ w:World,Calls Tryz.prog 330 #[.int .i64 n] w fun e w'=>e=.returned (.bool true)∧aiQ w.heap.size w w':=fun w=>(FD w n h.1 h.2).mono fun _ _ ⟨h1,h2⟩=>⟨h1,h2▸aiQ.refl _ _⟩
  obtain⟨q,r,hq,hr,rfl⟩:=qL h;rw[wO hq hr];clear h;rcases(show q=0∨q=1∨q=2∨q=3 by omega) with rfl|rfl|rfl|rfl
  all_goals
   exact bU [] (fn:=Tryz.f329) Tryz.func329 rfl Tryz.ntmps329 rfl<|fun g1 w1 M1=>ei<|an pG fun g2 w2 M2=>cl<|an (hin _) fun w3 M3=>an (fun _=>dr (by kernel_rfl)<|ei<|an (fun a w o ho hv=>Bc hq hr ho (aQ hv) (cO hv))<|ei<|an ⟨rfl,by decide⟩<|lb 1<|an rfl<|ei<|an (fun a w o ho hv=>R7 hr ho (aQ hv) (cO hv))<|ei<|an (fun a w o ho hv=>VN hr ho (aQ hv) (cO hv))<|ei<|an (Lg (by first|exact hs.a|exact hs.b|exact hs.c|exact hs.d) hr)<|ei<|an ⟨rfl,by decide⟩<|fun w3 eu M3=>lb 1<|an ⟨rfl,rfl⟩ fun w4 M4=>lb 1<|an rfl<|lb 0<|an ⟨rfl,rfl⟩ fun w5 M5=>ei (x:=0)<|an rfl fun M=>⟨rfl,M.below⟩) fun h=>by simp at h
 ·have hin:∀ w:World,Calls Tryz.prog 330 #[.int .i64 n] w fun e w'=>e=.returned (.bool false)∧aiQ w.heap.size w w':=fun w=>(if h0:0≤n then JI w n h0 (fun h1=>h ⟨h0,h1⟩) else JH w n h0:Calls Tryz.prog 330 #[.int .i64 n] w (fun e w'=>e=.returned (.bool false)∧w=w')).mono fun _ _ ⟨h1,h2⟩=>⟨h1,h2▸aiQ.refl _ _⟩
  rw[show s.with n=s from if_neg h];exact bU [] (fn:=Tryz.f329) Tryz.func329 rfl Tryz.ntmps329 rfl<|fun g1 w1 M1=>ei<|an pG fun g2 w2 M2=>cl<|an (hin _) fun w3 M3=>an (fun h=>by simp at h) fun _=>lb 1<|an rfl<|lb 0<|an ⟨rfl,rfl⟩ fun w5 M5=>ei (x:=0)<|an rfl fun M=>⟨rfl,M.below⟩
def uK:Nat→aq
 | 0=>aq.zero
 | k+1=>(uK k).with (k:Int)
def aq.all(n:Nat):aq:=uK (min n 256)
theorem wG:∀ k,(uK k).Ok
 | 0=>GQ
 | k+1=>aq.OL (wG k) _
theorem xK(w:World)(n:Nat)(hn:n≤140737488355328):Calls Tryz.prog 153 #[.int .i64 (n:Int)] w fun e w'=>e=.returned (.agg #[.int .u64 (aq.all n).a,.int .u64 (aq.all n).b,.int .u64 (aq.all n).c,.int .u64 (aq.all n).d])∧aiQ w.heap.size w w':=by
 refine bU [] (fn:=Tryz.f153) Tryz.func153 rfl Tryz.ntmps153 rfl<|ei<|an pG fun g1 w1 M1=>ei (x:=.agg #[.int .u64 0,.int .u64 0,.int .u64 0,.int .u64 0])<|an (bd (by kernel_rfl))<|ei<|an pG fun g2 w2 M2=>lb 0<|an ⟨rfl,rfl⟩ fun w3 M3=>lp (ι:=Nat) (fun k=>[(4,.int .i64 (k:Int))]) (fun k=>[(g2,77,#[.int .u64 (uK k).a,.int .u64 (uK k).b,.int .u64 (uK k).c,.int .u64 (uK k).d]),_]) (fun _=>[]) (fun k _=>k≤n∧k≤256) (fun k=>256-k) 0 (an ⟨⟨rfl,trivial⟩,fun M=>⟨M,aiU _,aiU _⟩⟩ ?_)
 intro k w M ⟨hk1,hk2⟩;refine an (fun h=>?_) fun h=>?_
 ·simp only[aiJ,decide_eq_true_eq] at h;exact lb 0<|an rfl<|cl<|an (R3 _ (uK k) (wG k) k) fun w4 M4=>lb 0<|an ⟨rfl,rfl⟩ fun w5 M5=>an (by omega)<|bk (k+1) ⟨rfl,trivial⟩ (fun M=>⟨M,by omega⟩) (by dsimp only;omega)
 ·obtain rfl:k=min n 256:=by
   rw[Bool.and_eq_false_iff,decide_eq_false_iff_not,decide_eq_false_iff_not] at h;omega
  exact lb 0<|an rfl<|lb 1<|an ⟨rfl,rfl⟩ fun w M=>ei (x:=1)<|an rfl fun M=>⟨rfl,M.below⟩
def o_(x y:Nat):Nat:=x&&&(18446744073709551615-y)
theorem tS{x:Nat}(hx:cW x)(y:Nat):cW (o_ x y):=Nat.lt_of_le_of_lt Nat.and_le_left hx
def aq.minus(a b:aq):aq:=⟨o_ a.a b.a,o_ a.b b.b,o_ a.c b.c,o_ a.d b.d⟩
def Pt(m:Nat)(x y:aq)(i:Nat):Nat:=if i<m then o_ (x.word i) (y.word i) else x.word i
theorem Ey(w:World)(a b:aq)(ha:a.Ok)(hb:b.Ok):Calls Tryz.prog 261 #[.agg #[.int .u64 a.a,.int .u64 a.b,.int .u64 a.c,.int .u64 a.d],.agg #[.int .u64 b.a,.int .u64 b.b,.int .u64 b.c,.int .u64 b.d]] w fun e w'=>e=.returned (.agg #[.int .u64 (a.minus b).a,.int .u64 (a.minus b).b,.int .u64 (a.minus b).c,.int .u64 (a.minus b).d])∧aiQ w.heap.size w w':=by
 refine bU [] (fn:=Tryz.f261) Tryz.func261 rfl Tryz.ntmps261 rfl<|fun gx w1 M1=>fun gy w2 M2=>ei<|an pG fun go w3 M3=>lp (ι:=Nat) (fun m=>[(5,.int .i64 (m:Int))]) (fun m=>[(go,77,#[.int .u64 0,.int .u64 0,.int .u64 0,.int .u64 0]),(gy,77,#[.int .u64 b.a,.int .u64 b.b,.int .u64 b.c,.int .u64 b.d]),(gx,77,#[.int .u64 ((Pt m a b 0:Nat):Int),.int .u64 ((Pt m a b 1:Nat):Int),.int .u64 ((Pt m a b 2:Nat):Int),.int .u64 ((Pt m a b 3:Nat):Int)])]) (fun _=>[]) (fun m _=>m≤4) (fun m=>4-m) 0 (an ⟨⟨rfl,trivial⟩,fun M=>⟨M,aiU _⟩⟩ ?_)
 intro m w M hm;refine an (fun h=>?_) fun h=>?_
 ·have hlt:m<4:=by simp at h;omega
  obtain rfl|rfl|rfl|rfl:m=0∨m=1∨m=2∨m=3:=by omega
  all_goals
   refine dr (by kernel_rfl)<|ei<|an ⟨rfl,by decide⟩<|lb 2<|an rfl<|ei<|an ⟨rfl,by decide⟩<|lb 1<|an rfl<|ei<|an (u64_andNot_nat _ _ (by first|exact ha.a|exact ha.b|exact ha.c|exact ha.d) (by first|exact hb.a|exact hb.b|exact hb.c|exact hb.d))<|ei<|an ⟨rfl,by decide⟩<|fun w hb M=>lb 2<|an ⟨rfl,rfl⟩ fun w M=>an (by omega)<|bk _ ⟨rfl,trivial⟩ (fun M=>⟨M.cast rfl rfl,by decide⟩) (by decide)
 obtain rfl:m=4:=by simp at h;omega
 exact lb 2<|an rfl<|lb 0<|an ⟨rfl,rfl⟩ fun w M=>ei (x:=0)<|an rfl fun M=>⟨rfl,M.below⟩
def aq.within(a b:aq):Bool:=decide (a.minus b=aq.zero)
def aq.unit(s:aq):aq:=⟨o_ s.a 1,s.b,s.c,s.d⟩
theorem aq.OT{s:aq}(h:s.Ok):s.unit.Ok:=⟨tS h.a _,h.b,h.c,h.d⟩
theorem zm(w:World)(s:aq)(hs:s.Ok):Calls Tryz.prog 262 #[.agg #[.int .u64 s.a,.int .u64 s.b,.int .u64 s.c,.int .u64 s.d],.int .i64 0] w fun e w'=>e=.returned (.agg #[.int .u64 s.unit.a,.int .u64 s.unit.b,.int .u64 s.unit.c,.int .u64 s.unit.d])∧aiQ w.heap.size w w':=I8 w s hs
theorem g_(t:aq)(W:World):(Op.equalIn 10000 77 (.agg #[.int .u64 t.a,.int .u64 t.b,.int .u64 t.c,.int .u64 t.d]) (.agg #[.int .u64 0,.int .u64 0,.int .u64 0,.int .u64 0])).run Tryz.prog W=.ok (decide (t=aq.zero)) W:=by
 rw[TS];congr 1;obtain⟨a,b,c,d⟩:=t;simp[aq.zero]
theorem pX(w:World)(a b:aq)(ha:a.Ok)(hb:b.Ok):Calls Tryz.prog 154 #[.agg #[.int .u64 a.a,.int .u64 a.b,.int .u64 a.c,.int .u64 a.d],.agg #[.int .u64 b.a,.int .u64 b.b,.int .u64 b.c,.int .u64 b.d]] w fun e w'=>e=.returned (.bool (a.within b))∧aiQ w.heap.size w w':=by
 have HOA:=aiV ha;have HOB:=aiV hb;obtain⟨t,ht⟩:∃ t,t=a.minus b:=⟨_,rfl⟩;have HT:=aiV ht;unfold aq.within;rw[← ht];have hq:∀ W,(Op.equalIn 10000 77 (.agg #[.int .u64 t.a,.int .u64 t.b,.int .u64 t.c,.int .u64 t.d]) (.agg #[.int .u64 0,.int .u64 0,.int .u64 0,.int .u64 0])).run Tryz.prog W=.ok (decide (t=aq.zero)) W:=g_ t;obtain⟨q,ZU⟩:∃ q,q=decide (t=aq.zero):=⟨_,rfl⟩;rw[← ZU];rw[← ZU] at hq;clear ha hb ht ZU;obtain⟨wo,j_⟩:∃ wo,wo=(w.alloc (.cells #[.int .u64 a.a,.int .u64 a.b,.int .u64 a.c,.int .u64 a.d] 77)).alloc (.cells #[.int .u64 b.a,.int .u64 b.b,.int .u64 b.c,.int .u64 b.d] 77):=⟨_,rfl⟩;have HA0:=aiV (show Whole wo w.heap.size 77 #[.int .u64 a.a,.int .u64 a.b,.int .u64 a.c,.int .u64 a.d] by rw[j_];exact(Whole.new w 77 _).alloc _);have HA1:=aiV (show Whole wo (w.heap.size+1) 77 #[.int .u64 b.a,.int .u64 b.b,.int .u64 b.c,.int .u64 b.d] by rw[j_];exact tV w _ _ _);have vu:=aiV (show aiQ w.heap.size w wo by rw[j_];exact((Below.refl _ w).alloc (Nat.le_refl _) _).alloc (by simp) _)
 go_enter Tryz.func154,Tryz.ntmps154
 go_upto_region 1 with(fail)
 rw[← j_];clear j_
 go_wp2_with (first|(refine wpList_load_row rfl 77 _ rfl (w.heap.size) rfl 77 _ (0,0) _ HA0.out Tryz.underlying77 rfl Ls ?_)|(refine wpList_load_row rfl 77 _ rfl (w.heap.size+1) rfl 77 _ (0,0) _ HA1.out Tryz.underlying77 rfl Ls ?_)|(go_at_call 261;go_must (refine(Ey wo a b HOA.out HOB.out).mono ?_;rintro e w1 ⟨rfl,hb1⟩;rw[← HT.out];have HB1:=aiV hb1;clear hb1)))
 go_ret
 exact⟨rfl,vu.out.trans (HB1.out.mono vu.out.size)⟩
theorem au.size{α:Type}{k:Nat}{R:List Value→α→Prop}{w:World}{v:Value}{l:List α}(h:au k R w v l)(hk:0<k):∃ a c,v=.slice a l.length c∧l.length≤c∧l.length≤9223372036854775807:=by
 obtain⟨a,c,h1,h2,h3,-⟩:=h.form hk;exact⟨a,c,h1,h2,h3⟩
theorem dM{w:World}{v:Value}{k n:Nat}{cs:List Value}(h:SliceAt w v k n cs)(hk:0<k):∃ a c,v=.slice a n c∧n≤c∧n≤9223372036854775807:=by
 obtain⟨a,c,h1,h2,h3,-⟩:=h.form hk;exact⟨a,c,h1,h2,h3⟩
theorem aD.f1{w:World}{c0 c1 c2 c3 c4 c5 c6 c7 c8 c9 c10 c11 c12 c13 c14 c15 c16:Value}{p:aA}(h:aD w c0 c1 c2 c3 c4 c5 c6 c7 c8 c9 c10 c11 c12 c13 c14 c15 c16 p):∃ a c,c1=.slice a p.types.length c∧p.types.length≤c∧p.types.length≤9223372036854775807:=au.size h.types (by decide)
theorem aD.f2{w:World}{c0 c1 c2 c3 c4 c5 c6 c7 c8 c9 c10 c11 c12 c13 c14 c15 c16:Value}{p:aA}(h:aD w c0 c1 c2 c3 c4 c5 c6 c7 c8 c9 c10 c11 c12 c13 c14 c15 c16 p):∃ a c,c2=.slice a p.attrs.length c∧p.attrs.length≤c∧p.attrs.length≤9223372036854775807:=dM h.attrs (by decide)
theorem aD.f3{w:World}{c0 c1 c2 c3 c4 c5 c6 c7 c8 c9 c10 c11 c12 c13 c14 c15 c16:Value}{p:aA}(h:aD w c0 c1 c2 c3 c4 c5 c6 c7 c8 c9 c10 c11 c12 c13 c14 c15 c16 p):∃ a c,c3=.slice a p.roles.length c∧p.roles.length≤c∧p.roles.length≤9223372036854775807:=dM h.roles (by decide)
theorem aD.f4{w:World}{c0 c1 c2 c3 c4 c5 c6 c7 c8 c9 c10 c11 c12 c13 c14 c15 c16:Value}{p:aA}(h:aD w c0 c1 c2 c3 c4 c5 c6 c7 c8 c9 c10 c11 c12 c13 c14 c15 c16 p):∃ a c,c4=.slice a p.users.length c∧p.users.length≤c∧p.users.length≤9223372036854775807:=dM h.users (by decide)
theorem aD.f5{w:World}{c0 c1 c2 c3 c4 c5 c6 c7 c8 c9 c10 c11 c12 c13 c14 c15 c16:Value}{p:aA}(h:aD w c0 c1 c2 c3 c4 c5 c6 c7 c8 c9 c10 c11 c12 c13 c14 c15 c16 p):∃ a c,c5=.slice a p.bools.length c∧p.bools.length≤c∧p.bools.length≤9223372036854775807:=dM h.bools (by decide)
theorem aD.f6{w:World}{c0 c1 c2 c3 c4 c5 c6 c7 c8 c9 c10 c11 c12 c13 c14 c15 c16:Value}{p:aA}(h:aD w c0 c1 c2 c3 c4 c5 c6 c7 c8 c9 c10 c11 c12 c13 c14 c15 c16 p):∃ a c,c6=.slice a p.ay.length c∧p.ay.length≤c∧p.ay.length≤9223372036854775807:=dM h.ay (by decide)
theorem aD.f7{w:World}{c0 c1 c2 c3 c4 c5 c6 c7 c8 c9 c10 c11 c12 c13 c14 c15 c16:Value}{p:aA}(h:aD w c0 c1 c2 c3 c4 c5 c6 c7 c8 c9 c10 c11 c12 c13 c14 c15 c16 p):∃ a c,c7=.slice a p.cats.length c∧p.cats.length≤c∧p.cats.length≤9223372036854775807:=dM h.cats (by decide)
theorem aD.f8{w:World}{c0 c1 c2 c3 c4 c5 c6 c7 c8 c9 c10 c11 c12 c13 c14 c15 c16:Value}{p:aA}(h:aD w c0 c1 c2 c3 c4 c5 c6 c7 c8 c9 c10 c11 c12 c13 c14 c15 c16 p):∃ a c,c8=.slice a p.conds.length c∧p.conds.length≤c∧p.conds.length≤9223372036854775807:=au.size h.conds (by decide)
theorem aD.f9{w:World}{c0 c1 c2 c3 c4 c5 c6 c7 c8 c9 c10 c11 c12 c13 c14 c15 c16:Value}{p:aA}(h:aD w c0 c1 c2 c3 c4 c5 c6 c7 c8 c9 c10 c11 c12 c13 c14 c15 c16 p):∃ a c,c9=.slice a p.rules.length c∧p.rules.length≤c∧p.rules.length≤9223372036854775807:=dM h.rules (by decide)
theorem aD.f10{w:World}{c0 c1 c2 c3 c4 c5 c6 c7 c8 c9 c10 c11 c12 c13 c14 c15 c16:Value}{p:aA}(h:aD w c0 c1 c2 c3 c4 c5 c6 c7 c8 c9 c10 c11 c12 c13 c14 c15 c16 p):∃ a c,c10=.slice a p.trans.length c∧p.trans.length≤c∧p.trans.length≤9223372036854775807:=dM h.trans (by decide)
theorem aD.f11{w:World}{c0 c1 c2 c3 c4 c5 c6 c7 c8 c9 c10 c11 c12 c13 c14 c15 c16:Value}{p:aA}(h:aD w c0 c1 c2 c3 c4 c5 c6 c7 c8 c9 c10 c11 c12 c13 c14 c15 c16 p):∃ a c,c11=.slice a p.ak.length c∧p.ak.length≤c∧p.ak.length≤9223372036854775807:=dM h.ak (by decide)
theorem aD.f12{w:World}{c0 c1 c2 c3 c4 c5 c6 c7 c8 c9 c10 c11 c12 c13 c14 c15 c16:Value}{p:aA}(h:aD w c0 c1 c2 c3 c4 c5 c6 c7 c8 c9 c10 c11 c12 c13 c14 c15 c16 p):∃ a c,c12=.slice a p.ranges.length c∧p.ranges.length≤c∧p.ranges.length≤9223372036854775807:=dM h.ranges (by decide)
theorem aD.f13{w:World}{c0 c1 c2 c3 c4 c5 c6 c7 c8 c9 c10 c11 c12 c13 c14 c15 c16:Value}{p:aA}(h:aD w c0 c1 c2 c3 c4 c5 c6 c7 c8 c9 c10 c11 c12 c13 c14 c15 c16 p):∃ a c,c13=.slice a p.cons.length c∧p.cons.length≤c∧p.cons.length≤9223372036854775807:=au.size h.cons (by decide)
theorem aD.f16{w:World}{c0 c1 c2 c3 c4 c5 c6 c7 c8 c9 c10 c11 c12 c13 c14 c15 c16:Value}{p:aA}(h:aD w c0 c1 c2 c3 c4 c5 c6 c7 c8 c9 c10 c11 c12 c13 c14 c15 c16 p):∃ a c,c16=.slice a p.asserts.length c∧p.asserts.length≤c∧p.asserts.length≤9223372036854775807:=dM h.asserts (by decide)
def aE(i n:Int):Bool:=decide (0≤i)&&decide (i<n)
theorem fZ(w:World)(i n:Int):Calls Tryz.prog 162 #[.int .i64 i,.int .i64 n] w fun e w'=>e=.returned (.bool (aE i n))∧w=w':=by
 unfold aE
 cases h:decide (0≤i) with
 | false=>
  go_enter Tryz.func162,Tryz.ntmps162
  go_wp2
  go_ret
  exact⟨rfl,rfl⟩
 | true=>
  go_enter Tryz.func162,Tryz.ntmps162
  go_wp2
  go_ret
  exact⟨rfl,rfl⟩
def kN(a b:jX):Bool:=decide (b.ay≤a.ay)&&decide (o_ b.cats a.cats=0)
theorem tL(w:World)(a b:jX)(ha:a.Ok)(hb:b.Ok):Calls Tryz.prog 158 #[.agg #[.int .i64 a.ay,.int .u64 a.cats],.agg #[.int .i64 b.ay,.int .u64 b.cats]] w fun e w'=>e=.returned (.bool (kN a b))∧aiQ w.heap.size w w':=by
 have hd:(bits .andNot .u64 (b.cats:Int) (a.cats:Int) == 0)=decide (o_ b.cats a.cats=0):=by
  rw[u64_andNot_nat b.cats a.cats hb.cats ha.cats];show(((o_ b.cats a.cats:Nat):Int) == 0)=_;rw[Bool.eq_iff_iff];simp
 have HD:=aiV hd;clear hd ha hb;obtain⟨wo,j_⟩:∃ wo,wo=((w).alloc (.cells #[.int .i64 a.ay,.int .u64 a.cats] 61)).alloc (.cells #[.int .i64 b.ay,.int .u64 b.cats] 61):=⟨_,rfl⟩;have W0:=aiV (show Whole wo w.heap.size 61 #[.int .i64 a.ay,.int .u64 a.cats] by rw[j_];exact((show Whole _ w.heap.size 61 #[.int .i64 a.ay,.int .u64 a.cats] from Whole.new w 61 _).alloc _));have W1:=aiV (show Whole wo (w.heap.size+1) 61 #[.int .i64 b.ay,.int .u64 b.cats] by rw[j_];exact(tV w _ _ _));have vu:=aiV (show aiQ w.heap.size w wo by rw[j_];exact(((Below.refl _ w).alloc (Nat.le_refl _) _).alloc (by simp) _));have ka0:wo.cell? ⟨w.heap.size,0,none⟩=some (.int .i64 a.ay):=W0.out.cell 0;have ka1:wo.cell? ⟨w.heap.size,1,none⟩=some (.int .u64 a.cats):=W0.out.cell 1;have kb0:wo.cell? ⟨w.heap.size+1,0,none⟩=some (.int .i64 b.ay):=W1.out.cell 0;have kb1:wo.cell? ⟨w.heap.size+1,1,none⟩=some (.int .u64 b.cats):=W1.out.cell 1;unfold kN;by_cases h:b.ay≤a.ay
 ·have h1:decide (b.ay≤a.ay)=true:=by simp[h]
  rw[h1]
  go_enter Tryz.func158,Tryz.ntmps158
  go_upto_region 1 with(fail)
  rw[← j_];clear j_
  go_wp2
  go_ret
  exact⟨bw (by rw[← HD.out];rfl),vu.out⟩
 ·have h1:decide (b.ay≤a.ay)=false:=by simp[h]
  rw[h1]
  go_enter Tryz.func158,Tryz.ntmps158
  go_upto_region 1 with(fail)
  rw[← j_];clear j_
  go_wp2
  go_ret
  exact⟨rfl,vu.out⟩
def nQ(n:Nat)(k:Int):Bool:=decide (-(n:Int)≤k)&&decide (k≤(n:Int))
theorem DN(w:World)(c0 c1 c2 c3 c4 c5 c6 c7 c8 c9 c10 c11 c12 c13 c14 c15 c16:Value)(p:aA)(hp:aD w c0 c1 c2 c3 c4 c5 c6 c7 c8 c9 c10 c11 c12 c13 c14 c15 c16 p)(k:Int):Calls Tryz.prog 161 #[.agg #[c0,c1,c2,c3,c4,c5,c6,c7,c8,c9,c10,c11,c12,c13,c14,c15,c16],.int .i64 k] w fun e w'=>e=.returned (.bool (nQ p.conds.length k))∧aiQ w.heap.size w w':=by
 obtain⟨a8,k8,rfl,hk8,hm8⟩:=aD.f8 hp;obtain⟨n8,Z5⟩:∃ n,n=p.conds.length:=⟨_,rfl⟩;have N8:=aiV Z5;rw[← Z5] at hk8 hm8 ⊢;clear Z5;obtain⟨wo,j_⟩:∃ wo,wo=(w).alloc (.cells #[c0,c1,c2,c3,c4,c5,c6,c7,.slice a8 n8 k8,c9,c10,c11,c12,c13,c14,c15,c16] 39):=⟨_,rfl⟩;have W0:=aiV (show Whole wo w.heap.size 39 #[c0,c1,c2,c3,c4,c5,c6,c7,.slice a8 n8 k8,c9,c10,c11,c12,c13,c14,c15,c16] by rw[j_];exact(Whole.new w 39 _));have vu:=aiV (show aiQ w.heap.size w wo by rw[j_];exact((Below.refl _ w).alloc (Nat.le_refl _) _));have kp8:wo.cell? ⟨w.heap.size,8,none⟩=some (.slice a8 n8 k8):=W0.out.cell 8;clear hp;unfold nQ;by_cases h:-(n8:Int)≤k
 ·have h1:decide (-(n8:Int)≤k)=true:=by simp[h]
  rw[h1]
  go_enter Tryz.func161,Tryz.ntmps161
  go_upto_region 1 with(fail)
  rw[← j_];clear j_
  go_wp2
  go_ret
  exact⟨bw (by simp),vu.out⟩
 ·have h1:decide (-(n8:Int)≤k)=false:=by simp[h]
  rw[h1]
  go_enter Tryz.func161,Tryz.ntmps161
  go_upto_region 1 with(fail)
  rw[← j_];clear j_
  go_wp2
  go_ret
  exact⟨bw (by simp),vu.out⟩
def bL(s:ByteArray)(i:Nat):Nat:=if h:i<s.size then (s[i]'h).toNat else 0
theorem gW{s:ByteArray}{i:Nat}(h:i<s.size):(s[i]'h).toNat=bL s i:=by unfold bL;rw[dif_pos h]
theorem mC(s:ByteArray)(i:Nat):bL s i<256:=by
 unfold bL;split
 ·exact UInt8.toNat_lt _
 ·decide
def uI(s:ByteArray)(i:Nat):Bool:=decide ((bL s i:Int)<32)||decide ((126:Int)<bL s i)||decide ((bL s i:Int)=34)
def dQ(s:ByteArray):Bool:=!(eH (uI s) s.size 0)&&decide ((s.size:Int)≤256)
theorem EL(w:World)(s:ByteArray)(hs:cB s):Calls Tryz.prog 268 #[.string s] w fun e w'=>e=.returned (.bool (dQ s))∧w=w':=by
 have hs':s.size≤140737488355328:=hs;obtain⟨n,hn⟩:∃ n,n=s.size:=⟨_,rfl⟩;have HN:=aiV hn;have hnb:n≤140737488355328:=by rw[hn];exact hs'
 unfold dQ;clear hs hs'
 go_enter Tryz.func268,Tryz.ntmps268
 go_wp2_with fail
 go_loopw [3] (fun i wr=>wr=w∧∃ k:Nat,k≤n∧i=.int .i64 k∧Hid (eH (uI s) s.size 0=eH (uI s) (n-k) k)) (fun i _=>n-(intOf i).toNat)
 case atStart=>exact⟨rfl,0,aiU _,rfl,aiV (by rw[hn,Nat.sub_zero])⟩
 case round=>
  obtain⟨rfl,k,hk,rfl,hinv⟩:=hrel;by_cases hlt:k<n
  ·have hks:k<s.size:=by rw[← hn];exact hlt
   obtain⟨x,hx⟩:∃ x,x=bL s k:=⟨_,rfl⟩;have hsx:(s[k]'hks).toNat=x:=by rw[gW hks,hx]
   have MI:x<256:=by rw[hx];exact mC s k
   have MO:0≤(k:Int)∧(k:Int)<s.size:=by omega
   have HX:=aiV hx;clear hx;by_cases h1:(x:Int)<32
   ·have HB:=aiV (show uI s k=true by unfold uI;rw[← HX.out];simp[h1]);have hd1:decide ((x:Int)<32)=true:=by simp[h1]
    go_wp2_with fail
    go_ret
    exact⟨bw (by rw[hinv.out,eG hlt HB.out];rfl),rfl⟩
   ·by_cases h2:(126:Int)<x
    ·have HB:=aiV (show uI s k=true by unfold uI;rw[← HX.out];simp[h2]);have hd1:decide ((x:Int)<32)=false:=by simp;omega
     go_wp2_with fail
     go_ret
     exact⟨bw (by rw[hinv.out,eG hlt HB.out];rfl),rfl⟩
    ·by_cases h3:(x:Int)=34
     ·have HB:=aiV (show uI s k=true by unfold uI;rw[← HX.out];simp[h3])
      go_wp2_with fail
      go_ret
      exact⟨bw (by rw[hinv.out,eG hlt HB.out];rfl),rfl⟩
     ·have HB:=aiV (show uI s k=false by unfold uI;rw[← HX.out];simp[h1,h2,h3])
      go_wp2_with fail
      go_roundw
      case rel=>exact⟨by first|trivial|rfl,k+1,by omega,by go_num,aiV (hinv.out.trans (kE hlt HB.out))⟩
      case measure=>simp[intOf];omega
  ·obtain rfl:k=n:=by omega
   go_wp2_with fail
   go_ret
   exact⟨bw (by rw[hinv.out,jv];rfl),rfl⟩
def iy(x:Nat):Bool:=(decide ((65:Int)≤x)&&decide ((x:Int)≤90))||(decide ((97:Int)≤x)&&decide ((x:Int)≤122))||decide ((x:Int)=95)
def kq(x:Nat):Bool:=decide ((48:Int)≤x)&&decide ((x:Int)≤57)
theorem oL(w:World)(x:Nat):Calls Tryz.prog 307 #[.int .u8 (x:Int)] w fun e w'=>e=.returned (.bool (iy x))∧w=w':=by
 unfold iy;by_cases t0:(65:Int)≤x
 ·have d0:decide ((65:Int)≤x)=true:=by simp;omega
  by_cases t1:(x:Int)≤90
  ·have d1:decide ((x:Int)≤90)=true:=by simp;omega
   have d2:decide ((97:Int)≤x)=false:=by simp;omega
   have d3:decide ((x:Int)≤122)=true:=by simp;omega
   go_enter Tryz.func307,Tryz.ntmps307
   go_wp2
   go_ret
   exact⟨bw (by first|rfl|(simp<;>omega)|(simp[*];done)|(simp;omega)),rfl⟩
  ·have d1:decide ((x:Int)≤90)=false:=by simp;omega
   by_cases t2:(97:Int)≤x
   ·have d2:decide ((97:Int)≤x)=true:=by simp;omega
    by_cases t3:(x:Int)≤122
    ·have d3:decide ((x:Int)≤122)=true:=by simp;omega
     go_enter Tryz.func307,Tryz.ntmps307
     go_wp2
     go_ret
     exact⟨bw (by first|rfl|(simp<;>omega)|(simp[*];done)|(simp;omega)),rfl⟩
    ·have d3:decide ((x:Int)≤122)=false:=by simp;omega
     go_enter Tryz.func307,Tryz.ntmps307
     go_wp2
     go_ret
     exact⟨bw (by first|rfl|(simp<;>omega)|(simp[*];done)|(simp;omega)),rfl⟩
   ·have d2:decide ((97:Int)≤x)=false:=by simp;omega
    have d3:decide ((x:Int)≤122)=true:=by simp;omega
    go_enter Tryz.func307,Tryz.ntmps307
    go_wp2
    go_ret
    exact⟨bw (by first|rfl|(simp<;>omega)|(simp[*];done)|(simp;omega)),rfl⟩
 ·have d0:decide ((65:Int)≤x)=false:=by simp;omega
  have d1:decide ((x:Int)≤90)=true:=by simp;omega
  have d2:decide ((97:Int)≤x)=false:=by simp;omega
  have d3:decide ((x:Int)≤122)=true:=by simp;omega
  go_enter Tryz.func307,Tryz.ntmps307
  go_wp2
  go_ret
  exact⟨bw (by first|rfl|(simp<;>omega)|(simp[*];done)|(simp;omega)),rfl⟩
theorem Ah(w:World)(x:Nat):Calls Tryz.prog 308 #[.int .u8 (x:Int)] w fun e w'=>e=.returned (.bool (kq x))∧w=w':=by
 unfold kq;by_cases t0:(48:Int)≤x
 ·have d0:decide ((48:Int)≤x)=true:=by simp;omega
  go_enter Tryz.func308,Tryz.ntmps308
  go_wp2
  go_ret
  exact⟨bw (by first|rfl|(simp<;>omega)|(simp[*];done)|(simp;omega)),rfl⟩
 ·have d0:decide ((48:Int)≤x)=false:=by simp;omega
  go_enter Tryz.func308,Tryz.ntmps308
  go_wp2
  go_ret
  exact⟨bw (by first|rfl|(simp<;>omega)|(simp[*];done)|(simp;omega)),rfl⟩
def iZ(s ws:ByteArray):Nat→Nat→Nat→Bool
 | 0,_,_=>false
 | k+1,fr,i=>if bL ws i=32 then (if (ws.extract fr i).toList=s.toList∧s.toList.isEmpty=false then true else iZ s ws k (i+1) (i+1)) else iZ s ws k fr (i+1)
def AJ(s ws:ByteArray):Bool:=iZ s ws ws.size 0 0
theorem AK{s ws:ByteArray}{n fr i:Nat}(h:i<n)(hb:bL ws i≠32):iZ s ws (n-i) fr i=iZ s ws (n-(i+1)) fr (i+1):=by
 obtain⟨k,hk⟩:∃ k,n-i=k+1:=⟨n-i-1,by omega⟩;rw[hk,show n-(i+1)=k by omega];exact if_neg hb
theorem Cr{s ws:ByteArray}{n fr i:Nat}(h:i<n)(hb:bL ws i=32)(h1:(ws.extract fr i).toList=s.toList)(h2:s.toList.isEmpty=false):iZ s ws (n-i) fr i=true:=by
 obtain⟨k,hk⟩:∃ k,n-i=k+1:=⟨n-i-1,by omega⟩;rw[hk];exact(if_pos hb).trans (if_pos ⟨h1,h2⟩)
theorem sq{s ws:ByteArray}{n fr i:Nat}(h:i<n)(hb:bL ws i=32)(h1:¬ ((ws.extract fr i).toList=s.toList∧s.toList.isEmpty=false)):iZ s ws (n-i) fr i=iZ s ws (n-(i+1)) (i+1) (i+1):=by
 obtain⟨k,hk⟩:∃ k,n-i=k+1:=⟨n-i-1,by omega⟩;rw[hk,show n-(i+1)=k by omega];exact(if_pos hb).trans (if_neg h1)
theorem Cq(w:World)(s ws:ByteArray)(hs:cB ws):Calls Tryz.prog 269 #[.string s,.string ws] w fun e w'=>e=.returned (.bool (AJ s ws))∧w=w':=by
 have hs':ws.size≤140737488355328:=hs;obtain⟨n,hn⟩:∃ n,n=ws.size:=⟨_,rfl⟩;have HN:=aiV hn;have hnb:n≤140737488355328:=by rw[hn];exact hs'
 unfold AJ;clear hs hs'
 go_enter Tryz.func269,Tryz.ntmps269
 go_wp2_with fail
 go_loopw [5,6] (fun f i wr=>wr=w∧∃ fr k:Nat,fr≤k∧k≤n∧f=.int .i64 fr∧i=.int .i64 k∧Hid (iZ s ws ws.size 0 0=iZ s ws (n-k) fr k)) (fun _ i _=>n-(intOf i).toNat)
 case atStart=>exact⟨rfl,0,0,Nat.le_refl _,aiU _,rfl,rfl,aiV (by rw[hn,Nat.sub_zero])⟩
 case round=>
  obtain⟨rfl,fr,k,hfr,hk,rfl,rfl,hinv⟩:=hrel;by_cases hlt:k<n
  ·have hks:k<ws.size:=by rw[← hn];exact hlt
   obtain⟨x,hx⟩:∃ x,x=bL ws k:=⟨_,rfl⟩;have hsx:(ws[k]'hks).toNat=x:=by rw[gW hks,hx]
   have MI:x<256:=by rw[hx];exact mC ws k
   have MO:0≤(k:Int)∧(k:Int)<ws.size:=by omega
   have HX:=aiV hx;clear hx;by_cases U4:x=32
   ·subst U4;have Kl:=aiV HX.out.symm;have hlt3:0≤(k:Int)∧(k:Int)≤ws.size:=by omega
    have aep:0≤(fr:Int)∧(fr:Int)≤k:=by omega
    by_cases h1:(ws.extract fr k).toList=s.toList
    ·by_cases h2:s.toList.isEmpty=true
     ·have HM:=aiV (sq (fr:=fr) hlt Kl.out (fun h=>by rw[h2] at h;cases h.2));clear HX Kl
      go_wp2_with fail
      go_roundw
      case rel=>exact⟨by first|trivial|rfl,k+1,k+1,Nat.le_refl _,by omega,by go_num,by go_num,aiV (hinv.out.trans HM.out)⟩
      case measure=>simp[intOf];omega
     ·have HM:=aiV (Cr (fr:=fr) hlt Kl.out h1 (Bool.eq_false_iff.2 h2));have h2':s.toList.isEmpty=false:=Bool.eq_false_iff.2 h2;clear h2;clear HX Kl
      go_wp2_with fail
      go_ret
      exact⟨bw (by rw[hinv.out,HM.out]),rfl⟩
    ·have HM:=aiV (sq (fr:=fr) hlt Kl.out (fun h=>h1 h.1));clear HX Kl
     go_wp2_with fail
     go_roundw
     case rel=>exact⟨by first|trivial|rfl,k+1,k+1,Nat.le_refl _,by omega,by go_num,by go_num,aiV (hinv.out.trans HM.out)⟩
     case measure=>simp[intOf];omega
   ·have HM:=aiV (AK (s:=s) (fr:=fr) hlt (by rw[← HX.out];exact U4));clear HX
    go_wp2_with fail
    go_roundw
    case rel=>exact⟨by first|trivial|rfl,fr,k+1,by omega,by omega,rfl,by go_num,aiV (hinv.out.trans HM.out)⟩
    case measure=>simp[intOf];omega
  ·obtain rfl:k=n:=by omega
   go_wp2_with fail
   go_ret
   exact⟨bw (by rw[hinv.out,Nat.sub_self];rfl),rfl⟩
def S0:ByteArray:=⟨#[109,111,100,117,108,101,32,99,108,97,115,115,32,116,121,112,101,32,97,108,105,97,115,32,116,121,112,101,97,116,116,114,105,98,117,116,101,32,97,116,116,114,105,98,117,116,101,32,114,111,108,101,32,116,121,112,101,115,32,114,111,108,101,97,108,108,111,119,32,114,111,108,101,95,116,114,97,110,115,105,116,105,111,110,32,117,115,101,114,32,114,111,108,101,115,32,108,101,118,101,108,32,114,97,110,103,101,32,98,111,111,108,32,116,114,117,101,32,102,97,108,115,101,32,115,101,110,115,105,116,105,118,105,116,121,32,99,97,116,101,103,111,114,121,32,97,108,108,111,119,32,97,117,100,105,116,97,108,108,111,119,32,100,111,110,116,97,117,100,105,116,32,110,101,118,101,114,97,108,108,111,119,32,116,121,112,101,95,116,114,97,110,115,105,116,105,111,110,32,116,121,112,101,95,99,104,97,110,103,101,32,116,121,112,101,95,109,101,109,98,101,114,32,114,97,110,103,101,95,116,114,97,110,115,105,116,105,111,110,32,99,111,110,115,116,114,97,105,110,32,118,97,108,105,100,97,116,101,116,114,97,110,115,32,105,102,32,101,108,115,101,32,111,112,116,105,111,110,97,108,32,114,101,113,117,105,114,101,32,115,105,100,32,102,105,108,101,99,111,110,32,112,101,114,109,105,115,115,105,118,101,32,97,115,115,101,114,116,32,115,101,108,102,32,105,110,32]⟩
theorem SZ:cB S0:=by
 show S0.size≤140737488355328;have:S0.size=327:=by kernel_rfl
 omega
def eZ(s:ByteArray):Bool:=AJ s S0
theorem vf(w:World)(s:ByteArray):Calls Tryz.prog 325 #[.string s] w fun e w'=>e=.returned (.bool (eZ s))∧w=w':=by
 obtain⟨q,hq⟩:∃ q,q=eZ s:=⟨_,rfl⟩;have HQ:=aiV hq;rw[← hq];clear hq
 go_enter Tryz.func325,Tryz.ntmps325
 go_wp2_with (go_at_call 269;go_must (refine(show Calls Tryz.prog 269 _ _ (fun e w'=>e=.returned (.bool q)∧w=w') from by rw[HQ.out];exact Cq w s S0 SZ).mono ?_;rintro e w' ⟨rfl,rfl⟩))
 go_ret
 exact⟨rfl,rfl⟩
def qZ(s:ByteArray)(i:Nat):Bool:=!iy (bL s i)&&(decide (i=0)||!kq (bL s i))
def pF(s:ByteArray):Bool:=!(eH (qZ s) s.size 0)&&(decide ((1:Int)≤(s.size:Int))&&decide ((s.size:Int)≤32))
theorem xT(w:World)(s:ByteArray)(hs:cB s):Calls Tryz.prog 266 #[.string s] w fun e w'=>e=.returned (.bool (pF s))∧w=w':=by
 have hs':s.size≤140737488355328:=hs;obtain⟨n,hn⟩:∃ n,n=s.size:=⟨_,rfl⟩;have HN:=aiV hn;have hnb:n≤140737488355328:=by rw[hn];exact hs'
 unfold pF;clear hs hs'
 go_enter Tryz.func266,Tryz.ntmps266
 go_wp2_with fail
 go_loopw [3] (fun i wr=>wr=w∧∃ k:Nat,k≤n∧i=.int .i64 k∧Hid (eH (qZ s) s.size 0=eH (qZ s) (n-k) k)) (fun i _=>n-(intOf i).toNat)
 case atStart=>exact⟨rfl,0,aiU _,rfl,aiV (by rw[hn,Nat.sub_zero])⟩
 case round=>
  obtain⟨rfl,k,hk,rfl,hinv⟩:=hrel;by_cases hlt:k<n
  ·have hks:k<s.size:=by rw[← hn];exact hlt
   obtain⟨x,hx⟩:∃ x,x=bL s k:=⟨_,rfl⟩;have hsx:(s[k]'hks).toNat=x:=by rw[gW hks,hx]
   have MI:x<256:=by rw[hx];exact mC s k
   have MO:0≤(k:Int)∧(k:Int)<s.size:=by omega
   have HX:=aiV hx;clear hx
   cases hl:iy x with
   | true=>
    have HB:=aiV (show qZ s k=false by unfold qZ;rw[← HX.out,hl];rfl);have HL:=aiV hl;clear hl HX
    go_wp2_with (have hZ:=HL;clear hZ;go_at_call 307;go_must (refine(show Calls Tryz.prog 307 _ _ (fun e w'=>e=.returned (.bool true)∧_=w') from by have h:=oL wr x;rw[HL.out] at h;exact h).mono ?_;rintro e w' ⟨rfl,rfl⟩;clear HL))
    go_roundw
    case rel=>exact⟨by first|trivial|rfl,k+1,by omega,by go_num,aiV (hinv.out.trans (kE hlt HB.out))⟩
    case measure=>simp[intOf];omega
   | false=>
    have HL:=aiV hl;by_cases h0:k=0
    ·subst h0;have HB:=aiV (show qZ s 0=true by unfold qZ;rw[← HX.out,hl];rfl);clear hl HX
     go_wp2_with (have hZ:=HL;clear hZ;go_at_call 307;go_must (refine(show Calls Tryz.prog 307 _ _ (fun e w'=>e=.returned (.bool false)∧_=w') from by have h:=oL wr x;rw[HL.out] at h;exact h).mono ?_;rintro e w' ⟨rfl,rfl⟩;clear HL))
     go_ret
     exact⟨bw (by rw[hinv.out,eG hlt HB.out];rfl),rfl⟩
    ·have Q7:decide ((k:Int)=0)=false:=by simp;omega
     cases hg:kq x with
     | true=>
      have HB:=aiV (show qZ s k=false by unfold qZ;rw[← HX.out,hl,hg];simp[h0]);have UH:=aiV hg;clear hl hg HX
      go_wp2_with (first|(have hZ:=HL;clear hZ;go_at_call 307;go_must (refine(show Calls Tryz.prog 307 _ _ (fun e w'=>e=.returned (.bool false)∧_=w') from by have h:=oL wr x;rw[HL.out] at h;exact h).mono ?_;rintro e w' ⟨rfl,rfl⟩;clear HL))|(have hZ:=UH;clear hZ;go_at_call 308;go_must (refine(show Calls Tryz.prog 308 _ _ (fun e w'=>e=.returned (.bool true)∧_=w') from by have h:=Ah wr x;rw[UH.out] at h;exact h).mono ?_;rintro e w' ⟨rfl,rfl⟩;clear UH)))
      go_roundw
      case rel=>exact⟨by first|trivial|rfl,k+1,by omega,by go_num,aiV (hinv.out.trans (kE hlt HB.out))⟩
      case measure=>simp[intOf];omega
     | false=>
      have HB:=aiV (show qZ s k=true by unfold qZ;rw[← HX.out,hl,hg];simp);have UH:=aiV hg;clear hl hg HX
      go_wp2_with (first|(have hZ:=HL;clear hZ;go_at_call 307;go_must (refine(show Calls Tryz.prog 307 _ _ (fun e w'=>e=.returned (.bool false)∧_=w') from by have h:=oL wr x;rw[HL.out] at h;exact h).mono ?_;rintro e w' ⟨rfl,rfl⟩;clear HL))|(have hZ:=UH;clear hZ;go_at_call 308;go_must (refine(show Calls Tryz.prog 308 _ _ (fun e w'=>e=.returned (.bool false)∧_=w') from by have h:=Ah wr x;rw[UH.out] at h;exact h).mono ?_;rintro e w' ⟨rfl,rfl⟩;clear UH)))
      go_ret
      exact⟨bw (by rw[hinv.out,eG hlt HB.out];rfl),rfl⟩
  ·obtain rfl:k=n:=by omega
   have HF:=aiV hinv.out;clear hinv;by_cases h1:(1:Int)≤(s.size:Int)
   ·have hd1:decide ((1:Int)≤(s.size:Int))=true:=by simp;omega
    go_wp2_with fail
    go_ret
    exact⟨bw (by first|rfl|(rw[HF.out,jv];simp;omega)),rfl⟩
   ·have hd1:decide ((1:Int)≤(s.size:Int))=false:=by simp;omega
    go_wp2_with fail
    go_ret
    exact⟨bw (by first|rfl|(rw[HF.out,jv];simp;omega)),rfl⟩
def qY(s:ByteArray)(i:Nat):Bool:=decide ((bL s i:Int)<33)||decide ((126:Int)<bL s i)||decide ((bL s i:Int)=34)||decide ((bL s i:Int)=47)
def d_(s:ByteArray):Bool:=!(eH (qY s) s.size 0)&&(decide ((1:Int)≤(s.size:Int))&&decide ((s.size:Int)≤32))
theorem Fc(w:World)(s:ByteArray)(hs:cB s):Calls Tryz.prog 163 #[.string s] w fun e w'=>e=.returned (.bool (d_ s))∧w=w':=by
 have hs':s.size≤140737488355328:=hs;obtain⟨n,hn⟩:∃ n,n=s.size:=⟨_,rfl⟩;have HN:=aiV hn;have hnb:n≤140737488355328:=by rw[hn];exact hs'
 unfold d_;clear hs hs'
 go_enter Tryz.func163,Tryz.ntmps163
 go_wp2_with fail
 go_loopw [3] (fun i wr=>wr=w∧∃ k:Nat,k≤n∧i=.int .i64 k∧Hid (eH (qY s) s.size 0=eH (qY s) (n-k) k)) (fun i _=>n-(intOf i).toNat)
 case atStart=>exact⟨rfl,0,aiU _,rfl,aiV (by rw[hn,Nat.sub_zero])⟩
 case round=>
  obtain⟨rfl,k,hk,rfl,hinv⟩:=hrel;by_cases hlt:k<n
  ·have hks:k<s.size:=by rw[← hn];exact hlt
   obtain⟨x,hx⟩:∃ x,x=bL s k:=⟨_,rfl⟩;have hsx:(s[k]'hks).toNat=x:=by rw[gW hks,hx]
   have MI:x<256:=by rw[hx];exact mC s k
   have MO:0≤(k:Int)∧(k:Int)<s.size:=by omega
   have HX:=aiV hx;clear hx;by_cases h1:(x:Int)<33
   ·have HB:=aiV (show qY s k=true by unfold qY;rw[← HX.out];simp[h1]);have hd1:decide ((x:Int)<33)=true:=by simp[h1]
    go_wp2_with fail
    go_ret
    exact⟨bw (by rw[hinv.out,eG hlt HB.out];rfl),rfl⟩
   ·by_cases h2:(126:Int)<x
    ·have HB:=aiV (show qY s k=true by unfold qY;rw[← HX.out];simp[h2]);have hd1:decide ((x:Int)<33)=false:=by simp;omega
     go_wp2_with fail
     go_ret
     exact⟨bw (by rw[hinv.out,eG hlt HB.out];rfl),rfl⟩
    ·by_cases h3:(x:Int)=34
     ·have HB:=aiV (show qY s k=true by unfold qY;rw[← HX.out];simp[h3])
      go_wp2_with fail
      go_ret
      exact⟨bw (by rw[hinv.out,eG hlt HB.out];rfl),rfl⟩
     ·have hd3:decide ((x:Int)=34)=false:=by simp[h3]
      have aeG:((x:Int) == 34)=false:=by simpa using h3
      by_cases h4:(x:Int)=47
      ·have HB:=aiV (show qY s k=true by unfold qY;rw[← HX.out];simp[h4])
       go_wp2_with fail
       go_ret
       exact⟨bw (by rw[hinv.out,eG hlt HB.out];rfl),rfl⟩
      ·have HB:=aiV (show qY s k=false by unfold qY;rw[← HX.out];simp[h1,h2,h3,h4])
       go_wp2_with fail
       go_roundw
       case rel=>exact⟨by first|trivial|rfl,k+1,by omega,by go_num,aiV (hinv.out.trans (kE hlt HB.out))⟩
       case measure=>simp[intOf];omega
  ·obtain rfl:k=n:=by omega
   have HF:=aiV hinv.out;clear hinv;by_cases h1:(1:Int)≤(s.size:Int)
   ·have hd1:decide ((1:Int)≤(s.size:Int))=true:=by simp;omega
    go_wp2_with fail
    go_ret
    exact⟨bw (by first|rfl|(rw[HF.out,jv];simp;omega)),rfl⟩
   ·have hd1:decide ((1:Int)≤(s.size:Int))=false:=by simp;omega
    go_wp2_with fail
    go_ret
    exact⟨bw (by first|rfl|(rw[HF.out,jv];simp;omega)),rfl⟩
def mg(s:ByteArray):Bool:=pF s&&!eZ s
theorem JL(w:World)(s:ByteArray)(hs:cB s):Calls Tryz.prog 301 #[.string s] w fun e w'=>e=.returned (.bool (mg s))∧w=w':=by
 have HS:=aiV hs;clear hs;unfold mg
 cases h1:pF s with
 | false=>
  have H1:=aiV h1;clear h1
  go_enter Tryz.func301,Tryz.ntmps301
  go_wp2_with (have hZ:=H1;clear hZ;go_at_call 266;go_must (refine(show Calls Tryz.prog 266 _ _ (fun e w'=>e=.returned (.bool false)∧_=w') from by have h:=xT w s HS.out;rw[H1.out] at h;exact h).mono ?_;rintro e w' ⟨rfl,rfl⟩;clear H1))
  go_ret
  exact⟨rfl,rfl⟩
 | true=>
  have H1:=aiV h1
  cases h2:eZ s with
  | false=>
   have H2:=aiV h2;clear h1 h2
   go_enter Tryz.func301,Tryz.ntmps301
   go_wp2_with (first|(have hZ:=H1;clear hZ;go_at_call 266;go_must (refine(show Calls Tryz.prog 266 _ _ (fun e w'=>e=.returned (.bool true)∧_=w') from by have h:=xT w s HS.out;rw[H1.out] at h;exact h).mono ?_;rintro e w' ⟨rfl,rfl⟩;clear H1))|(have hZ:=H2;clear hZ;go_at_call 325;go_must (refine(show Calls Tryz.prog 325 _ _ (fun e w'=>e=.returned (.bool false)∧_=w') from by have h:=vf w s;rw[H2.out] at h;exact h).mono ?_;rintro e w' ⟨rfl,rfl⟩;clear H2)))
   go_ret
   exact⟨rfl,rfl⟩
  | true=>
   have H2:=aiV h2;clear h1 h2
   go_enter Tryz.func301,Tryz.ntmps301
   go_wp2_with (first|(have hZ:=H1;clear hZ;go_at_call 266;go_must (refine(show Calls Tryz.prog 266 _ _ (fun e w'=>e=.returned (.bool true)∧_=w') from by have h:=xT w s HS.out;rw[H1.out] at h;exact h).mono ?_;rintro e w' ⟨rfl,rfl⟩;clear H1))|(have hZ:=H2;clear hZ;go_at_call 325;go_must (refine(show Calls Tryz.prog 325 _ _ (fun e w'=>e=.returned (.bool true)∧_=w') from by have h:=vf w s;rw[H2.out] at h;exact h).mono ?_;rintro e w' ⟨rfl,rfl⟩;clear H2)))
   go_ret
   exact⟨rfl,rfl⟩
theorem yh(w:World)(s:ByteArray)(hs:cB s):Calls Tryz.prog 258 #[.string s] w fun e w'=>e=.returned (.bool (mg s))∧w=w':=by
 have HS:=aiV hs;clear hs
 go_enter Tryz.func258,Tryz.ntmps258
 go_wp2_with (go_at_call 301;go_must (refine(JL w s HS.out).mono ?_;rintro e w' ⟨rfl,rfl⟩))
 go_ret
 exact⟨rfl,rfl⟩
theorem kA(x y:ByteArray):(x.toList == y.toList)=decide (x=y):=by
 rw[Bool.eq_iff_iff,decide_eq_true_eq,beq_iff_eq];exact⟨fun h=>by rw[ByteArray.toList_eq,ByteArray.toList_eq] at h;exact ByteArray.ext (Array.toList_inj.1 h),fun h=>by rw[h]⟩
theorem oF{P:Program}{w:World}{t:TypeId}{d:TypeDesc}(h:P.underlying t=some d):(underlying t).run P w=.ok d w:=by
 unfold underlying;simp[Sem.run_bind,h]
theorem BJ{P:Program}{a:Act}{w:World}{o:Oper}{ss tt:TypeId}{x:Operand}{m:Nat}(ho:o.op=.convert ss tt x)(hx:a.eval x=.int .u8 (m:Int))(hs:P.underlying ss=some (.int .u8))(ht:P.underlying tt=some (.int .i32))(hm:m<256):(execOp a.eval o).run P w=.ok (.value (.int .i32 (m:Int))) w:=by
 have hw:IntKind.i32.wrap (m:Int)=m:=by
  simp[IntKind.wrap,IntKind.bits,IntKind.signed];omega
 unfold execOp;simp[ho,hx,convert,Sem.run_bind,Sem.run_pure,oF hs,oF ht,Conv.intToInt,hw]
theorem xS{s:ByteArray}(h:pF s=true):1≤s.size∧s.size≤32∧kq (bL s 0)=false∧∀ i,i<s.size→iy (bL s i)=true∨kq (bL s i)=true:=by
 unfold pF at h;simp only[aiJ,Bool.not_eq_true',decide_eq_true_iff] at h;obtain⟨h1,h2,h3⟩:=h
 have hb:∀ i,i<s.size→qZ s i=false:=fun i hi=>by
  cases e:qZ s i with
  | false=>rfl
  | true=>rw[(j3 _ _).2 ⟨i,aiU _,by omega,e⟩] at h1;cases h1
 have h0:=hb 0 (by omega);refine⟨by omega,by omega,?_,fun i hi=>?_⟩
 ·unfold qZ at h0;have e:iy (bL s 0)=true:=by simpa using h0
  cases hd:kq (bL s 0) with
  | false=>rfl
  | true=>
   unfold kq at hd;unfold iy at e;simp only[aiJ,Bool.or_eq_true,decide_eq_true_iff] at hd e;omega
 ·have:=hb i hi;unfold qZ at this
  cases hl:iy (bL s i) with
  | true=>exact .inl rfl
  | false=>
   rw[hl] at this;right;simp at this;exact this.2
theorem wV(w0:World)(x:Nat):Calls Tryz.prog 335 #[.int .i32 (x:Int)] w0 (fun(r:Ending) (w':World)=>r=.returned (.bool (kq x))∧aiQ w0.heap.size w0 w'):=by
 refine bU [] (fn:=Tryz.f335) Tryz.func335 rfl Tryz.ntmps335 rfl<|fun M=>⟨rb ?_,M.below⟩
 rfl
theorem Cw(w0:World)(x:Nat):Calls Tryz.prog 336 #[.int .i32 (x:Int)] w0 (fun(r:Ending) (w':World)=>r=.returned (.bool (iy x))∧aiQ w0.heap.size w0 w'):=by
 refine bU [] (fn:=Tryz.f336) Tryz.func336 rfl Tryz.ntmps336 rfl<|fun M=>⟨rb ?_,M.below⟩
 unfold iy;congr 1;exact Bool.or_comm _ _
theorem aC.Rq{B:Nat}{w0 w w':World}{bs bs':List Bx}{rs rs':List Rw}(M:aC B w0 w bs rs)(N:aC w.heap.size w w' bs' rs'):aC B w0 w' bs' rs':=
 ⟨M.below.trans (N.below.mono M.big),M.le,fun g cs h=>N.old g cs (M.old g cs h),N.box,fun b hb=>Nat.le_trans M.big (N.lo b hb),N.nd,fun r hr=>vZ (N.row r hr) M.big,N.far,N.tZ⟩
end Go.Proofs.YtkkmjdceiocnbaaGreatDoor

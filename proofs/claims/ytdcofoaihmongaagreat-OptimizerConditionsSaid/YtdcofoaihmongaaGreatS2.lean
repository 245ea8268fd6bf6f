import Derived.ChangeKeysEq
import Derived.Laws.BitsAllLaws
import Derived.Laws.StructEq
import Derived.Test.YtdcofoaihmongaaGreatS1
open Bool renaming and_eq_true→atX,eq_iff_iff→aud
open Go renaming wpList_nil→at5,cell_later→aug,wp_seq_k→auh
open Go.Lib renaming hid→auf
open Go.RowKit renaming Below→at4
open List renaming getElem?_eq_some_iff→atY,all_eq_true→atZ,mem_append→at0,mem_cons→at2,mem_of_getElem?→at3,getElem?_map→at8,mem_cons_of_mem→at9,mem_cons_self→aua,length_take→aub,getElem?_eq_getElem→auc
open Nat renaming eq_of_beq_eq_true→at6,zero_le→aue
open Option.some renaming inj→at1
open Prod.mk renaming inj→at7
set_option maxRecDepth 100000
set_option maxHeartbeats 8000000
namespace Go.Proofs.YtdcofoaihmongaaGreat
open Go Go.RowKit
structure KC (X:List Nat) (a a':Act):Prop where
 fr:∀ {N:Nat},Fr a N→Fr a' N
 old:∀ {j:Nat} {u:Value},X.contains j=false→At a j u→At a' j u
theorem KC.refl(X:List Nat)(a:Act):KC X a a:=⟨fun h=>h,fun _ h=>h⟩
theorem KC.put{X:List Nat}{a a' a2:Act}{s:Nat}{v:Value}(h:KC X a a')(p:Put a' s v a2)(hs:X.contains s=true):KC X a a2:=
 ⟨fun hf=>p.fr (h.fr hf),fun {j u} hj hu=>p.old (by
  cases e:j == s with
  | false=>rfl
  | true=>
   have e':j=s:=by simpa using e
   rw[e',hs] at hj;cases hj) (h.old hj hu)⟩
theorem Fs.agr{X:List Nat}{a a':Act}{N:Nat}{l:Slots}(F:Fs a N l)(h:KC X a a'){l':Slots}(hl:l'.all (fun p=>!X.contains p.1)=true)(hs:Sub l l'):Fs a' N l':=by
 have F':=F.sub hs;refine⟨h.fr F'.fr,fun q v hq=>?_⟩;refine h.old ?_ (F'.at_ q v hq);clear F F' hs
 induction l' with
 | nil=>cases hq
 | cons p r ih=>
  obtain⟨s,u⟩:=p;simp only[List.all_cons,atX] at hl;rw[bI] at hq
  cases e:q == s with
  | true=>
   have e':q=s:=by simpa using e
   rw[e'];simpa using hl.1
  | false=>
   rw[e] at hq;exact ih hl.2 hq
abbrev Kn:=Nat×Nat×Value
def Bd(o:Oper)(k:Nat):Prop:=∃ gr,(⟨k,gr⟩:Edge)∈o.after.toList∧Region.binds .any ⟨k,gr⟩=true
inductive Tr where
 | done
 | step (j:Nat) (t:Tr)
 | last (j:Nat)
 | alt (x y:Tr)
def heads:Tr→List Nat
 | .done=>[]
 | .step j _=>[j]
 | .last j=>[j]
 | .alt x y=>heads x++heads y
inductive Moved (K:List Kn) (j:Nat) (o:Oper) (a a':Act):Prop
 | none:o.dst=none→a'=a→Moved K j o a a'
 | some (d:Nat) (v:Value):o.dst=some d→Put a d v a'→(∀ (n:Nat) (k:Kn),K[n]?=some k→k.1=j→k.2.2=v)→Moved K j o a a'
section
variable (P:Program) (ops:Array Oper) (l:List Oper) (K:List Kn) (X:List Nat) (J:World→Prop) (Q:Act→World→Prop)
def PJ:Tr→Act→World→Prop
 | .done,a,w=>∀ a',KC X a a'→(∀ (n:Nat) (k:Kn),K[n]?=some k→At a' k.2.1 k.2.2)→Q a' w
 | .step j t,a,w=>∀ o,l[j]?=some o→∀ a',KC X a a'→(∀ (n:Nat) (k:Kn),K[n]?=some k→Bd o k.1→At a' k.2.1 k.2.2)→∀ Q':Exit→Act→World→Prop,(∀ a1 w1,J w1→Moved K j o a' a1→PJ t a1 w1→Q' .normal a1 w1)→wpList P ops Q' [o] a' w
 | .last j,a,w=>∀ o,l[j]?=some o→∀ a',KC X a a'→(∀ (n:Nat) (k:Kn),K[n]?=some k→Bd o k.1→At a' k.2.1 k.2.2)→∀ Q':Exit→Act→World→Prop,(∀ a1 w1,Moved K j o a' a1→(∀ a2,KC X a1 a2→(∀ (n:Nat) (k:Kn),K[n]?=some k→At a2 k.2.1 k.2.2)→Q a2 w1)→Q' .normal a1 w1)→wpList P ops Q' [o] a' w
 | .alt x y,a,w=>PJ x a w∧PJ y a w
end
def cand(l:List Oper)(F E:List Nat):List Nat:=(List.range l.length).filter fun j=>!F.contains j&&!E.contains j&&(match l[j]? with|some o=>o.after.toList.all fun e=>!Region.binds .any e||F.contains e.on||E.contains e.on|none=>false)
def oC(l:List Oper)(F:List Nat):Tr→List Nat→Bool
 | .done,E=>(List.range l.length).all fun j=>F.contains j||E.contains j
 | .step j t,E=>!E.contains j&&!F.contains j&&decide (j<l.length)&&((cand l F (j::E)).all fun i=>(heads t).contains i)&&oC l F t (j::E)
 | .last j,E=>!E.contains j&&!F.contains j&&decide (j<l.length)&&((cand l F (j::E)).all fun i=>(heads .done).contains i)&&((List.range l.length).all fun i=>F.contains i||(j::E).contains i)&&(match l[j]? with|some o=>F.all fun f=>o.after.toList.any fun e=>Region.binds .any e&&e.on == f|none=>false)
 | .alt x y,E=>oC l F x E&&oC l F y E
theorem Uu{l:List Oper}{F E:List Nat}{j:Nat}{o:Oper}(hj:l[j]?=some o)(h1:F.contains j=false)(h2:E.contains j=false)(h3:∀ e∈o.after.toList,Region.binds .any e=true→F.contains e.on=true∨E.contains e.on=true):j∈cand l F E:=by
 unfold cand;refine List.mem_filter.2 ⟨List.mem_range.2 (atY.1 hj).1,?_⟩;rw[h1,h2,hj];simp only[Bool.not_false,Bool.true_and,atZ];intro e he
 cases hb:Region.binds .any e with
 | false=>rfl
 | true=>
  rcases h3 e he hb with h|h
  ·rw[h];rfl
  ·rw[h];simp
section
variable {P:Program} {ops:Array Oper} {l:List Oper} {K:List Kn} {X F:List Nat} {J:World→Prop} {Q:Act→World→Prop}
theorem Az:∀ {t:Tr} {E:List Nat} {a:Act} {w:World} {j:Nat},PJ P ops l K X J Q t a w→oC l F t E=true→j∈heads t→(∃ t',PJ P ops l K X J Q (.step j t') a w∧oC l F (.step j t') E=true)∨(PJ P ops l K X J Q (.last j) a w∧oC l F (.last j) E=true)
 | .done,_,_,_,_,_,_,h=>by cases h
 | .step j t,E,a,w,i,h,hs,hi=>by
  obtain rfl:i=j:=by simpa[heads] using hi
  exact .inl ⟨t,h,hs⟩
 | .last j,E,a,w,i,h,hs,hi=>by
  obtain rfl:i=j:=by simpa[heads] using hi
  exact .inr ⟨h,hs⟩
 | .alt x y,E,a,w,i,h,hs,hi=>by
  simp only[oC,atX] at hs;rcases at0.1 hi with hi|hi
  ·exact Az h.1 hs.1 hi
  ·exact Az h.2 hs.2 hi
theorem Ow:∀ {t:Tr} {E:List Nat} {a:Act} {w:World},PJ P ops l K X J Q t a w→oC l F t E=true→(∀ j,j<l.length→F.contains j=true∨E.contains j=true)→PJ P ops l K X J Q .done a w
 | .done,_,_,_,h,_,_=>h
 | .step j t,E,a,w,h,hs,hE=>by
  simp only[oC,atX,decide_eq_true_iff] at hs;obtain⟨⟨⟨⟨h1,h2⟩,h3⟩,_⟩,_⟩:=hs;rcases hE j h3 with h|h
  ·rw[h] at h2;cases h2
  ·rw[h] at h1;cases h1
 | .last j,E,a,w,h,hs,hE=>by
  simp only[oC,atX,decide_eq_true_iff] at hs;obtain⟨⟨⟨⟨⟨h1,h2⟩,h3⟩,_⟩,_⟩,_⟩:=hs;rcases hE j h3 with h|h
  ·rw[h] at h2;cases h2
  ·rw[h] at h1;cases h1
 | .alt x y,E,a,w,h,hs,hE=>by
  simp only[oC,atX] at hs;exact Ow h.1 hs.1 hE
end
def Aa(P:Program)(l:List Oper)(F:List Nat)(K:List Kn)(J:World→Prop)(a:Act)(N:Nat):List Kn→Prop
 | []=>True
 | k::r=>(F.contains k.1=true→∀ o,l[k.1]?=some o→∀ b u,Fr b N→J u→(∀ j v,(l.filterMap (·.dst)).contains j=false→At a j v→At b j v)→(∀ (n:Nat) (k':Kn),K[n]?=some k'→Bd o k'.1→At b k'.2.1 k'.2.2) →
  Region.wanted o (yielded l.toArray b.tmps)=true∧(execOp b.eval o).run P u=.ok (.value k.2.2) u)∧Aa P l F K J a N r
theorem fl{P:Program}{l:List Oper}{K:List Kn}{J:World→Prop}{a:Act}{N:Nat}{k:Kn}{o:Oper}(ho:l[k.1]?=some o) (h:∀ b u,Fr b N→J u→(∀ j v,(l.filterMap (·.dst)).contains j=false→At a j v→At b j v)→(∀ (n:Nat) (k':Kn),K[n]?=some k'→Bd o k'.1→At b k'.2.1 k'.2.2) →
 Region.wanted o (yielded l.toArray b.tmps)=true∧(execOp b.eval o).run P u=.ok (.value k.2.2) u) (F:List Nat):F.contains k.1=true→∀ o,l[k.1]?=some o→∀ b u,Fr b N→J u→(∀ j v,(l.filterMap (·.dst)).contains j=false→At a j v→At b j v)→(∀ (n:Nat) (k':Kn),K[n]?=some k'→Bd o k'.1→At b k'.2.1 k'.2.2) →
 Region.wanted o (yielded l.toArray b.tmps)=true∧(execOp b.eval o).run P u=.ok (.value k.2.2) u:=by
 intro _ o' ho';obtain rfl:o=o':=at1 (ho.symm.trans ho');exact h
theorem tD{P:Program}{l:List Oper}{F:List Nat}{K:List Kn}{J:World→Prop}{a:Act}{N:Nat}:∀ {r:List Kn},Aa P l F K J a N r→∀ k∈r,F.contains k.1=true→∀ o,l[k.1]?=some o→∀ b u,Fr b N→J u→(∀ j v,(l.filterMap (·.dst)).contains j=false→At a j v→At b j v)→(∀ (n:Nat) (k':Kn),K[n]?=some k'→Bd o k'.1→At b k'.2.1 k'.2.2) →
 Region.wanted o (yielded l.toArray b.tmps)=true∧(execOp b.eval o).run P u=.ok (.value k.2.2) u
 | [],_,_,h=>by cases h
 | x::r,h,k,hk=>by
  rcases at2.1 hk with rfl|hk
  ·exact h.1
  ·exact tD h.2 k hk
theorem Us:∀ {l:List Oper},(l.filterMap (·.dst)).Nodup→∀ (i j:Nat) (o o':Oper) (s:Nat),l[i]?=some o→l[j]?=some o'→o.dst=some s→o'.dst=some s→i=j
 | [],_,i,_,_,_,_,h,_,_,_=>by simp at h
 | x::r,hn,i,j,o,o',s,hi,hj,ho,ho'=>by
  have hin:∀ (k:Nat) (o:Oper),r[k]?=some o→o.dst=some s→s∈r.filterMap (·.dst):=fun k o hk hs=>List.mem_filterMap.2 ⟨o,at3 hk,hs⟩
  rw[List.filterMap_cons] at hn
  have hr:(r.filterMap (·.dst)).Nodup:=by
   split at hn
   ·exact hn
   ·exact(List.nodup_cons.1 hn).2
  have hx:x.dst=some s→s∉r.filterMap (·.dst):=fun e=>by
   rw[e] at hn;exact(List.nodup_cons.1 hn).1
  cases i with
  | zero=>
   cases j with
   | zero=>rfl
   | succ j=>
    obtain rfl:x=o:=by simpa using hi
    exact absurd (hin j o' (by simpa using hj) ho') (hx ho)
  | succ i=>
   cases j with
   | zero=>
    obtain rfl:x=o':=by simpa using hj
    exact absurd (hin i o (by simpa using hi) ho) (hx ho')
   | succ j=>rw[Us hr i j o o' s (by simpa using hi) (by simpa using hj) ho ho']
def xs(F:List Nat)(K:List Kn):List Nat:=K.filterMap fun k=>if F.contains k.1 then some k.2.1 else none
theorem aY.swap{B:Nat}{w0 w:World}{b1 b2:Bx}{bs:List Bx}{rs:List Rw}(M:aY B w0 w (b1::b2::bs) rs):aY B w0 w (b2::b1::bs) rs:=by
 have hp:∀ b,b∈b2::b1::bs→b∈b1::b2::bs:=fun b hb=>by
  simp only[at2] at hb ⊢;rcases hb with h|h|h
  ·exact .inr (.inl h)
  ·exact .inl h
  ·exact .inr (.inr h)
 exact⟨M.below,M.le,M.old,fun b hb=>M.box b (hp b hb),fun b hb=>M.lo b (hp b hb),((List.Perm.swap b1 b2 bs).map Prod.fst).symm.nodup_iff.1 M.nd,M.row,fun r hr b hb=>M.far r hr b (hp b hb),M.wv⟩
structure Jm (B:Nat) (w0:World) (bs:List Bx) (u:World):Prop where
 below:at4 B w0 u
 box:∀ b∈bs,vA u b
theorem Jm.b{B:Nat}{w0 u:World}{bs:List Bx}(h:Jm B w0 bs u)(i:Nat){g:Nat}{t:TypeId}{cs:Array Value}(e:bs[i]?=some (g,t,cs))(ht:Nat.blt t 9000=true:=by rfl):Whole u g t cs:=(h.box _ (at3 e)).whole ht
section
variable {P:Program} {Q:Exit→Act→World→Prop}
theorem ED{id:Nat}{l:List Oper}{a:Act}{w:World}{N:Nat}(K:List Kn)(F:List Nat)(t:Tr)(J:World→Prop)
 (hm:P.follows .mixedOrders=true) (eS:ordered 0 l=true) (hK:(K.all fun k=>((l[k.1]?).bind (·.dst)) == some k.2.1)=true) (hF:(F.all fun i=>K.any fun k=>k.1 == i)=true) (hnd:(l.filterMap (·.dst)).Nodup) (hbd:((l.filterMap (·.dst)).all fun s=>Nat.blt s N)=true)
 (ah_:((cand l F []).all fun i=>(heads t).contains i)=true) (hsub:oC l F t []=true)
 (hf:Fr a N) (hfl:Aa P l F K J a N K) (hJ:J w.drew) (hsp:PJ P l.toArray l K (xs F K) J (Q .normal) t a w.drew):(Code.region id l.toArray true).wp P Q a w:=by
 have hidx:=Us hnd
 have hKd:∀ k∈K,∃ o:Oper,l[k.1]?=some o∧o.dst=some k.2.1:=fun k hk=>by
  have h:=atZ.1 hK k hk;have h:(l[k.1]?).bind (·.dst)=some k.2.1:=by simpa using h
  cases e:l[k.1]? with
  | none=>rw[e] at h;cases h
  | some o=>rw[e] at h;exact⟨o,rfl,h⟩
 have hin:∀ (i:Nat) (o:Oper) (s:Nat),l[i]?=some o→o.dst=some s→(l.filterMap (·.dst)).contains s=true:=fun i o s ho hs=>by
  have:s∈l.filterMap (·.dst):=List.mem_filterMap.2 ⟨o,at3 ho,hs⟩;simpa using this
 refine fV hm eS (fun L b u=>(∀ j o,l[j]?=some o→L j=true→∀ e∈o.after.toList,Region.binds .any e=true→L e.on=true)∧Fr b N∧(J u∨∀ f,F.contains f=true→L f=true)∧(∀ j v,(l.filterMap (·.dst)).contains j=false→At a j v→At b j v) ∧
  (∀ k∈K,L k.1=true→At b k.2.1 k.2.2)∧∃ t E a0,(∀ j,j<l.length→F.contains j=false→L j=E.contains j)∧((cand l F E).all fun i=>(heads t).contains i)=true∧oC l F t E=true∧KC (xs F K) a0 b∧PJ P l.toArray l K (xs F K) J (Q .normal) t a0 u) ?_ ?_ ?_
 ·exact⟨fun _ _ _ h=>(by cases h),hf,.inl hJ,fun _ _ _ h=>h,fun _ _ h=>(by cases h),t,[],a,fun _ _ _=>rfl,ah_,hsub,.refl _ _,hsp⟩
 ·have key:∀ (i:Nat) (o:Oper),l[i]?=some o→∀ (L:Nat→Bool) (b:Act) (u:World) (Q':Exit→Act→World→Prop),((∀ j o,l[j]?=some o→L j=true→∀ e∈o.after.toList,Region.binds .any e=true→L e.on=true)∧Fr b N∧(J u∨∀ f,F.contains f=true→L f=true)∧(∀ j v,(l.filterMap (·.dst)).contains j=false→At a j v→At b j v) ∧
   (∀ k∈K,L k.1=true→At b k.2.1 k.2.2)∧∃ t E a0,(∀ j,j<l.length→F.contains j=false→L j=E.contains j)∧((cand l F E).all fun i=>(heads t).contains i)=true∧oC l F t E=true∧KC (xs F K) a0 b∧PJ P l.toArray l K (xs F K) J (Q .normal) t a0 u)→L i=false →
   (∀ e∈o.after.toList,Region.binds .any e=true→L e.on=true) →
   (∀ b u,((∀ j o,l[j]?=some o→upd L i j=true→∀ e∈o.after.toList,Region.binds .any e=true→upd L i e.on=true)∧Fr b N∧(J u∨∀ f,F.contains f=true→upd L i f=true)∧(∀ j v,(l.filterMap (·.dst)).contains j=false→At a j v→At b j v) ∧
   (∀ k∈K,upd L i k.1=true→At b k.2.1 k.2.2)∧∃ t E a0,(∀ j,j<l.length→F.contains j=false→upd L i j=E.contains j)∧((cand l F E).all fun i=>(heads t).contains i)=true∧oC l F t E=true∧KC (xs F K) a0 b∧PJ P l.toArray l K (xs F K) J (Q .normal) t a0 u)→Q' .normal b u)→wpList P l.toArray Q' [o] b u:=by
   intro i o ho L b u Q' ⟨hcl,hfr,hj,hout,hkn,t,E,a0,hLE,hc,hs,hag,hsp⟩ hL hA hNext;have hil:=(atY.1 ho).1;have up:∀ j,L j=true→upd L i j=true:=fun j hj=>by simp[upd,hj]
   have hcl':∀ j o,l[j]?=some o→upd L i j=true→∀ e∈o.after.toList,Region.binds .any e=true→upd L i e.on=true:=by
    intro j o' hj uN e he hb;by_cases hji:j=i
    ·subst hji;obtain rfl:o=o':=at1 (ho.symm.trans hj);exact up _ (hA e he hb)
    ·have hne:(j == i)=false:=by simpa using hji
     exact up _ (hcl j o' hj (by simpa[upd,hne] using uN) e he hb)
   have jZ:∀ (n:Nat) (k:Kn),K[n]?=some k→Bd o k.1→At b k.2.1 k.2.2:=fun n k hk ⟨gr,he,hb⟩=>hkn k (at3 hk) (hA _ he hb)
   have keep:∀ {b':Act} {d:Nat} {v:Value},o.dst=some d→Put b d v b'→(∀ k∈K,k.1=i→k.2.2=v)→(∀ j v,(l.filterMap (·.dst)).contains j=false→At a j v→At b' j v)∧∀ k∈K,upd L i k.1=true→At b' k.2.1 k.2.2:=by
    intro b' d v hd hp hv;constructor
    ·intro j x Vc hx;refine hp.old ?_ (hout j x Vc hx)
     cases e:j == d with
     | false=>rfl
     | true=>
      have e':j=d:=by simpa using e
      rw[e',hin i o d ho hd] at Vc;cases Vc
    ·intro k hk hLk;obtain⟨o',ho',hd'⟩:=hKd k hk;by_cases hki:k.1=i
     ·rw[hki] at ho';obtain rfl:o=o':=at1 (ho.symm.trans ho');obtain rfl:d=k.2.1:=at1 (hd.symm.trans hd');rw[hv k hk hki];exact hp.now
     ·have hne:(k.1 == i)=false:=by simpa using hki
      refine hp.old ?_ (hkn k hk (by simpa[upd,hne] using hLk))
      cases e:k.2.1 == d with
      | false=>rfl
      | true=>
       have e':k.2.1=d:=by simpa using e
       exact absurd (hidx k.1 i o' o d ho' ho (by rw[hd',e']) hd) hki
   cases ZE:F.contains i with
   | true=>
    have hj:J u:=by
     rcases hj with hj|hj
     ·exact hj
     ·rw[hj i ZE] at hL;cases hL
    obtain⟨k,hk,hki⟩:=List.any_eq_true.1 (atZ.1 hF i (by simpa using ZE));have hki:k.1=i:=by simpa using hki
    obtain⟨o',ho',hd'⟩:=hKd k hk;rw[hki] at ho';obtain rfl:o=o':=at1 (ho.symm.trans ho');obtain⟨hw,hr⟩:=tD hfl k hk (by rw[hki];exact ZE) o (by rw[hki];exact ho) b u hfr hj hout jZ
    have hsN:k.2.1<N:=by
     have:=atZ.1 hbd k.2.1 (List.mem_filterMap.2 ⟨o,at3 ho,hd'⟩);simpa using this
    refine oA hw hr hd' hfr hsN fun b' hp=>at5 (hNext b' u ?_)
    have hkv:∀ k'∈K,k'.1=i→k'.2.2=k.2.2:=fun k' hk' e=>by
     obtain⟨_,_,_⟩:=hKd k' hk';obtain⟨w2,h2⟩:=tD hfl k' hk' (by rw[e];exact ZE) o (by rw[e];exact ho) b u hfr hj hout jZ;rw[hr] at h2;injection h2 with h2;injection h2 with h2;exact h2.symm
    obtain⟨g1,g2⟩:=keep hd' hp hkv;refine⟨hcl',hp.fr hfr,.inl hj,g1,g2,t,E,a0,fun j hjl hjF=>?_,hc,hs,hag.put hp ?_,hsp⟩
    ·have hne:(j == i)=false:=by
      cases e:j == i with
      | false=>rfl
      | true=>
       have e':j=i:=by simpa using e
       rw[e',ZE] at hjF;cases hjF
     rw[← hLE j hjl hjF];simp[upd,hne]
    ·have:k.2.1∈xs F K:=List.mem_filterMap.2 ⟨k,hk,by rw[hki,ZE];rfl⟩;simpa using this
   | false=>
    have hEi:E.contains i=false:=by rw[← hLE i hil ZE];exact hL
    have hmem:=Uu (F:=F) (E:=E) ho ZE hEi fun e he hb=>by
     have hLe:=hA e he hb;have hlt:=lE 0 l eS i o ho e he hb
     cases hFe:F.contains e.on with
     | true=>exact .inl rfl
     | false=>exact .inr (by rw[← hLE e.on (by omega) hFe];exact hLe)
    have hh:=atZ.1 hc i hmem
    have fin:∀ a1,Moved K i o b a1→Fr a1 N∧(∀ j v,(l.filterMap (·.dst)).contains j=false→At a j v→At a1 j v)∧∀ k∈K,upd L i k.1=true→At a1 k.2.1 k.2.2:=by
     intro a1 hmv;rcases hmv with⟨hd,rfl⟩|⟨d,v,hd,hp,hv⟩
     ·refine⟨hfr,hout,fun k hk hLk=>?_⟩;obtain⟨o',ho',hd'⟩:=hKd k hk;by_cases hki:k.1=i
      ·rw[hki] at ho';obtain rfl:o=o':=at1 (ho.symm.trans ho');rw[hd] at hd';cases hd'
      ·have hne:(k.1 == i)=false:=by simpa using hki
       exact hkn k hk (by simpa[upd,hne] using hLk)
     ·obtain⟨g1,g2⟩:=keep hd hp fun k hk e=>by
       obtain⟨n,hn⟩:=List.getElem?_of_mem hk;exact hv n k hn e
      exact⟨hp.fr hfr,g1,g2⟩
    rcases Az hsp hs (j:=i) (by simpa using hh) with⟨t',h1,h2⟩|⟨h1,h2⟩
    ·simp only[oC,atX] at h2;refine h1 o ho b hag jZ Q' fun a1 w1 hJ1 hmv hS=>hNext a1 w1 ?_
     have fin:=fin a1 hmv;refine⟨hcl',fin.1,.inl hJ1,fin.2.1,fin.2.2,t',i::E,a1,fun j hjl hjF=>?_,h2.1.2,h2.2,.refl _ _,hS⟩;simp only[upd,List.contains_cons,hLE j hjl hjF]
    ·simp only[oC,atX] at h2;refine h1 o ho b hag jZ Q' fun a1 w1 hmv hS=>hNext a1 w1 ?_
     have fin:=fin a1 hmv;refine⟨hcl',fin.1,.inr fun f hfF=>?_,fin.2.1,fin.2.2,.done,i::E,a1,fun j hjl hjF=>?_,h2.1.1.2,h2.1.2,.refl _ _,hS⟩
     ·have h3:=h2.2;rw[ho] at h3;obtain⟨e,he,hb⟩:=List.any_eq_true.1 (atZ.1 h3 f (by simpa using hfF));simp only[atX,beq_iff_eq] at hb;exact up f (by rw[← hb.2];exact hA e he hb.1)
     ·simp only[upd,List.contains_cons,hLE j hjl hjF]
  have all:∀ (r:List Oper) (m:Nat),(∀ i o,r[i]?=some o→l[m+i]?=some o)→jj P l.toArray (fun L b u=>(∀ j o,l[j]?=some o→L j=true→∀ e∈o.after.toList,Region.binds .any e=true→L e.on=true)∧Fr b N∧(J u∨∀ f,F.contains f=true→L f=true)∧(∀ j v,(l.filterMap (·.dst)).contains j=false→At a j v→At b j v) ∧
   (∀ k∈K,L k.1=true→At b k.2.1 k.2.2)∧∃ t E a0,(∀ j,j<l.length→F.contains j=false→L j=E.contains j)∧((cand l F E).all fun i=>(heads t).contains i)=true∧oC l F t E=true∧KC (xs F K) a0 b∧PJ P l.toArray l K (xs F K) J (Q .normal) t a0 u) m r:=by
   intro r
   induction r with
   | nil=>intro m _;trivial
   | cons o r ih=>
    intro m h;refine⟨fun L b u Q' hI hL hA hK=>key m o (h 0 o rfl) L b u Q' hI hL hA hK,ih (m+1) fun i o' ho'=>?_⟩;have:=h (i+1) o' (by simpa using ho')
    rwa [show m+1+i=m+(i+1) by omega]
  exact all l 0 fun i o ho=>by simpa using ho
 ·intro L b u ⟨hcl,hfr,hj,hout,hkn,t,E,a0,hLE,hc,hs,hag,hsp⟩ hall
  have h:=Ow hsp hs fun j hjl=>by
   cases hF:F.contains j with
   | true=>exact .inl rfl
   | false=>exact .inr (by rw[← hLE j hjl hF];exact hall j hjl)
  exact h b hag fun n k hk=>hkn k (at3 hk) (hall k.1 (by
   obtain⟨o,ho,_⟩:=hKd k (at3 hk);exact(atY.1 ho).1))
end
section
variable (P:Program) (fn:Func) (R:Ending→World→Prop) (N:Nat)
theorem hrC(s:Nat)(ty:TypeId)(hr:fn.results=#[.cell s ty]){d:TypeDesc}(hu:P.underlying ty=some d)(hd:(match d with|.struct _|.array _ _=>true|_=>false)=true){n:Nat}(hi:(P.info? ty).map (·.size)=some n)
 (a:Act) (w:World) (l:Slots) (g:Nat) (t:TypeId) (cs:Array Value) (F:Fs a N l) (hv:look s l=some (.pointer (some ⟨g,0,none⟩))) (hW:Whole w g t cs) (hn:Nat.beq n cs.size=true) (hR:R (.returned (.agg cs)) w):bodyPost P fn R .ret a w:=by
 refine⟨F.fr.defers,_,?_,hR⟩;have h:=F.e s hv;have hs:(P.info? ty).map (·.size)=some cs.size:=by rw[hi,at6 hn]
 have h2:a.tmps.getD s undef=.pointer (some ⟨g,0,none⟩):=h;rw[Array.getD_eq_getD_getElem?] at h2;simp[results,hr,h2,asAddr,run_loadVar_row w g t ty cs (0,0) d hW hu hd hs]
end
theorem Hz{P:Program}{ops ops':Array Oper}{Q:Exit→Act→World→Prop}{S:Act→World→Prop}{o:Oper}{a:Act}{w:World}(hg:o.guard=none)(hS:∀ a w,S a w→a.defers=[])
 (h:wpList P ops' (fun e a w=>e=.normal∧S a w) [o] a w) (next:∀ a1 w1,S a1 w1→(∃ v,a1=a.put o.dst v)→Q .normal a1 w1):wpList P ops Q [o] a w:=by
 have hw:∀ ops,Region.wanted o (yielded ops a.tmps)=true:=fun ops=>jU hg
 have hno:¬ LetsOut (fun e a w=>e=Exit.normal∧S a w):=fun⟨_,_,h,_⟩=>by cases h
 unfold wpList at h ⊢;rw[if_pos (hw _)] at h ⊢;rcases h with h|⟨_,h⟩
 case inr=>exact absurd h hno
 refine .inl ?_;unfold Oper.wp at h ⊢;generalize (execOp a.eval o).run P w=r at h ⊢
 match r,h with
 | .ok (.value v) w',h=>exact next _ _ h.2 ⟨_,rfl⟩
 | .ok .skip w',h=>exact next _ _ h.2 ⟨_,rfl⟩
 | .ok (.defer d) w',h=>exact absurd (hS _ _ h.2) (by cases o.dst<;>simp[Act.put])
 | .ok (.enter f args) w',h=>
  refine Calls.mono h fun e w'' h=>?_
  match e,h with
  | .returned v,h=>exact next _ _ h.2 ⟨_,rfl⟩
  | .panicked c,h=>cases h.1
  | .outgrown,h=>exact absurd h hno
 | .ok (.row row args) w',h=>exact Rows.mono h fun v w'' h=>next _ _ h.2 ⟨_,rfl⟩
 | .halt (.panic v) w',h=>cases h.1
def B0:Nat→Slots→List gi
 | _,[]=>[]
 | n,(s,v)::r=>⟨s,n,[],true,v⟩::B0 (n+1) r
theorem jW:∀ {S:Slots} {n:Nat} {e:gi},e∈B0 n S→∃ i s v,S[i]?=some (s,v)∧e=⟨s,n+i,[],true,v⟩
 | [],_,_,h=>by cases h
 | (s,v)::r,n,e,h=>by
  rcases at2.1 h with rfl|h
  ·exact⟨0,s,v,rfl,rfl⟩
  ·obtain⟨i,s',v',h1,h2⟩:=jW h;exact⟨i+1,s',v',by simpa using h1,by rw[h2,show n+1+i=n+(i+1) by omega]⟩
def aiY(s:Nat)(o:Oper):Oper:={ o with dst:=some s }
def AV(o:Oper)(S:Slots):Array Oper:=(S.map (fun x=>aiY x.1 o)++[o]).toArray
section
variable {a:Act} {N:Nat} {l S:Slots} {o:Oper}
theorem OP:(AV o S)[S.length]?=some o:=by
 unfold AV;simp
theorem V0:jk (B0 0 S) S.length:=by
 refine⟨?_,?_,?_,?_⟩
 ·intro e he;obtain⟨i,s,v,h1,rfl⟩:=jW he;have:=(atY.1 h1).1;simpa using this
 ·intro e he e' he' hj;obtain⟨i,s,v,h1,rfl⟩:=jW he;obtain⟨i',s',v',h1',rfl⟩:=jW he';obtain rfl:i=i':=by simpa using hj
  rw[h1] at h1';obtain⟨rfl,rfl⟩:=at7 (at1 h1');rfl
 ·intro e he x hx;obtain⟨i,s,v,h1,rfl⟩:=jW he;cases hx
 ·intro e he;obtain⟨i,s,v,h1,rfl⟩:=jW he;simp
theorem ad8(hf:Fr a N)(hS:∀ x∈S,At a x.1 x.2)(hl:∀ q v,look q l=some v→At a q v):Inv (AV o S) a N l (B0 0 S) S.length:=by
 refine⟨hf,V0,?_,?_,fun q v _ h=>hl q v h⟩
 ·intro e he;obtain⟨i,s,v,h1,rfl⟩:=jW he;have hi:=(atY.1 h1).1;simp only[AV,Nat.zero_add,List.getElem?_toArray];rw[List.getElem?_append_left (by simpa using hi),at8,h1];rfl
 ·intro e he;obtain⟨i,s,v,h1,rfl⟩:=jW he;exact hS (s,v) (at3 h1)
end
def yL:List Kn→Oper→Slots
 | [],_=>[]
 | (j,d,v)::r,o=>bif tG o j then (d,v)::yL r o else yL r o
theorem zM{o:Oper}{x:Nat×Value}:∀ {K:List Kn},x∈yL K o→∃ k∈K,tG o k.1=true∧k.2=x
 | [],h=>by cases h
 | (j,d,v)::r,h=>by
  unfold yL at h
  cases e:tG o j with
  | false=>
   rw[e] at h;obtain⟨k,h1,h2⟩:=zM h;exact⟨k,at9 _ h1,h2⟩
  | true=>
   rw[e] at h;rcases at2.1 h with rfl|h
   ·exact⟨_,aua ..,e,rfl⟩
   ·obtain⟨k,h1,h2⟩:=zM h;exact⟨k,at9 _ h1,h2⟩
theorem Pf{o:Oper}{j:Nat}(h:tG o j=true):Bd o j:=by
 unfold tG at h;obtain⟨⟨on,gr⟩,h1,h2⟩:=List.any_eq_true.1 h;simp only[atX,beq_iff_eq] at h2;obtain⟨h2,rfl⟩:=h2;exact⟨gr,h1,h2⟩
def Wu:List Kn→Slots
 | []=>[]
 | (_,d,v)::r=>(d,v)::Wu r
theorem I8{x:Nat×Value}:∀ {K:List Kn},x∈Wu K→∃ k∈K,k.2=x
 | [],h=>by cases h
 | (j,d,v)::r,h=>by
  rcases at2.1 h with rfl|h
  ·exact⟨_,aua ..,rfl⟩
  ·obtain⟨k,h1,h2⟩:=I8 h;exact⟨k,at9 _ h1,h2⟩
theorem Bh{q:Nat}{v:Value}:∀ {l:Slots},look q l=some v→(q,v)∈l
 | [],h=>by cases h
 | (s,u)::r,h=>by
  rw[bI] at h
  cases e:q == s with
  | true=>
   rw[e] at h;obtain rfl:u=v:=at1 h;obtain rfl:q=s:=by simpa using e
   exact aua ..
  | false=>
   rw[e] at h;exact at9 _ (Bh h)
theorem nX{q:Nat}:∀ {l:Slots},look q l=none→∀ x∈l,x.1≠q
 | [],_,x,hx=>by cases hx
 | (s,u)::r,h,x,hx=>by
  rw[bI] at h
  cases e:q == s with
  | true=>rw[e] at h;cases h
  | false=>
   rw[e] at h;rcases at2.1 hx with rfl|hx
   ·exact fun h'=>(by simpa using e:q≠s) h'.symm
   ·exact nX h x hx
theorem aa2{o:Option Value}(h:isN o=true):o=none:=by cases o with|none=>rfl|some v=>cases h
theorem Bj{q:Nat}{v:Value}:∀ {l r:Slots},look q (l++r)=some v→look q l=some v∨look q r=some v
 | [],_,h=>.inr h
 | (s,u)::t,r,h=>by
  rw[List.cons_append,bI] at h;rw[bI]
  cases e:q == s with
  | true=>rw[e] at h;exact .inl h
  | false=>
   rw[e] at h;exact Bj h
def ldJ(B:Nat)(w0:World)(bs:List Bx)(D:TD)(g off:Nat)(k:Value→Prop):Prop:=
 bif D.one' then
  (∃ i,sZ bs i fun b=>match b with|(b,T,cs)=>bif Nat.blt T 9000 then b=g∧sZ cs.toList off k else False)∨(∃ v,(∀ u,at4 B w0 u→u.cell? ⟨g,off,none⟩=some v)∧k v)
 else
  (∃ i,sZ bs i fun b=>match b with|(b,T,cs)=>bif Nat.blt T 9000 then b=g∧(JZ off cs.toList fun r=>Im (iW D) r fun l=>k (.agg l.toArray)) else False) ∨
   (∃ cs:List Value,(∀ u,at4 B w0 u→∀ j v,cs[j]?=some v→u.cell? ⟨g,off+j,none⟩=some v)∧qx cs (iW D) (k (.agg cs.toArray)))
theorem aaZ{B:Nat}{w0:World}{bs:List Bx}{D:TD}{g off:Nat}{kk:Value→Prop}(h:ldJ B w0 bs D g off kk){ty:TypeId}(hD:jo Tryz.prog ty D=true):∃ v,kk v∧∀ u,Jm B w0 bs u→∀ (a:Act) (o:Oper) (x:Operand),o.op=.load ty x→a.eval x=.pointer (some ⟨g,off,none⟩)→(execOp a.eval o).run Tryz.prog u=.ok (.value v) u:=by
 unfold ldJ at h
 cases h1:D.one' with
 | true=>
  rw[h1] at h;obtain⟨dd,hu,hd⟩:=Tt hD h1;rcases h with⟨i,h⟩|⟨v,h2,h3⟩
  ·obtain⟨⟨b,T,cs⟩,hb,h⟩:=gN h;obtain⟨hT,rfl,h3⟩:=bJ h;obtain⟨v,h4,h5⟩:=gN h3;exact⟨v,h5,fun u J a o x ho hx=>bW ho hx hu (by cases dd<;>first|rfl|cases hd) ((J.b i hb hT).cell off▸by simpa using h4)⟩
  ·exact⟨v,h3,fun u J a o x ho hx=>bW ho hx hu (by cases dd<;>first|rfl|cases hd) (h2 u J.below)⟩
 | false=>
  rw[h1] at h;obtain⟨dd,hu,hd,hs⟩:=zx hD h1;rcases h with⟨i,h⟩|⟨cs,h2,h3⟩
  ·obtain⟨⟨b,T,cs⟩,hb,h⟩:=gN h;obtain⟨hT,rfl,h3⟩:=bJ h;obtain⟨h4,h5⟩:=JY h3;obtain⟨h6,h7⟩:=Il h5;refine⟨_,h7,fun u J a o x ho hx=>?_⟩;refine gW _ ho hx hu (by cases dd<;>first|rfl|cases hd) (hs.trans ?_) (Ag (J.b i hb hT) ?_)
   ·rw[aub,Nat.min_eq_left h6]
   ·rw[aub,Nat.min_eq_left h6]
  ·obtain⟨h4,h5⟩:=iF h3;exact⟨_,h5,fun u J a o x ho hx=>gW cs ho hx hu (by cases dd<;>first|rfl|cases hd) (hs.trans (by rw[h4])) (h2 u J.below)⟩
def Y1(B:Nat)(w0:World)(l:Slots)(u_:List Bx)(L:List Oper):List Nat→List Kn→(List Kn→Prop)→Prop
 | [],K,f=>f K
 | j::r,K,f=>sZ L j fun o=>match o.guard with
  | some _=>False
  | none=>match o.dst with
   | none=>False
   | some d=>match o.op with
    | .load ty x=>qm l (B0 0 (yL K o)) [] x fun u=>E6 u False fun g off=>C5 ty (fun D=>ldJ B w0 u_ D g off fun v=>rU K [(j,d,v)] fun K'=>Y1 B w0 l u_ L r K' f) TT
    | op=>pop l (B0 0 (yL K o)) [] true (fun v=>rU K [(j,d,v)] fun K'=>Y1 B w0 l u_ L r K' f) op
def FlP(B:Nat)(w0:World)(N:Nat)(l:Slots)(u_:List Bx)(L:List Oper)(K:List Kn)(k:Kn):Prop:=
 ∃ o,L[k.1]?=some o∧o.dst=some k.2.1∧o.guard=none∧∀ (b:Act) (u:World),Fr b N→Jm B w0 u_ u→(∀ q v,look q l=some v→At b q v)→(∀ k'∈K,tG o k'.1=true→At b k'.2.1 k'.2.2)→(execOp b.eval o).run Tryz.prog u=.ok (.value k.2.2) u
section
variable {B:Nat} {w0:World} {N:Nat} {l:Slots} {u_:List Bx} {L:List Oper}
theorem Tg:∀ {F:List Nat} {K:List Kn} {f:List Kn→Prop},Y1 B w0 l u_ L F K f→∃ K1,f (K++K1)∧K1.map (·.1)=F∧∀ k∈K1,FlP B w0 N l u_ L (K++K1) k
 | [],K,f,h=>⟨[],by rw[List.append_nil];unfold Y1 at h;exact h,rfl,by simp⟩
 | j::r,K,f,h=>by
  unfold Y1 at h;obtain⟨o,ho,h⟩:=gN h;split at h
  ·exact h.elim
  rename_i hg;split at h
  ·exact h.elim
  rename_i d hd
  have hE:∀ (b:Act),Fr b N→(∀ q v,look q l=some v→At b q v)→(∀ k'∈K,tG o k'.1=true→At b k'.2.1 k'.2.2)→Inv (AV o (yL K o)) b N l (B0 0 (yL K o)) (yL K o).length:=fun b hf hl hk=>ad8 hf (fun x hx=>by
   obtain⟨k,h1,h2,rfl⟩:=zM hx;exact hk k h1 h2) hl
  have main:∀ v:Value,(∀ (b:Act) (u:World),Fr b N→Jm B w0 u_ u→Inv (AV o (yL K o)) b N l (B0 0 (yL K o)) (yL K o).length→(execOp b.eval o).run Tryz.prog u=.ok (.value v) u)→(rU K [(j,d,v)] fun K'=>Y1 B w0 l u_ L r K' f)→∃ K1,f (K++K1)∧K1.map (·.1)=j::r∧∀ k∈K1,FlP B w0 N l u_ L (K++K1) k:=by
   intro v hv h;obtain⟨K1,h1,h2,h3⟩:=Tg (iG h);rw[List.append_assoc] at h1 h3;refine⟨(j,d,v)::K1,h1,by simp[h2],fun k hk=>?_⟩;rcases at2.1 hk with rfl|hk
   ·exact⟨o,ho,hd,hg,fun b u hf hJ hl hkn=>hv b u hf hJ (hE b hf hl fun k' hk'=>hkn k' (List.mem_append_left _ hk'))⟩
   ·exact h3 k hk
  split at h
  ·rename_i ty x hop;obtain⟨u,h1,h5⟩:=cA h;rcases oG h5 with⟨g,off,rfl,h6⟩|h6
   case inr=>exact h6.elim
   obtain⟨D,hD,h7⟩:=jP h6;obtain⟨v,h2,h3⟩:=aaZ h7 hD;exact main v (fun b u hf hJ I=>h3 u hJ b o x hop (I.E h1 (by simp))) h2
  ·obtain⟨v,h2,h3⟩:=Mb V0 (by simp) h;exact main v (fun b u hf hJ I=>h3 b u o rfl (fun x _ π' v hR hc=>I.E hR hc) rfl) h2
end
def newS:Nat→List gi→Slots→(Slots→Prop)→Prop
 | 0,_,T,f=>f T
 | n+1,⟨s,_,p,t,v⟩::r,T,f=>(match p with
  | []=>(match t with
   | true=>newS n r T fun T'=>f ((s,v)::T')
   | false=>False)
  | _::_=>False)
 | _+1,[],_,_=>False
theorem Fh:∀ {n:Nat} {m:List gi} {T:Slots} {f:Slots→Prop},newS n m T f→∃ T',f T'∧∀ x∈T',x∈T∨∃ e∈m,e.t=true∧(e.s,e.v)=x
 | 0,_,T,f,h=>⟨T,h,fun x hx=>.inl hx⟩
 | n+1,⟨s,j,p,t,v⟩::r,T,f,h=>by
  unfold newS at h;split at h
  ·split at h
   ·obtain⟨T',h1,h2⟩:=Fh h;refine⟨_,h1,fun x hx=>?_⟩;rcases at2.1 hx with rfl|hx
    ·exact .inr ⟨_,aua ..,rfl,rfl⟩
    ·rcases h2 x hx with h3|⟨e,h3,h4⟩
     ·exact .inl h3
     ·exact .inr ⟨e,at9 _ h3,h4⟩
   ·exact h.elim
  ·exact h.elim
 | _+1,[],_,_,h=>h.elim
def TB:List Nat→List Bx→(List Bx→Prop)→Prop
 | [],_,f=>f []
 | i::r,bs,f=>sZ bs i fun b=>TB r bs fun l=>f (b::l)
theorem EX:∀ {kb:List Nat} {bs:List Bx} {f:List Bx→Prop},TB kb bs f→∃ l,f l∧∀ b∈l,b∈bs
 | [],_,_,h=>⟨[],h,by simp⟩
 | i::r,bs,f,h=>by
  obtain⟨b,h1,h2⟩:=gN h;obtain⟨l,h3,h4⟩:=EX h2;refine⟨_,h3,fun x hx=>?_⟩;rcases at2.1 hx with rfl|hx
  ·exact at3 h1
  ·exact h4 x hx
def rvK:List Bx→List Bx→(List Bx→Prop)→Prop
 | [],acc,f=>f acc
 | b::r,acc,f=>rvK r (b::acc) f
theorem LW:∀ {bs acc:List Bx} {f:List Bx→Prop},rvK bs acc f→∃ l,f l∧∀ b∈l,b∈bs∨b∈acc
 | [],acc,_,h=>⟨acc,h,fun _ h=>.inr h⟩
 | b::r,acc,f,h=>by
  obtain⟨l,h1,h2⟩:=LW (bs:=r) h;refine⟨l,h1,fun x hx=>?_⟩;rcases h2 x hx with h3|h3
  ·exact .inl (at9 _ h3)
  ·rcases at2.1 h3 with rfl|h3
   ·exact .inl (aua ..)
   ·exact .inr h3
def oN(o:Oper)(T:Slots):Bool:=match o.dst with
 | none=>true
 | some d=>isN (look d T)
def slN(q:Nat):List Kn→Bool
 | []=>true
 | (_,d,_)::r=>bif Nat.beq q d then false else slN q r
theorem LJ{q:Nat}:∀ {K:List Kn},slN q K=true→∀ k∈K,k.2.1≠q
 | [],_,_,h=>by cases h
 | (j,d,v)::r,h,k,hk=>by
  unfold slN at h
  cases e:Nat.beq q d with
  | true=>rw[e] at h;cases h
  | false=>
   rw[e] at h;rcases at2.1 hk with rfl|hk
   ·intro e';have e':d=q:=e';rw[e',Nat.beq_refl] at e;cases e
   ·exact LJ h k hk
def frK(K:List Kn):Slots→Bool
 | []=>true
 | (q,_)::r=>bif slN q K then frK K r else false
theorem VA{K:List Kn}:∀ {T:Slots},frK K T=true→∀ x∈T,∀ k∈K,k.2.1≠x.1
 | [],_,_,h=>by cases h
 | (q,v)::r,h,x,hx=>by
  unfold frK at h
  cases e:slN q K with
  | false=>rw[e] at h;cases h
  | true=>
   rw[e] at h;rcases at2.1 hx with rfl|hx
   ·exact LJ e
   ·exact VA h x hx
def noJ(j:Nat):List Kn→Bool
 | []=>true
 | (i,_,_)::r=>bif Nat.beq j i then false else noJ j r
theorem Um{j:Nat}:∀ {K:List Kn},noJ j K=true→∀ k∈K,k.1≠j
 | [],_,_,h=>by cases h
 | (i,d,v)::r,h,k,hk=>by
  unfold noJ at h
  cases e:Nat.beq j i with
  | true=>rw[e] at h;cases h
  | false=>
   rw[e] at h;rcases at2.1 hk with rfl|hk
   ·intro e';have e':i=j:=e';rw[e',Nat.beq_refl] at e;cases e
   ·exact Um h k hk
theorem FC{ds:List Nat}:∀ {l:Slots} {f:Slots→Prop},VE ds l f→∃ l',f l'∧∀ x∈l',x∈l
 | [],f,h=>⟨[],h,fun _ h=>h⟩
 | (s,v)::r,f,h=>by
  unfold VE at h
  cases hm:jl s ds with
  | true=>
   rw[hm] at h;obtain⟨l',h1,h2⟩:=FC h;exact⟨l',h1,fun x hx=>at9 _ (h2 x hx)⟩
  | false=>
   rw[hm] at h;obtain⟨l',h1,h2⟩:=FC h;exact⟨_,h1,fun x hx=>(at2.1 hx).elim (fun e=>e▸aua ..) fun hx=>at9 _ (h2 x hx)⟩
def flO(d:Option Nat)(T:Slots)(f:Slots→Prop):Prop:=match d with
 | none=>f T
 | some q=>VE [q] T f
theorem abT{d:Option Nat}{T:Slots}{f:Slots→Prop}(h:flO d T f):∃ l',f l'∧∀ x∈l',x∈T:=by
 unfold flO at h;split at h
 ·exact⟨T,h,fun _ h=>h⟩
 ·exact FC h
def ltK(K:List Kn)(l:Slots):List Nat→(Slots→Prop)→Prop
 | [],f=>f []
 | d::r,f=>match look d l with
  | none=>ltK K l r f
  | some v=>bif slN d K then ltK K l r fun T=>f ((d,v)::T) else ltK K l r f
theorem Fk{K:List Kn}{l:Slots}:∀ {ds:List Nat} {f:Slots→Prop},ltK K l ds f→∃ T,f T∧∀ x∈T,look x.1 l=some x.2∧∀ k∈K,k.2.1≠x.1
 | [],f,h=>⟨[],h,fun _ h=>by cases h⟩
 | d::r,f,h=>by
  unfold ltK at h;split at h
  ·exact Fk h
  ·rename_i v hv
   cases e:slN d K with
   | false=>rw[e] at h;exact Fk h
   | true=>
    rw[e] at h;obtain⟨T,h1,h2⟩:=Fk h;refine⟨_,h1,fun x hx=>?_⟩;rcases at2.1 hx with rfl|hx
    ·exact⟨hv,LJ e⟩
    ·exact h2 x hx
def knA(j:Nat)(v:Value)(p:Prop):List Kn→Prop
 | []=>p
 | (i,_,u)::r=>bif Nat.beq i j then u=v∧knA j v p r else knA j v p r
theorem MK{j:Nat}{v:Value}{p:Prop}:∀ {K:List Kn},knA j v p K→p∧∀ k∈K,k.1=j→k.2.2=v
 | [],h=>⟨h,fun _ h=>by cases h⟩
 | (i,d,u)::r,h=>by
  unfold knA at h
  cases e:Nat.beq i j with
  | true=>
   rw[e] at h;obtain⟨h1,h2⟩:=MK (K:=r) h.2;exact⟨h1,fun k hk=>(at2.1 hk).elim (fun e _=>by rw[e];exact h.1) (h2 k)⟩
  | false=>
   rw[e] at h;obtain⟨h1,h2⟩:=MK (K:=r) h;refine⟨h1,fun k hk hkj=>?_⟩;rcases at2.1 hk with rfl|hk
   ·have hkj:i=j:=hkj;rw[hkj,Nat.beq_refl] at e;cases e
   ·exact h2 k hk hkj
def isD(s:Nat):Option Nat→Bool
 | none=>false
 | some q=>Nat.beq q s
def knT(K:List Kn)(j:Nat)(d:Option Nat)(p:Prop):Slots→Prop
 | []=>False
 | (s,v)::r=>match r with
  | []=>bif isD s d then knA j v p K else False
  | _::_=>False
def vop(B:Nat)(w0:World)(N:Nat)(l:Slots)(L:List Oper)(K:List Kn)(j:Nat)(T:Slots)(bs:List Bx)(rs:List Rw)(w:World)(k:Slots→List Bx→List Rw→World→Prop):Prop:=
 sZ L j fun o=>match o.guard with
  | some _=>False
  | none=>flO o.dst T fun T1=>bif oN o T1 then bif noJ j K then rU T1 (yL K o) fun S=>Ov B w0 N l o S.length (B0 0 S) bs rs w fun m' bs' rs' w'=>newS (m'.length-S.length) m' T1 fun T'=>bif frK K T' then k T' bs' rs' w' else False else (rU T1 (yL K o) fun S=>Ov B w0 N l o S.length (B0 0 S) bs rs w fun m' bs' rs' w'=>newS (m'.length-S.length) m' [] fun T'=>knT K j o.dst (k T1 bs' rs' w') T') else False
def vst(B:Nat)(w0:World)(N:Nat)(l:Slots)(L:List Oper)(K:List Kn)(kb:List Nat)(u_:List Bx)(k:Slots→List Bx→List Rw→World→Prop):Tr→Slots→List Bx→List Rw→World→Prop
 | .done,T,bs,rs,w=>rU (Wu K) l fun r=>rU T r fun l'=>k l' bs rs w
 | .step j t,T,bs,rs,w=>vop B w0 N l L K j T bs rs w fun T' bs' rs' w'=>(rvK bs' [] fun r=>TB kb r fun b=>b=u_)∧vst B w0 N l L K kb u_ k t T' bs' rs' w'
 | .last j,T,bs,rs,w=>vop B w0 N l L K j T bs rs w fun T' bs' rs' w'=>rU (Wu K) l fun r=>rU T' r fun l'=>k l' bs' rs' w'
 | .alt x y,T,bs,rs,w=>vst B w0 N l L K kb u_ k x T bs rs w∧vst B w0 N l L K kb u_ k y T bs rs w
section
variable {B:Nat} {w0:World} {N:Nat} {l:Slots} {u_:List Bx} {L:List Oper} {K:List Kn} {kb:List Nat} {k:Slots→List Bx→List Rw→World→Prop}
theorem Y0{F:List Nat}{q:Nat}(h:∀ k∈K,k.2.1≠q):(xs F K).contains q=false:=by
 cases e:(xs F K).contains q with
 | false=>rfl
 | true=>
  have e:q∈xs F K:=by simpa using e
  unfold xs at e;obtain⟨k,h1,h2⟩:=List.mem_filterMap.1 e;split at h2
  ·exact absurd (at1 h2) (h k h1)
  ·cases h2
structure TI (N:Nat) (l:Slots) (K:List Kn) (T:Slots) (a:Act):Prop where
 fr:Fr a N
 l_:∀ q v,look q l=some v→At a q v
 T_:∀ x∈T,At a x.1 x.2
 K_:∀ x∈T,∀ k∈K,k.2.1≠x.1
variable (Q8:∀ q v,look q l=some v→∀ k∈K,k.2.1≠q) (qA:∀ (j:Nat) (o:Oper) (d:Nat),L[j]?=some o→o.dst=some d→look d l=none∧d<N)
include Q8 in
theorem TI.agr{F:List Nat}{T:Slots}{a a':Act}(h:TI N l K T a)(hA:KC (xs F K) a a'):TI N l K T a':=
 ⟨hA.fr h.fr,fun q v hq=>hA.old (Y0 (Q8 q v hq)) (h.l_ q v hq),fun x hx=>hA.old (Y0 (h.K_ x hx)) (h.T_ x hx),h.K_⟩
include Q8 in
theorem TI.end{F:List Nat}{T:Slots}{a a':Act}(h:TI N l K T a)(hA:KC (xs F K) a a')(hk:∀ (n:Nat) (k:Kn),K[n]?=some k→At a' k.2.1 k.2.2):Fs a' N (T++(Wu K++l)):=by
 have h':=h.agr Q8 hA;refine⟨h'.fr,fun q v hq=>?_⟩;rcases Bj hq with hq|hq
 ·exact h'.T_ _ (Bh hq)
 ·rcases Bj hq with hq|hq
  ·obtain⟨k,h1,h2⟩:=I8 (Bh hq);obtain⟨i,hi⟩:=List.getElem?_of_mem h1;have:=hk i k hi
   rwa [h2] at this
  ·exact h'.l_ q v hq
include Q8 qA in
theorem Tf{F:List Nat}{ops:Array Oper}{Q':Exit→Act→World→Prop}{j:Nat}{T:Slots}{bs:List Bx}{rs:List Rw}{a a':Act}{w:World}{kk:Slots→List Bx→List Rw→World→Prop}(hv:vop B w0 N l L K j T bs rs w kk)(h:TI N l K T a)(M:aY B w0 w bs rs){o:Oper}(ho:L[j]?=some o)
 (hA:KC (xs F K) a a') (hb:∀ (n:Nat) (k:Kn),K[n]?=some k→Bd o k.1→At a' k.2.1 k.2.2)
 (next:∀ a1 w1 T' bs' rs',TI N l K T' a1→aY B w0 w1 bs' rs'→kk T' bs' rs' w1→Moved K j o a' a1→Q' .normal a1 w1):wpList Tryz.prog ops Q' [o] a' w:=by
 unfold vop at hv;obtain⟨o',ho',hv⟩:=gN hv;obtain rfl:o'=o:=at1 (ho'.symm.trans ho);split at hv
 ·exact hv.elim
 rename_i hg;obtain⟨T1,hv,hT1⟩:=abT hv;obtain⟨hoN,hv⟩:=bJ hv;have h':=h.agr Q8 hA
 have keep:∀ v q u,(∀ d,o'.dst=some d→d≠q)→At a' q u→At (a'.put o'.dst v) q u:=fun v q u hq hu=>by
  cases hd:o'.dst with
  | none=>exact hu
  | some d=>
   refine(qo h'.fr (qA j o' d ho hd).2).old ?_ hu;simpa using fun e=>hq d hd e.symm
 have hT:∀ v,∀ x∈T1,At (a'.put o'.dst v) x.1 x.2:=fun v x hx=>keep v _ _ (fun d hd=>by
  unfold oN at hoN;rw[hd] at hoN;exact fun e=>nX (aa2 hoN) x hx e.symm) (h'.T_ x (hT1 x hx))
 have hS:∀ x∈T1++yL K o',At a' x.1 x.2:=fun x hx=>by
  rcases at0.1 hx with hx|hx
  ·exact h'.T_ x (hT1 x hx)
  ·obtain⟨k,h1,h2,rfl⟩:=zM hx;obtain⟨i,hi⟩:=List.getElem?_of_mem h1;exact hb i k hi (Pf h2)
 have I:Inv (AV o' (T1++yL K o')) a' N l (B0 0 (T1++yL K o')) (T1++yL K o').length:=ad8 h'.fr hS h'.l_
 cases hnJ:noJ j K with
 | false=>
  rw[hnJ] at hv;replace hv:=iG hv;refine Hz (ops':=AV o' (T1++yL K o')) (S:=fun a1 w1=>∃ m' bs' rs',Inv (AV o' (T1++yL K o')) a1 N l m' ((T1++yL K o').length+1)∧aY B w0 w1 bs' rs'∧newS (m'.length-(T1++yL K o').length) m' [] fun T'=>knT K j o'.dst (kk T1 bs' rs' w1) T') hg (fun a w ⟨_,_,_,I,_⟩=>I.fr.defers) (zA I M OP hv fun a1 m' bs' rs' w1 I' M' h'=>at5 ⟨rfl,m',bs',rs',I',M',h'⟩) ?_;rintro a1 w1 ⟨m',bs',rs',I',M',hn⟩ ⟨v,rfl⟩;obtain⟨T',h1,h2⟩:=Fh hn;unfold knT at h1;split at h1
  ·exact h1.elim
  rename_i s u r;split at h1
  ·obtain⟨h3,h4⟩:=bJ h1;obtain⟨h5,h6⟩:=MK h4
   obtain⟨d,hd⟩:∃ d,o'.dst=some d:=by
    cases hd:o'.dst with
    | none=>rw[hd] at h3;cases h3
    | some d=>exact⟨d,rfl⟩
   have hs:d=s:=by rw[hd] at h3;exact at6 h3
   have hat:At (a'.put o'.dst v) s u:=by
    rcases h2 (s,u) (aua ..) with h7|⟨e,h7,h8,h9⟩
    ·cases h7
    ·have:=I'.at_ e h7;rw[h8] at this;obtain⟨rfl,rfl⟩:=at7 h9;exact this
   have hp:Put a' d v (a'.put o'.dst v):=by rw[hd];exact qo h'.fr (qA j o' d ho hd).2
   have huv:u=v:=by
    have Ni:=hp.now;rw[hs] at Ni;exact at1 (hat.symm.trans Ni)
   refine next _ _ T1 bs' rs' ⟨I'.fr,fun q u hq=>keep v _ _ (fun d hd e=>?_) (h'.l_ q u hq),hT v,fun x hx=>h'.K_ x (hT1 x hx)⟩ M' h5 (.some d v hd hp fun n k hk hkj=>(h6 k (at3 hk) hkj).trans huv)
   rw[← e,(qA j o' d ho hd).1] at hq;cases hq
  ·exact h1.elim
 | true=>
 rw[hnJ] at hv;replace hv:=iG hv;refine Hz (ops':=AV o' (T1++yL K o')) (S:=fun a1 w1=>∃ m' bs' rs',Inv (AV o' (T1++yL K o')) a1 N l m' ((T1++yL K o').length+1)∧aY B w0 w1 bs' rs'∧newS (m'.length-(T1++yL K o').length) m' T1 fun T'=>bif frK K T' then kk T' bs' rs' w1 else False) hg (fun a w ⟨_,_,_,I,_⟩=>I.fr.defers) (zA I M OP hv fun a1 m' bs' rs' w1 I' M' h'=>at5 ⟨rfl,m',bs',rs',I',M',h'⟩) ?_;rintro a1 w1 ⟨m',bs',rs',I',M',hn⟩ ⟨v,rfl⟩;obtain⟨T',h1,h2⟩:=Fh hn;obtain⟨h3,h4⟩:=bJ h1;refine next _ _ T' bs' rs' ⟨I'.fr,fun q u hq=>keep v _ _ (fun d hd e=>?_) (h'.l_ q u hq),fun x hx=>?_,VA h3⟩ M' h4 ?_
 ·rw[← e,(qA j o' d ho hd).1] at hq;cases hq
 ·rcases h2 x hx with h5|⟨e,h5,h6,rfl⟩
  ·exact hT v x h5
  ·have:=I'.at_ e h5
   rwa [h6] at this
 ·cases hd:o'.dst with
  | none=>exact .none hd rfl
  | some d=>
   refine .some d v hd (qo h'.fr (qA j o' d ho hd).2) fun n k hk hkj=>absurd hkj (Um hnJ k (at3 hk))
include Q8 qA in
theorem EK{F:List Nat}{ops:Array Oper}{Q:Act→World→Prop}(hQ:∀ a l' bs rs w,Fs a N l'→aY B w0 w bs rs→k l' bs rs w→Q a w):∀ {t:Tr} {T:Slots} {bs:List Bx} {rs:List Rw} {a:Act} {w:World},vst B w0 N l L K kb u_ k t T bs rs w→TI N l K T a→aY B w0 w bs rs→PJ Tryz.prog ops L K (xs F K) (Jm B w0 u_) Q t a w
 | .done,T,bs,rs,a,w,hv,h,M=>fun a' hA hk=>hQ a' _ bs rs w (h.end Q8 hA hk) M (iG (iG hv))
 | .step j t,T,bs,rs,a,w,hv,h,M=>fun o ho a' hA hb Q' hn=>Tf Q8 qA hv h M ho hA hb fun a1 w1 T' bs' rs' h' M' ⟨h1,h2⟩ mv=>by
  refine hn a1 w1 ⟨M'.below,fun b Yl=>M'.box b ?_⟩ mv (EK hQ h2 h' M');obtain⟨r,h3,h4⟩:=LW h1;obtain⟨s,h5,h6⟩:=EX h3;subst h5;rcases h4 b (h6 b Yl) with h7|h7
  ·exact h7
  ·cases h7
 | .last j,T,bs,rs,a,w,hv,h,M=>fun o ho a' hA hb Q' hn=>Tf Q8 qA hv h M ho hA hb fun a1 w1 T' bs' rs' h' M' h1 mv=>hn a1 w1 mv fun a2 hA2 hk=>hQ a2 _ bs' rs' w1 (h'.end Q8 hA2 hk) M' (iG (iG h1))
 | .alt x y,T,bs,rs,a,w,hv,h,M=>⟨EK hQ hv.1 h M,EK hQ hv.2 h M⟩
end
def dsL:List Oper→(List Nat→Prop)→Prop
 | [],f=>f []
 | o::r,f=>match o.dst with
  | some d=>dsL r fun s=>f (d::s)
  | none=>dsL r f
theorem Nu:∀ {L:List Oper} {f:List Nat→Prop},dsL L f→f (L.filterMap (·.dst))
 | [],_,h=>h
 | o::r,f,h=>by
  unfold dsL at h;split at h
  ·rename_i d hd;rw[List.filterMap_cons,hd];exact Nu h
  ·rename_i hd;rw[List.filterMap_cons,hd];exact Nu h
def aaC(N:Nat)(L:List Oper)(F:List Nat)(t:Tr):Bool:=
 ordered 0 L&&(decide (L.filterMap (·.dst)).Nodup&&(((L.filterMap (·.dst)).all fun s=>Nat.blt s N)&&(((cand L F []).all fun i=>(heads t).contains i)&&oC L F t [])))
def X0(L:List Oper)(F:List Nat):List Kn→Bool
 | []=>true
 | (j,d,_)::r=>bif F.contains j then false else (match L[j]? with
  | none=>false
  | some o=>bif isD d o.dst then X0 L F r else false)
theorem OZ{L:List Oper}{F:List Nat}:∀ {K:List Kn},X0 L F K=true→(∀ k∈K,∃ o:Oper,L[k.1]?=some o∧o.dst=some k.2.1)∧∀ k∈K,F.contains k.1=false
 | [],_=>⟨fun _ h=>(by cases h),fun _ h=>(by cases h)⟩
 | (j,d,v)::r,h=>by
  unfold X0 at h
  cases e:F.contains j with
  | true=>rw[e] at h;cases h
  | false=>
   rw[e] at h
   cases e2:L[j]? with
   | none=>rw[e2] at h;cases h
   | some o=>
    rw[e2] at h
    cases e3:isD d o.dst with
    | false=>simp only[e3] at h;cases h
    | true=>
     simp only[e3] at h;obtain⟨h1,h2⟩:=OZ (K:=r) h;refine⟨fun k hk=>?_,fun k hk=>?_⟩
     ·rcases at2.1 hk with rfl|hk
      ·refine⟨o,e2,?_⟩
       cases hd:o.dst with
       | none=>rw[hd] at e3;cases e3
       | some q=>rw[hd] at e3;exact congrArg some (at6 e3)
      ·exact h1 k hk
     ·rcases at2.1 hk with rfl|hk
      ·exact e
      ·exact h2 k hk
theorem spk{X Y:Prop}{B:Nat}{w0 w:World}{N:Nat}{l:Slots}{bs:List Bx}{rs:List Rw}{ops:Array Oper}{id:Nat}{k:Slots→List Bx→List Rw→World→Prop}(K0:List Kn)(F:List Nat)(t:Tr)(kb:List Nat)(hk0:X0 ops.toList F K0=true)(h0:aaC N ops.toList F t=true)
 (h:dsL ops.toList fun ds=>VE ds l fun l'=>rvK bs [] fun r=>TB kb r fun u_=>Y1 B w0 l' u_ ops.toList F K0 fun K=>ltK K l ds fun T=>∀ w',at4 w.heap.size w w'→aY B w0 w' bs rs→vst B w0 N l' ops.toList K kb u_ k t T bs rs w') :
 X∨Y∨∀ (a:Act) (Q:Exit→Act→World→Prop),Fs a N l→aY B w0 w bs rs→(∀ a' l' bs' rs' w',Fs a' N l'→aY B w0 w' bs' rs'→k l' bs' rs' w'→Q .normal a' w')→(Code.region id ops true).wp Tryz.prog Q a w:=by
 refine .inr (.inr fun a Q Fa M next=>?_);obtain⟨L,rfl⟩:∃ L:List Oper,ops=L.toArray:=⟨ops.toList,by simp⟩;rw[List.toList_toArray] at hk0 h0 h;unfold aaC at h0;simp only[atX,decide_eq_true_eq] at h0;obtain⟨eS,hnd,hbd,hcd,hsub⟩:=h0;obtain⟨l',h,hl'⟩:=BL (Nu h);obtain⟨r,h,hr⟩:=LW h;obtain⟨u_,h,hJ⟩:=EX h;obtain⟨K,h,hKF,hK⟩:=Tg (N:=N) h;obtain⟨hk1,hk2⟩:=OZ hk0;obtain⟨T0,h,hT0⟩:=Fk h;have hin:∀ (j:Nat) (o:Oper) (d:Nat),L[j]?=some o→o.dst=some d→d∈L.filterMap (·.dst):=fun j o d ho hd=>List.mem_filterMap.2 ⟨o,at3 ho,hd⟩
 have hno:∀ d,d∈L.filterMap (·.dst)→look d l'=none:=fun d hd=>by
  rw[hl',nV.2 hd];rfl
 have hold:∀ q v,look q l'=some v→look q l=some v∧(L.filterMap (·.dst)).contains q=false:=fun q v hq=>by
  rw[hl'] at hq
  cases hm:jl q (L.filterMap (·.dst)) with
  | true=>rw[hm] at hq;cases hq
  | false=>
   rw[hm] at hq;refine⟨hq,?_⟩
   cases hc:(L.filterMap (·.dst)).contains q with
   | false=>rfl
   | true=>
    have:q∈L.filterMap (·.dst):=by simpa using hc
    rw[nV.2 this] at hm;cases hm
 have hKo:∀ k∈K0++K,∃ o:Oper,L[k.1]?=some o∧o.dst=some k.2.1:=fun k hk=>by
  rcases at0.1 hk with hk|hk
  ·exact hk1 k hk
  ·obtain⟨o,h1,h2,-⟩:=hK k hk;exact⟨o,h1,h2⟩
 have hKd:∀ k∈K0++K,k.2.1∈L.filterMap (·.dst):=fun k hk=>by
  obtain⟨o,h1,h2⟩:=hKo k hk;exact hin _ _ _ h1 h2
 have Q8:∀ q v,look q l'=some v→∀ k∈K0++K,k.2.1≠q:=fun q v hq k hk e=>by
  have h1:=hno _ (hKd k hk);rw[e,hq] at h1;cases h1
 have qA:∀ (j:Nat) (o:Oper) (d:Nat),L[j]?=some o→o.dst=some d→look d l'=none∧d<N:=fun j o d ho hd=>⟨hno d (hin j o d ho hd),by
  have:=atZ.1 hbd d (hin j o d ho hd);simpa using this⟩
 have Md:=M.keep (w':=w.drew) (Below.refl _ _).drew;refine ED (K0++K) F t (Jm B w0 u_) (by kernel_rfl) eS ?_ ?_ hnd hbd hcd hsub Fa.fr ?_ ⟨Md.below,fun b hb=>Md.box b ?_⟩ (EK Q8 qA (fun a l' bs rs w F M h=>next a l' bs rs w F M h) (h w.drew (Below.refl _ _).drew Md) ⟨Fa.fr,fun q v hq=>Fa.at_ q v (hold q v hq).1,fun x hx=>Fa.at_ _ _ (hT0 x hx).1,fun x hx=>(hT0 x hx).2⟩ Md)
 ·rw[atZ];intro k hk;obtain⟨o,h1,h2⟩:=hKo k hk;simp[h1,h2]
 ·rw[atZ];intro i hi;rw[← hKF] at hi;obtain⟨k,hk,rfl⟩:=List.mem_map.1 hi;exact List.any_eq_true.2 ⟨k,List.mem_append_right _ hk,by simp⟩
 ·have key:∀ K2:List Kn,(∀ k∈K2,F.contains k.1=true→FlP B w0 N l' u_ L (K0++K) k)→Aa Tryz.prog L F (K0++K) (Jm B w0 u_) a N K2:=by
   intro K2
   induction K2 with
   | nil=>intro _;trivial
   | cons k r ih=>
    intro h2;refine⟨fun hFk o ho b u hf hj hq hb=>?_,ih fun k' hk'=>h2 k' (at9 _ hk')⟩;obtain⟨o',h3,-,h4,h5⟩:=h2 k (aua ..) hFk;obtain rfl:o'=o:=at1 (h3.symm.trans ho)
    exact⟨jU h4,h5 b u hf hj (fun q v hv=>hq q v (hold q v hv).2 (Fa.at_ q v (hold q v hv).1)) fun k' hk' he=>by
     obtain⟨i,hi⟩:=List.getElem?_of_mem hk';exact hb i k' hi (Pf he)⟩
  exact key _ fun k hk hFk=>(at0.1 hk).elim (fun h=>by rw[hk2 k h] at hFk;cases hFk) (hK k)
 ·rcases hr b (hJ b hb) with h1|h1
  ·exact h1
  ·cases h1
theorem sp{X Y:Prop}{B:Nat}{w0 w:World}{N:Nat}{l:Slots}{bs:List Bx}{rs:List Rw}{ops:Array Oper}{id:Nat}{k:Slots→List Bx→List Rw→World→Prop}(F:List Nat)(t:Tr)(kb:List Nat)(h0:aaC N ops.toList F t=true)
 (h:dsL ops.toList fun ds=>VE ds l fun l'=>rvK bs [] fun r=>TB kb r fun u_=>Y1 B w0 l' u_ ops.toList F [] fun K=>ltK K l ds fun T=>∀ w',at4 w.heap.size w w'→aY B w0 w' bs rs→vst B w0 N l' ops.toList K kb u_ k t T bs rs w') :
 X∨Y∨∀ (a:Act) (Q:Exit→Act→World→Prop),Fs a N l→aY B w0 w bs rs→(∀ a' l' bs' rs' w',Fs a' N l'→aY B w0 w' bs' rs'→k l' bs' rs' w'→Q .normal a' w')→(Code.region id ops true).wp Tryz.prog Q a w:=spk [] F t kb rfl h0 h
theorem mva{R:Value→World→Prop}{x:Operand}{B:Nat}{w w0:World}{bs:List Bx}{rs:List Rw}{q:(Value→World→Prop)→Prop}(hR:eN R)(h:q R):
 ∃ R',eN R'∧(∀ (u:Value) (w1:World) (a:Act) (o':Oper),at4 w.heap.size w w1→aY B w0 w1 bs rs→R u w1→o'.op=.assign x→vJ a [x] [u]→∃ v w2,(execOp a.eval o').run Tryz.prog w1=.ok (.value v) w2∧R' v w2∧at4 w1.heap.size w1 w2)∧q R':=
 ⟨R,hR,fun u w1 _ _ _ _ hu ho ou=>⟨u,w1,oh ho (kB ou),hu,Below.refl _ _⟩,h⟩
section
variable {B:Nat} {w0 w:World} {bs:List Bx} {rs:List Rw} {t e ty mb:Nat} {m x y:Operand} {z v:Value} {k:Int} {L:List (Int×Value)} {K:Value→List Bx→List Rw→World→Prop}
theorem mmk(M:aY B w0 w bs rs)(h:∀ mb w',aY B w0 w' ((mb,9003,eE [])::bs) rs→K (.map (some mb)) ((mb,9003,eE [])::bs) rs w'):
 ∃ R:Value→World→Prop,(∀ (a:Act) (o':Oper),o'.op=.makeMap t none→o'.type=ty→vJ a [] []→∃ v w',(execOp a.eval o').run Tryz.prog w=.ok (.value v) w'∧R v w')∧∀ v w',R v w'→∃ bs' rs',aY B w0 w' bs' rs'∧K v bs' rs' w':=by
 refine⟨fun v w'=>v=.map (some w.heap.size)∧w'=w.alloc (.map #[] 0),fun a o' ho _ _=>⟨_,_,?_,rfl,rfl⟩,?_⟩
 ·unfold execOp;simp[ho,Instr.makeMap]
 ·rintro v w' ⟨rfl,rfl⟩;have M':=M.Mp ((Below.refl _ w).alloc (Nat.le_refl _) _) (b:=(w.heap.size,9003,eE [])) (mO (aX.made w _ _)) (Nat.le_refl _);exact⟨_,_,M',h _ _ M'⟩
theorem mlk(M:aY B w0 w bs rs)(i:Nat)(hi:bs[i]?=some (mb,9003,eE L))(ht:Tryz.prog.underlying t=some (.map 3 e))(hz:∀ w,(zeroValue e).run Tryz.prog w=.ok z w)(hk:iR k)(h:aY B w0 w bs rs→K (.tuple #[(jI L k).getD z,.bool (jI L k).isSome]) bs rs w):
 ∃ R:Value→World→Prop,(∀ (a:Act) (o':Oper),o'.op=.lookup t m x true→o'.type=ty→vJ a [m,x] [.map (some mb),.int .i64 k]→∃ v w',(execOp a.eval o').run Tryz.prog w=.ok (.value v) w'∧R v w')∧∀ v w',R v w'→∃ bs' rs',aY B w0 w' bs' rs'∧K v bs' rs' w':=
 ⟨fun v w'=>v=.tuple #[(jI L k).getD z,.bool (jI L k).isSome]∧w'=w,fun _ _ ho _ ou=>⟨_,_,FT ht (hz _) M i hi ho (kB ou) (qX ou) hk,rfl,rfl⟩,fun _ _ ⟨h1,h2⟩=>by subst h1 h2;exact⟨_,_,M,h M⟩⟩
theorem ml1(M:aY B w0 w bs rs)(i:Nat)(hi:bs[i]?=some (mb,9003,eE L))(ht:Tryz.prog.underlying t=some (.map 3 e))(hz:∀ w,(zeroValue e).run Tryz.prog w=.ok z w)(hk:iR k)(h:aY B w0 w bs rs→K ((jI L k).getD z) bs rs w):
 ∃ R:Value→World→Prop,(∀ (a:Act) (o':Oper),o'.op=.lookup t m x false→o'.type=ty→vJ a [m,x] [.map (some mb),.int .i64 k]→∃ v w',(execOp a.eval o').run Tryz.prog w=.ok (.value v) w'∧R v w')∧∀ v w',R v w'→∃ bs' rs',aY B w0 w' bs' rs'∧K v bs' rs' w':=
 ⟨fun v w'=>v=(jI L k).getD z∧w'=w,fun _ _ ho _ ou=>⟨_,_,Yx ht (hz _) M i hi ho (kB ou) (qX ou) hk,rfl,rfl⟩,fun _ _ ⟨h1,h2⟩=>by subst h1 h2;exact⟨_,_,M,h M⟩⟩
theorem Ut{k':List Bx→List Rw→World→Prop}(M:aY B w0 w bs rs)(i:Nat)(hi:bs[i]?=some (mb,9003,eE L))(ht:Tryz.prog.underlying t=some (.map 3 e))(hk:iR k)(h:∀ w',aY B w0 w' (bs.set i (mb,9003,eE ((k,v)::gX L k))) rs→k' (bs.set i (mb,9003,eE ((k,v)::gX L k))) rs w'):
 ∃ R:World→Prop,(∀ (a:Act) (o':Oper),o'.op=.mapUpdate t m x y→o'.type=ty→vJ a [m,x,y] [.map (some mb),.int .i64 k,v]→∃ w',(execOp a.eval o').run Tryz.prog w=.ok .skip w'∧R w')∧∀ w',R w'→∃ bs' rs',aY B w0 w' bs' rs'∧k' bs' rs' w':=by
 obtain⟨w',hr,M'⟩:=M.adT ht i hi hk v;refine⟨fun w''=>w''=w',fun a o' ho _ ou=>⟨_,?_,rfl⟩,fun w'' e=>by subst e;exact⟨_,_,M',h _ M'⟩⟩;unfold execOp;simp[ho,kB ou,qX ou,ajq ou,hr]
end
end Go.Proofs.YtdcofoaihmongaaGreat
namespace Go.Proofs.YtdcofoaihmongaaGreat
open Go Go.ChangeAt Go.ChangeShapes Go.RowKit Go.WideShapes
def dF(s:ByteArray):Prop:=s.size≤140737488355328
def pO(n:Nat):Prop:=n≤140737488355328
structure NG (l:List ByteArray):Prop where
 len:pO l.length
 all:∀ s∈l,dF s
structure rW where
 aZ:Int
 cats:Nat
deriving DecidableEq
structure rW.Ok (x:rW):Prop where
 aZ:iR x.aZ
 cats:zl x.cats
def rW.cells(x:rW):List Value:=[.int .i64 x.aZ,.int .u64 x.cats]
structure vC where
 low:rW
 high:rW
deriving DecidableEq
structure vC.Ok (x:vC):Prop where
 low:x.low.Ok
 high:x.high.Ok
def vC.cells(x:vC):List Value:=[.int .i64 x.low.aZ,.int .u64 x.low.cats,.int .i64 x.high.aZ,.int .u64 x.high.cats]
structure xR where
 user:Int
 role:Int
 typ:Int
 rng:vC
deriving DecidableEq
structure xR.Ok (x:xR):Prop where
 user:iR x.user
 role:iR x.role
 typ:iR x.typ
 rng:x.rng.Ok
def xR.cells(x:xR):List Value:=[.int .i64 x.user,.int .i64 x.role,.int .i64 x.typ,.int .i64 x.rng.low.aZ,.int .u64 x.rng.low.cats,.int .i64 x.rng.high.aZ,.int .u64 x.rng.high.cats]
inductive aq where
 | node (op a rel b:Int) (names:List ByteArray) (set:ay) (kids:List aq)
def aq.op:aq→Int|.node o _ _ _ _ _ _=>o
def aq.a:aq→Int|.node _ a _ _ _ _ _=>a
def aq.rel:aq→Int|.node _ _ r _ _ _ _=>r
def aq.b:aq→Int|.node _ _ _ b _ _ _=>b
def aq.names:aq→List ByteArray|.node _ _ _ _ n _ _=>n
def aq.set:aq→ay|.node _ _ _ _ _ s _=>s
def aq.kids:aq→List aq|.node _ _ _ _ _ _ k=>k
inductive aq.Ok:aq→Prop
 | node {op a rel b:Int} {names:List ByteArray} {set:ay} {kids:List aq}:iR op→iR a→iR rel→iR b→NG names→set.Ok→pO kids.length→(∀ k∈kids,aq.Ok k)→aq.Ok (.node op a rel b names set kids)
structure aj.yN (x:aj):Prop where
 kind:iR x.kind
 src:x.src.Ok
 tgt:x.tgt.Ok
 cls:iR x.cls
 perms:PG x.perms
 cond:iR x.cond
structure kV where
 name:ByteArray
 types:ay
deriving DecidableEq
structure kV.Ok (x:kV):Prop where
 name:dF x.name
 types:x.types.Ok
def kV.cells(x:kV):List Value:=[.string x.name,.int .u64 x.types.a,.int .u64 x.types.b,.int .u64 x.types.c,.int .u64 x.types.d]
theorem kV.eG(x:kV):x.cells.length=5:=rfl
structure iD where
 name:ByteArray
 types:ay
 next:ay
deriving DecidableEq
structure iD.Ok (x:iD):Prop where
 name:dF x.name
 types:x.types.Ok
 next:x.next.Ok
def iD.cells(x:iD):List Value:=[.string x.name,.int .u64 x.types.a,.int .u64 x.types.b,.int .u64 x.types.c,.int .u64 x.types.d,.int .u64 x.next.a,.int .u64 x.next.b,.int .u64 x.next.c,.int .u64 x.next.d]
theorem iD.eG(x:iD):x.cells.length=9:=rfl
structure kC where
 name:ByteArray
 roles:ay
 dflt:rW
 rng:vC
deriving DecidableEq
structure kC.Ok (x:kC):Prop where
 name:dF x.name
 roles:x.roles.Ok
 dflt:x.dflt.Ok
 rng:x.rng.Ok
def kC.cells(x:kC):List Value:=[.string x.name,.int .u64 x.roles.a,.int .u64 x.roles.b,.int .u64 x.roles.c,.int .u64 x.roles.d,.int .i64 x.dflt.aZ,.int .u64 x.dflt.cats,.int .i64 x.rng.low.aZ,.int .u64 x.rng.low.cats,.int .i64 x.rng.high.aZ,.int .u64 x.rng.high.cats]
theorem kC.eG(x:kC):x.cells.length=11:=rfl
structure dP where
 name:ByteArray
 val:Bool
deriving DecidableEq
structure dP.Ok (x:dP):Prop where
 name:dF x.name
def dP.cells(x:dP):List Value:=[.string x.name,.bool x.val]
theorem dP.eG(x:dP):x.cells.length=2:=rfl
structure bM where
 kind:Int
 src:ay
 tgt:ay
 cls:Int
 name:ByteArray
 res:Int
 cond:Int
deriving DecidableEq
structure bM.Ok (x:bM):Prop where
 kind:iR x.kind
 src:x.src.Ok
 tgt:x.tgt.Ok
 cls:iR x.cls
 name:dF x.name
 res:iR x.res
 cond:iR x.cond
def bM.cells(x:bM):List Value:=[.int .i64 x.kind,.int .u64 x.src.a,.int .u64 x.src.b,.int .u64 x.src.c,.int .u64 x.src.d,.int .u64 x.tgt.a,.int .u64 x.tgt.b,.int .u64 x.tgt.c,.int .u64 x.tgt.d,.int .i64 x.cls,.string x.name,.int .i64 x.res,.int .i64 x.cond]
theorem bM.eG(x:bM):x.cells.length=13:=rfl
structure kS where
 roles:ay
 types:ay
 cls:Int
 res:Int
deriving DecidableEq
structure kS.Ok (x:kS):Prop where
 roles:x.roles.Ok
 types:x.types.Ok
 cls:iR x.cls
 res:iR x.res
def kS.cells(x:kS):List Value:=[.int .u64 x.roles.a,.int .u64 x.roles.b,.int .u64 x.roles.c,.int .u64 x.roles.d,.int .u64 x.types.a,.int .u64 x.types.b,.int .u64 x.types.c,.int .u64 x.types.d,.int .i64 x.cls,.int .i64 x.res]
theorem kS.eG(x:kS):x.cells.length=10:=rfl
structure kT where
 src:ay
 tgt:ay
 cls:Int
 rng:vC
deriving DecidableEq
structure kT.Ok (x:kT):Prop where
 src:x.src.Ok
 tgt:x.tgt.Ok
 cls:iR x.cls
 rng:x.rng.Ok
def kT.cells(x:kT):List Value:=[.int .u64 x.src.a,.int .u64 x.src.b,.int .u64 x.src.c,.int .u64 x.src.d,.int .u64 x.tgt.a,.int .u64 x.tgt.b,.int .u64 x.tgt.c,.int .u64 x.tgt.d,.int .i64 x.cls,.int .i64 x.rng.low.aZ,.int .u64 x.rng.low.cats,.int .i64 x.rng.high.aZ,.int .u64 x.rng.high.cats]
theorem kT.eG(x:kT):x.cells.length=13:=rfl
structure kR where
 name:ByteArray
 ctx:xR
deriving DecidableEq
structure kR.Ok (x:kR):Prop where
 name:dF x.name
 ctx:x.ctx.Ok
def kR.cells(x:kR):List Value:=[.string x.name,.int .i64 x.ctx.user,.int .i64 x.ctx.role,.int .i64 x.ctx.typ,.int .i64 x.ctx.rng.low.aZ,.int .u64 x.ctx.rng.low.cats,.int .i64 x.ctx.rng.high.aZ,.int .u64 x.ctx.rng.high.cats]
theorem kR.eG(x:kR):x.cells.length=8:=rfl
structure kU where
 pat:ByteArray
 kind:Int
 ctx:xR
deriving DecidableEq
structure kU.Ok (x:kU):Prop where
 pat:dF x.pat
 kind:iR x.kind
 ctx:x.ctx.Ok
def kU.cells(x:kU):List Value:=[.string x.pat,.int .i64 x.kind,.int .i64 x.ctx.user,.int .i64 x.ctx.role,.int .i64 x.ctx.typ,.int .i64 x.ctx.rng.low.aZ,.int .u64 x.ctx.rng.low.cats,.int .i64 x.ctx.rng.high.aZ,.int .u64 x.ctx.rng.high.cats]
theorem kU.eG(x:kU):x.cells.length=9:=rfl
structure kW where
 name:ByteArray
 kind:Int
 src:ay
 tgt:ay
deriving DecidableEq
structure kW.Ok (x:kW):Prop where
 name:dF x.name
 kind:iR x.kind
 src:x.src.Ok
 tgt:x.tgt.Ok
def kW.cells(x:kW):List Value:=[.string x.name,.int .i64 x.kind,.int .u64 x.src.a,.int .u64 x.src.b,.int .u64 x.src.c,.int .u64 x.src.d,.int .u64 x.tgt.a,.int .u64 x.tgt.b,.int .u64 x.tgt.c,.int .u64 x.tgt.d]
theorem kW.eG(x:kW):x.cells.length=10:=rfl
structure mD where
 name:ByteArray
 perms:List ByteArray
deriving DecidableEq
structure mD.Ok (x:mD):Prop where
 name:dF x.name
 perms:NG x.perms
structure mH where
 name:ByteArray
 oT:List ByteArray
 perm:Bool
deriving DecidableEq
structure mH.Ok (x:mH):Prop where
 name:dF x.name
 oT:NG x.oT
structure oZ where
 cls:Int
 perms:Int
 val:Bool
 expr:aq
structure oZ.Ok (x:oZ):Prop where
 cls:iR x.cls
 perms:PG x.perms
 expr:x.expr.Ok
theorem aj.eG(x:aj):x.cells.length=13:=rfl
structure aC where
 classes:List mD
 types:List mH
 attrs:List kV
 roles:List iD
 users:List kC
 bools:List dP
 aZ:List ByteArray
 cats:List ByteArray
 conds:List aq
 rules:List aj
 trans:List bM
 aN:List kS
 ranges:List kT
 cons:List oZ
 bO:List kR
 files:List kU
 asserts:List kW
structure aC.Ok (p:aC):Prop where
 classes:∀ x∈p.classes,mD.Ok x
 afq:pO p.classes.length
 types:∀ x∈p.types,mH.Ok x
 vW:pO p.types.length
 attrs:∀ x∈p.attrs,kV.Ok x
 ai4:pO p.attrs.length
 roles:∀ x∈p.roles,iD.Ok x
 TR:pO p.roles.length
 users:∀ x∈p.users,kC.Ok x
 aar:pO p.users.length
 bools:∀ x∈p.bools,dP.Ok x
 ai3:pO p.bools.length
 aZ:∀ x∈p.aZ,dF x
 ajF:pO p.aZ.length
 cats:∀ x∈p.cats,dF x
 akZ:pO p.cats.length
 conds:∀ x∈p.conds,aq.Ok x
 Wd:pO p.conds.length
 rules:∀ x∈p.rules,aj.yN x
 TM:pO p.rules.length
 trans:∀ x∈p.trans,bM.Ok x
 Tp:pO p.trans.length
 aN:∀ x∈p.aN,kS.Ok x
 afX:pO p.aN.length
 ranges:∀ x∈p.ranges,kT.Ok x
 af2:pO p.ranges.length
 cons:∀ x∈p.cons,oZ.Ok x
 akY:pO p.cons.length
 bO:∀ x∈p.bO,kR.Ok x
 ajE:pO p.bO.length
 files:∀ x∈p.files,kU.Ok x
 aiV:pO p.files.length
 asserts:∀ x∈p.asserts,kW.Ok x
 afu:pO p.asserts.length
def aW(s:ByteArray):List Value:=[.string s]
theorem Ir(s:ByteArray):(aW s).length=1:=rfl
def aF(w:World)(v:Value)(l:List ByteArray):Prop:=SliceAt w v 1 l.length (l.flatMap aW)
theorem aF.keep{w w':World}{v:Value}{l:List ByteArray}(h:aF w v l)(hb:Below w.heap.size w w'):aF w' v l:=SliceAt.keep h hb
def au{α:Type}(k:Nat)(R:List Value→α→Prop)(w:World)(v:Value)(l:List α):Prop:=
 ∃ es:List (List Value),es.length=l.length∧(∀ x∈es,x.length=k)∧SliceAt w v k l.length es.flatten∧∀ (i:Nat) x y,es[i]?=some x→l[i]?=some y→R x y
theorem au.slice{α:Type}{k:Nat}{R:List Value→α→Prop}{w:World}{v:Value}{l:List α}(h:au k R w v l):∃ cs,SliceAt w v k l.length cs:=by
 obtain⟨es,_,_,h,_⟩:=h;exact⟨_,h⟩
theorem au.form{α:Type}{k:Nat}{R:List Value→α→Prop}{w:World}{v:Value}{l:List α}(h:au k R w v l)(hk:0<k):
 ∃ a c,v=.slice a l.length c∧l.length≤c∧l.length≤9223372036854775807∧∀ i y,l[i]?=some y→∃ b off x,a=some ⟨b,off,none⟩∧R x y∧x.length=k∧∀ j u,x[j]?=some u→w.cell? ⟨b,off+i*k+j,none⟩=some u:=by
 obtain⟨es,h1,h2,h3,h4⟩:=h;obtain⟨a,c,hv,hc,hm,hcell⟩:=h3.form hk;refine⟨a,c,hv,hc,hm,fun i y hy=>?_⟩;have hi:=(atY.1 hy).1;obtain⟨b,off,ha,hcl⟩:=hcell i hi;obtain⟨x,hx⟩:∃ x,es[i]?=some x:=⟨_,auc (by omega)⟩;refine⟨b,off,x,ha,h4 i x y hx hy,h2 x (at3 hx),fun j u hu=>hcl j u ?_⟩;rw[JK h2 hx j (by rw[← h2 x (at3 hx)];exact(atY.1 hu).1)];exact hu
theorem au.mono{α:Type}{k:Nat}{R R':List Value→α→Prop}{w w':World}{v:Value}{l:List α}(h:au k R w v l)(hb:Below w.heap.size w w')(hr:∀ x y,R x y→R' x y):au k R' w' v l:=by
 obtain⟨es,h1,h2,h3,h4⟩:=h;exact⟨es,h1,h2,h3.keep hb,fun i x y hx hy=>hr x y (h4 i x y hx hy)⟩
inductive bf (w:World):List Value→aq→Prop
 | node {op a rel b:Int} {names:List ByteArray} {set:ay} {kids:List aq} {nv kv:Value} {es:List (List Value)}:aF w nv names→es.length=kids.length→(∀ x∈es,x.length=10)→SliceAt w kv 10 kids.length es.flatten →
  (∀ (i:Nat) x y,es[i]?=some x→kids[i]?=some y→bf w x y) →
  bf w [.int .i64 op,.int .i64 a,.int .i64 rel,.int .i64 b,nv,.int .u64 set.a,.int .u64 set.b,.int .u64 set.c,.int .u64 set.d,kv] (.node op a rel b names set kids)
theorem bf.keep{w w':World}(hb:Below w.heap.size w w'){cs:List Value}{e:aq}(h:bf w cs e):bf w' cs e:=by
 induction h with
 | node h1 h2 h3 h4 _ ih=>exact .node (h1.keep hb) h2 h3 (h4.keep hb) ih
theorem bf.open{w:World}{cs:List Value}{e:aq}(h:bf w cs e):∃ nv kv,cs=[.int .i64 e.op,.int .i64 e.a,.int .i64 e.rel,.int .i64 e.b,nv,.int .u64 e.set.a,.int .u64 e.set.b,.int .u64 e.set.c,.int .u64 e.set.d,kv]∧aF w nv e.names∧au 10 (bf w) w kv e.kids:=by
 cases h with
 | node h1 h2 h3 h4 h5=>exact⟨_,_,rfl,h1,_,h2,h3,h4,h5⟩
def mq(w:World)(v:Value)(l:List aq):Prop:=au 10 (bf w) w v l
theorem mq.keep{w w':World}{v:Value}{l:List aq}(h:mq w v l)(hb:Below w.heap.size w w'):mq w' v l:=au.mono h hb fun _ _ h=>bf.keep hb h
def qZ(w:World)(cs:List Value)(x:mD):Prop:=∃ v,cs=[.string x.name,v]∧aF w v x.perms
def qU(w:World)(cs:List Value)(x:mH):Prop:=∃ v,cs=[.string x.name,v,.bool x.perm]∧aF w v x.oT
def qY(w:World)(cs:List Value)(x:oZ):Prop:=∃ es,cs=[.int .i64 x.cls,.int .u32 x.perms,.bool x.val]++es∧bf w es x.expr
theorem qZ.keep{w w':World}(hb:Below w.heap.size w w'){cs:List Value}{x:mD}(h:qZ w cs x):qZ w' cs x:=by
 obtain⟨v,e,h⟩:=h;exact⟨v,e,h.keep hb⟩
theorem qU.keep{w w':World}(hb:Below w.heap.size w w'){cs:List Value}{x:mH}(h:qU w cs x):qU w' cs x:=by
 obtain⟨v,e,h⟩:=h;exact⟨v,e,h.keep hb⟩
theorem qY.keep{w w':World}(hb:Below w.heap.size w w'){cs:List Value}{x:oZ}(h:qY w cs x):qY w' cs x:=by
 obtain⟨v,e,h⟩:=h;exact⟨v,e,h.keep hb⟩
structure aM (w:World) (c0 c1 c2 c3 c4 c5 c6 c7 c8 c9 aV aP aO aU aT aS aR:Value) (p:aC):Prop where
 classes:au 2 (qZ w) w c0 p.classes
 types:au 3 (qU w) w c1 p.types
 attrs:SliceAt w c2 5 p.attrs.length (p.attrs.flatMap kV.cells)
 roles:SliceAt w c3 9 p.roles.length (p.roles.flatMap iD.cells)
 users:SliceAt w c4 11 p.users.length (p.users.flatMap kC.cells)
 bools:SliceAt w c5 2 p.bools.length (p.bools.flatMap dP.cells)
 aZ:aF w c6 p.aZ
 cats:aF w c7 p.cats
 conds:mq w c8 p.conds
 rules:SliceAt w c9 13 p.rules.length (p.rules.flatMap aj.cells)
 trans:SliceAt w aV 13 p.trans.length (p.trans.flatMap bM.cells)
 aN:SliceAt w aP 10 p.aN.length (p.aN.flatMap kS.cells)
 ranges:SliceAt w aO 13 p.ranges.length (p.ranges.flatMap kT.cells)
 cons:au 13 (qY w) w aU p.cons
 bO:SliceAt w aT 8 p.bO.length (p.bO.flatMap kR.cells)
 files:SliceAt w aS 9 p.files.length (p.files.flatMap kU.cells)
 asserts:SliceAt w aR 10 p.asserts.length (p.asserts.flatMap kW.cells)
theorem aM.keep{w w':World}{c0 c1 c2 c3 c4 c5 c6 c7 c8 c9 aV aP aO aU aT aS aR:Value}{p:aC}(h:aM w c0 c1 c2 c3 c4 c5 c6 c7 c8 c9 aV aP aO aU aT aS aR p)(hb:Below w.heap.size w w'):aM w' c0 c1 c2 c3 c4 c5 c6 c7 c8 c9 aV aP aO aU aT aS aR p:=
 ⟨au.mono h.classes hb fun _ _ h=>qZ.keep hb h,au.mono h.types hb fun _ _ h=>qU.keep hb h,h.attrs.keep hb,h.roles.keep hb,h.users.keep hb,h.bools.keep hb,h.aZ.keep hb,h.cats.keep hb,h.conds.keep hb,h.rules.keep hb,h.trans.keep hb,h.aN.keep hb,h.ranges.keep hb,au.mono h.cons hb fun _ _ h=>qY.keep hb h,h.bO.keep hb,h.files.keep hb,h.asserts.keep hb⟩
theorem fU{n:Nat}(h:n≤reachBytes):n≤140737488355328:=by unfold reachBytes at h;omega
theorem bU{n b:Nat}(hb:0<b)(h:n*b≤reachBytes):n≤140737488355328:=fU (Nat.le_trans (Nat.le_mul_of_pos_right n hb) h)
theorem wf_i64{n:Int}(h:(Lit.int .i64 n).wf=true):iR n:=by
 have a1:IntKind.i64.min=-9223372036854775808:=by decide
 have a2:IntKind.i64.max=9223372036854775807:=by decide
 simp only[Lit.wf,a1,a2] at h;simp at h;unfold iR;omega
theorem wf_u32{n:Int}(h:(Lit.int .u32 n).wf=true):PG n:=by
 have a1:IntKind.u32.min=0:=by decide
 have a2:IntKind.u32.max=4294967295:=by decide
 simp only[Lit.wf,a1,a2] at h;simp at h;unfold PG;omega
theorem wf_u64{n:Int}(h:(Lit.int .u64 n).wf=true):∃ m:Nat,n=m∧zl m:=by
 have a1:IntKind.u64.min=0:=by decide
 have a2:IntKind.u64.max=18446744073709551615:=by decide
 simp only[Lit.wf,a1,a2] at h;simp at h;exact⟨n.toNat,by omega,by unfold zl;omega⟩
theorem dH{w:World}{f:Nat}{cs:List Value}(h:Rd Tryz.prog w f 54 cs):∃ s:ay,cs=s.cells∧s.Ok:=by
 obtain⟨f',rfl,es,rfl,hn,hx⟩:=h.array Tryz.underlying54
 match es,hn with
 | [e0,e1,e2,e3],_=>
  obtain⟨A,rfl,hA⟩:=(hx e0 (by simp)).2.int Tryz.underlying52;obtain⟨B,rfl,hB⟩:=(hx e1 (by simp)).2.int Tryz.underlying52;obtain⟨C,rfl,hC⟩:=(hx e2 (by simp)).2.int Tryz.underlying52;obtain⟨D,rfl,hD⟩:=(hx e3 (by simp)).2.int Tryz.underlying52;obtain⟨a,rfl,ha⟩:=wf_u64 hA;obtain⟨b,rfl,hb⟩:=wf_u64 hB;obtain⟨c,rfl,hc⟩:=wf_u64 hC;obtain⟨d,rfl,hd⟩:=wf_u64 hD;exact⟨⟨a,b,c,d⟩,rfl,ha,hb,hc,hd⟩
theorem wO{w:World}{f:Nat}{cs:List Value}(h:Rd Tryz.prog w f 70 cs):∃ x:rW,cs=x.cells∧x.Ok:=by
 obtain⟨f',rfl,h⟩:=h.struct Tryz.underlying70;obtain⟨c0,_,rfl,-,r0,c1,_,rfl,-,r1,hn⟩:=h;obtain rfl:_=[]:=hn;obtain⟨A,rfl,hA⟩:=r0.int Tryz.underlying3;obtain⟨B',rfl,hB'⟩:=r1.int Tryz.underlying52;obtain⟨B,rfl,hB⟩:=wf_u64 hB';exact⟨⟨A,B⟩,rfl,⟨wf_i64 hA,hB⟩⟩
theorem wu{w:World}{f:Nat}{cs:List Value}(h:Rd Tryz.prog w f 72 cs):∃ x:vC,cs=x.cells∧x.Ok:=by
 obtain⟨f',rfl,h⟩:=h.struct Tryz.underlying72;obtain⟨c0,_,rfl,-,r0,c1,_,rfl,-,r1,hn⟩:=h;obtain rfl:_=[]:=hn;obtain⟨A,rfl,hA⟩:=wO r0;obtain⟨B,rfl,hB⟩:=wO r1;exact⟨⟨A,B⟩,rfl,⟨hA,hB⟩⟩
theorem Ef{w:World}{f:Nat}{cs:List Value}(h:Rd Tryz.prog w f 74 cs):∃ x:xR,cs=x.cells∧x.Ok:=by
 obtain⟨f',rfl,h⟩:=h.struct Tryz.underlying74;obtain⟨c0,_,rfl,-,r0,c1,_,rfl,-,r1,c2,_,rfl,-,r2,c3,_,rfl,-,r3,hn⟩:=h;obtain rfl:_=[]:=hn;obtain⟨A,rfl,hA⟩:=r0.int Tryz.underlying3;obtain⟨B,rfl,hB⟩:=r1.int Tryz.underlying3;obtain⟨C,rfl,hC⟩:=r2.int Tryz.underlying3;obtain⟨D,rfl,hD⟩:=wu r3;exact⟨⟨A,B,C,D⟩,rfl,⟨wf_i64 hA,wf_i64 hB,wf_i64 hC,hD⟩⟩
theorem cC{α:Type}{Q:List Value→Prop}{R:List Value→α→Prop}(one:∀ cs,Q cs→∃ x,R cs x):∀ es:List (List Value),(∀ x∈es,Q x)→∃ l:List α,es.length=l.length∧(∀ (i:Nat) x y,es[i]?=some x→l[i]?=some y→R x y)
 | [],_=>⟨[],rfl,fun i x y h=>by simp at h⟩
 | e::es,h=>by
  obtain⟨x,hx⟩:=one e (h e (by simp));obtain⟨l,h1,h2⟩:=cC one es fun y hy=>h y (by simp[hy])
  refine⟨x::l,by simp[h1],fun i y z hy hz=>?_⟩
  cases i with
  | zero=>simp at hy hz;subst hy hz;exact hx
  | succ i=>exact h2 i y z (by simpa using hy) (by simpa using hz)
theorem dO{α:Type}{R:List Value→α→Prop}{B:α→Prop}{es:List (List Value)}{l:List α}(hl:es.length=l.length)(h:∀ (i:Nat) x y,es[i]?=some x→l[i]?=some y→R x y∧B y):∀ y∈l,B y:=by
 intro y hy;obtain⟨i,hi⟩:=List.getElem?_of_mem hy;have hlt:=(atY.1 hi).1;exact(h i _ y (auc (by omega)) hi).2
theorem d_{α:Type}{cells:α→List Value}:∀ {es:List (List Value)} {l:List α},es.length=l.length→(∀ (i:Nat) x y,es[i]?=some x→l[i]?=some y→x=cells y)→es.flatten=l.flatMap cells
 | [],[],_,_=>rfl
 | [],_::_,h,_=>by simp at h
 | _::_,[],h,_=>by simp at h
 | e::es,x::l,h,hr=>by
  rw[List.flatten_cons,List.flatMap_cons,hr 0 e x rfl rfl,d_ (es:=es) (l:=l) (by simpa using h) fun i a b ha hb=>hr (i+1) a b (by simpa using ha) (by simpa using hb)]
theorem Qc{w:World}{f:Nat}{cs:List Value}(h:Rd Tryz.prog w f 9 cs):∃ x,cs=aW x∧dF x:=by
 obtain⟨s,rfl,hs⟩:=h.string Tryz.underlying9;exact⟨s,rfl,fU hs⟩
theorem nJ{w:World}{f:Nat}{cs:List Value}(h:Rd Tryz.prog w f 28 cs):∃ v,∃ l:List ByteArray,cs=[v]∧SliceAt w v 1 l.length (l.flatMap aW)∧(∀ x∈l,dF x)∧pO l.length:=by
 obtain⟨f',v,rfl,rfl,es,h1,h2,h3⟩:=h.slice Tryz.underlying28;rw[show Tryz.prog.cellsOf 9=1 from by kernel_rfl] at h1;obtain⟨l,e1,e2⟩:=cC (R:=fun cs (x:ByteArray)=>cs=aW x∧dF x) (fun cs h=>Qc h.2) es h2;rw[d_ e1 fun i x y hx hy=>(e2 i x y hx hy).1,e1] at h1;rw[e1] at h3;exact⟨v,l,rfl,h1,dO e1 e2,bU (of_decide_eq_true (by kernel_rfl)) h3⟩
theorem BS{w:World}:∀ (f:Nat) (cs:List Value),Rd Tryz.prog w f 89 cs→∃ e,bf w cs e∧e.Ok:=by
 intro f
 induction f using Nat.strongRecOn with
 | ind f ih=>
  intro cs h;obtain⟨f',rfl,h⟩:=h.struct Tryz.underlying89;obtain⟨c0,_,rfl,-,r0,c1,_,rfl,-,r1,c2,_,rfl,-,r2,c3,_,rfl,-,r3,c4,_,rfl,-,r4,c5,_,rfl,-,r5,c6,_,rfl,-,r6,hn⟩:=h;obtain rfl:_=[]:=hn;obtain⟨A,rfl,hA⟩:=r0.int Tryz.underlying3;obtain⟨B,rfl,hB⟩:=r1.int Tryz.underlying3;obtain⟨C,rfl,hC⟩:=r2.int Tryz.underlying3;obtain⟨D,rfl,hD⟩:=r3.int Tryz.underlying3;obtain⟨nv,ns,rfl,hns,hno,hnl⟩:=nJ r4;obtain⟨s,rfl,hs⟩:=dH r5;obtain⟨f'',kv,rfl,rfl,es,h1,h2,h3⟩:=r6.slice Tryz.underlying29;rw[show Tryz.prog.cellsOf 89=10 from by kernel_rfl] at h1 h2;obtain⟨l,e1,e2⟩:=cC (R:=fun cs (x:aq)=>bf w cs x∧x.Ok) (fun cs h=>ih f'' (by omega) cs h.2) es h2;rw[e1] at h1 h3;exact⟨.node A B C D ns s l,.node hns e1 (fun x hx=>(h2 x hx).1) h1 fun i x y hx hy=>(e2 i x y hx hy).1,.node (wf_i64 hA) (wf_i64 hB) (wf_i64 hC) (wf_i64 hD) ⟨hnl,hno⟩ hs (bU (of_decide_eq_true (by kernel_rfl)) h3) (dO e1 e2)⟩
theorem KD{w:World}{f:Nat}{cs:List Value}(h:Rd Tryz.prog w f 56 cs):∃ x:aj,cs=x.cells∧x.yN:=by
 obtain⟨f',rfl,h⟩:=h.struct Tryz.underlying56;obtain⟨c0,_,rfl,-,r0,c1,_,rfl,-,r1,c2,_,rfl,-,r2,c3,_,rfl,-,r3,c4,_,rfl,-,r4,c5,_,rfl,-,r5,c6,_,rfl,-,r6,hn⟩:=h;obtain rfl:_=[]:=hn;obtain⟨A,rfl,hA⟩:=r0.int Tryz.underlying3;obtain⟨B,rfl,hB⟩:=dH r1;obtain⟨C,rfl,hC⟩:=dH r2;obtain⟨D,rfl⟩:=r3.bool Tryz.underlying4;obtain⟨E,rfl,hE⟩:=r4.int Tryz.underlying3;obtain⟨F,rfl,hF⟩:=r5.int Tryz.underlying50;obtain⟨G,rfl,hG⟩:=r6.int Tryz.underlying3;exact⟨⟨A,B,C,D,E,F,G⟩,rfl,⟨wf_i64 hA,hB,hC,wf_i64 hE,wf_u32 hF,wf_i64 hG⟩⟩
theorem NQ{w:World}{f:Nat}{cs:List Value}(h:Rd Tryz.prog w f 30 cs):∃ v,∃ l:List aj,cs=[v]∧SliceAt w v 13 l.length (l.flatMap aj.cells)∧(∀ x∈l,aj.yN x)∧pO l.length:=by
 obtain⟨f',v,rfl,rfl,es,h1,h2,h3⟩:=h.slice Tryz.underlying30;rw[show Tryz.prog.cellsOf 56=13 from by kernel_rfl] at h1;obtain⟨l,e1,e2⟩:=cC (R:=fun cs (x:aj)=>cs=aj.cells x∧aj.yN x) (fun cs h=>KD h.2) es h2;rw[d_ e1 fun i x y hx hy=>(e2 i x y hx hy).1,e1] at h1;rw[e1] at h3;exact⟨v,l,rfl,h1,dO e1 e2,bU (of_decide_eq_true (by kernel_rfl)) h3⟩
theorem NZ{w:World}{f:Nat}{cs:List Value}(h:Rd Tryz.prog w f 184 cs):∃ x:kV,cs=x.cells∧x.Ok:=by
 obtain⟨f',rfl,h⟩:=h.struct Tryz.underlying184;obtain⟨c0,_,rfl,-,r0,c1,_,rfl,-,r1,hn⟩:=h;obtain rfl:_=[]:=hn;obtain⟨A,rfl,hA⟩:=r0.string Tryz.underlying9;obtain⟨B,rfl,hB⟩:=dH r1;exact⟨⟨A,B⟩,rfl,⟨fU hA,hB⟩⟩
theorem Sl{w:World}{f:Nat}{cs:List Value}(h:Rd Tryz.prog w f 24 cs):∃ v,∃ l:List kV,cs=[v]∧SliceAt w v 5 l.length (l.flatMap kV.cells)∧(∀ x∈l,kV.Ok x)∧pO l.length:=by
 obtain⟨f',v,rfl,rfl,es,h1,h2,h3⟩:=h.slice Tryz.underlying24;rw[show Tryz.prog.cellsOf 184=5 from by kernel_rfl] at h1;obtain⟨l,e1,e2⟩:=cC (R:=fun cs (x:kV)=>cs=kV.cells x∧kV.Ok x) (fun cs h=>NZ h.2) es h2;rw[d_ e1 fun i x y hx hy=>(e2 i x y hx hy).1,e1] at h1;rw[e1] at h3;exact⟨v,l,rfl,h1,dO e1 e2,bU (of_decide_eq_true (by kernel_rfl)) h3⟩
theorem NT{w:World}{f:Nat}{cs:List Value}(h:Rd Tryz.prog w f 188 cs):∃ x:iD,cs=x.cells∧x.Ok:=by
 obtain⟨f',rfl,h⟩:=h.struct Tryz.underlying188;obtain⟨c0,_,rfl,-,r0,c1,_,rfl,-,r1,c2,_,rfl,-,r2,hn⟩:=h;obtain rfl:_=[]:=hn;obtain⟨A,rfl,hA⟩:=r0.string Tryz.underlying9;obtain⟨B,rfl,hB⟩:=dH r1;obtain⟨C,rfl,hC⟩:=dH r2;exact⟨⟨A,B,C⟩,rfl,⟨fU hA,hB,hC⟩⟩
theorem Sd{w:World}{f:Nat}{cs:List Value}(h:Rd Tryz.prog w f 25 cs):∃ v,∃ l:List iD,cs=[v]∧SliceAt w v 9 l.length (l.flatMap iD.cells)∧(∀ x∈l,iD.Ok x)∧pO l.length:=by
 obtain⟨f',v,rfl,rfl,es,h1,h2,h3⟩:=h.slice Tryz.underlying25;rw[show Tryz.prog.cellsOf 188=9 from by kernel_rfl] at h1;obtain⟨l,e1,e2⟩:=cC (R:=fun cs (x:iD)=>cs=iD.cells x∧iD.Ok x) (fun cs h=>NT h.2) es h2;rw[d_ e1 fun i x y hx hy=>(e2 i x y hx hy).1,e1] at h1;rw[e1] at h3;exact⟨v,l,rfl,h1,dO e1 e2,bU (of_decide_eq_true (by kernel_rfl)) h3⟩
theorem NJ{w:World}{f:Nat}{cs:List Value}(h:Rd Tryz.prog w f 192 cs):∃ x:kC,cs=x.cells∧x.Ok:=by
 obtain⟨f',rfl,h⟩:=h.struct Tryz.underlying192;obtain⟨c0,_,rfl,-,r0,c1,_,rfl,-,r1,c2,_,rfl,-,r2,c3,_,rfl,-,r3,hn⟩:=h;obtain rfl:_=[]:=hn;obtain⟨A,rfl,hA⟩:=r0.string Tryz.underlying9;obtain⟨B,rfl,hB⟩:=dH r1;obtain⟨C,rfl,hC⟩:=wO r2;obtain⟨D,rfl,hD⟩:=wu r3;exact⟨⟨A,B,C,D⟩,rfl,⟨fU hA,hB,hC,hD⟩⟩
theorem R8{w:World}{f:Nat}{cs:List Value}(h:Rd Tryz.prog w f 26 cs):∃ v,∃ l:List kC,cs=[v]∧SliceAt w v 11 l.length (l.flatMap kC.cells)∧(∀ x∈l,kC.Ok x)∧pO l.length:=by
 obtain⟨f',v,rfl,rfl,es,h1,h2,h3⟩:=h.slice Tryz.underlying26;rw[show Tryz.prog.cellsOf 192=11 from by kernel_rfl] at h1;obtain⟨l,e1,e2⟩:=cC (R:=fun cs (x:kC)=>cs=kC.cells x∧kC.Ok x) (fun cs h=>NJ h.2) es h2;rw[d_ e1 fun i x y hx hy=>(e2 i x y hx hy).1,e1] at h1;rw[e1] at h3;exact⟨v,l,rfl,h1,dO e1 e2,bU (of_decide_eq_true (by kernel_rfl)) h3⟩
theorem NY{w:World}{f:Nat}{cs:List Value}(h:Rd Tryz.prog w f 197 cs):∃ x:dP,cs=x.cells∧x.Ok:=by
 obtain⟨f',rfl,h⟩:=h.struct Tryz.underlying197;obtain⟨c0,_,rfl,-,r0,c1,_,rfl,-,r1,hn⟩:=h;obtain rfl:_=[]:=hn;obtain⟨A,rfl,hA⟩:=r0.string Tryz.underlying9;obtain⟨B,rfl⟩:=r1.bool Tryz.underlying4;exact⟨⟨A,B⟩,rfl,⟨fU hA⟩⟩
theorem Sk{w:World}{f:Nat}{cs:List Value}(h:Rd Tryz.prog w f 27 cs):∃ v,∃ l:List dP,cs=[v]∧SliceAt w v 2 l.length (l.flatMap dP.cells)∧(∀ x∈l,dP.Ok x)∧pO l.length:=by
 obtain⟨f',v,rfl,rfl,es,h1,h2,h3⟩:=h.slice Tryz.underlying27;rw[show Tryz.prog.cellsOf 197=2 from by kernel_rfl] at h1;obtain⟨l,e1,e2⟩:=cC (R:=fun cs (x:dP)=>cs=dP.cells x∧dP.Ok x) (fun cs h=>NY h.2) es h2;rw[d_ e1 fun i x y hx hy=>(e2 i x y hx hy).1,e1] at h1;rw[e1] at h3;exact⟨v,l,rfl,h1,dO e1 e2,bU (of_decide_eq_true (by kernel_rfl)) h3⟩
theorem NM{w:World}{f:Nat}{cs:List Value}(h:Rd Tryz.prog w f 84 cs):∃ x:bM,cs=x.cells∧x.Ok:=by
 obtain⟨f',rfl,h⟩:=h.struct Tryz.underlying84;obtain⟨c0,_,rfl,-,r0,c1,_,rfl,-,r1,c2,_,rfl,-,r2,c3,_,rfl,-,r3,c4,_,rfl,-,r4,c5,_,rfl,-,r5,c6,_,rfl,-,r6,hn⟩:=h;obtain rfl:_=[]:=hn;obtain⟨A,rfl,hA⟩:=r0.int Tryz.underlying3;obtain⟨B,rfl,hB⟩:=dH r1;obtain⟨C,rfl,hC⟩:=dH r2;obtain⟨D,rfl,hD⟩:=r3.int Tryz.underlying3;obtain⟨E,rfl,hE⟩:=r4.string Tryz.underlying9;obtain⟨F,rfl,hF⟩:=r5.int Tryz.underlying3;obtain⟨G,rfl,hG⟩:=r6.int Tryz.underlying3;exact⟨⟨A,B,C,D,E,F,G⟩,rfl,⟨wf_i64 hA,hB,hC,wf_i64 hD,fU hE,wf_i64 hF,wf_i64 hG⟩⟩
theorem R_{w:World}{f:Nat}{cs:List Value}(h:Rd Tryz.prog w f 31 cs):∃ v,∃ l:List bM,cs=[v]∧SliceAt w v 13 l.length (l.flatMap bM.cells)∧(∀ x∈l,bM.Ok x)∧pO l.length:=by
 obtain⟨f',v,rfl,rfl,es,h1,h2,h3⟩:=h.slice Tryz.underlying31;rw[show Tryz.prog.cellsOf 84=13 from by kernel_rfl] at h1;obtain⟨l,e1,e2⟩:=cC (R:=fun cs (x:bM)=>cs=bM.cells x∧bM.Ok x) (fun cs h=>NM h.2) es h2;rw[d_ e1 fun i x y hx hy=>(e2 i x y hx hy).1,e1] at h1;rw[e1] at h3;exact⟨v,l,rfl,h1,dO e1 e2,bU (of_decide_eq_true (by kernel_rfl)) h3⟩
theorem NR{w:World}{f:Nat}{cs:List Value}(h:Rd Tryz.prog w f 203 cs):∃ x:kS,cs=x.cells∧x.Ok:=by
 obtain⟨f',rfl,h⟩:=h.struct Tryz.underlying203;obtain⟨c0,_,rfl,-,r0,c1,_,rfl,-,r1,c2,_,rfl,-,r2,c3,_,rfl,-,r3,hn⟩:=h;obtain rfl:_=[]:=hn;obtain⟨A,rfl,hA⟩:=dH r0;obtain⟨B,rfl,hB⟩:=dH r1;obtain⟨C,rfl,hC⟩:=r2.int Tryz.underlying3;obtain⟨D,rfl,hD⟩:=r3.int Tryz.underlying3;exact⟨⟨A,B,C,D⟩,rfl,⟨hA,hB,wf_i64 hC,wf_i64 hD⟩⟩
theorem Sc{w:World}{f:Nat}{cs:List Value}(h:Rd Tryz.prog w f 32 cs):∃ v,∃ l:List kS,cs=[v]∧SliceAt w v 10 l.length (l.flatMap kS.cells)∧(∀ x∈l,kS.Ok x)∧pO l.length:=by
 obtain⟨f',v,rfl,rfl,es,h1,h2,h3⟩:=h.slice Tryz.underlying32;rw[show Tryz.prog.cellsOf 203=10 from by kernel_rfl] at h1;obtain⟨l,e1,e2⟩:=cC (R:=fun cs (x:kS)=>cs=kS.cells x∧kS.Ok x) (fun cs h=>NR h.2) es h2;rw[d_ e1 fun i x y hx hy=>(e2 i x y hx hy).1,e1] at h1;rw[e1] at h3;exact⟨v,l,rfl,h1,dO e1 e2,bU (of_decide_eq_true (by kernel_rfl)) h3⟩
theorem NU{w:World}{f:Nat}{cs:List Value}(h:Rd Tryz.prog w f 205 cs):∃ x:kT,cs=x.cells∧x.Ok:=by
 obtain⟨f',rfl,h⟩:=h.struct Tryz.underlying205;obtain⟨c0,_,rfl,-,r0,c1,_,rfl,-,r1,c2,_,rfl,-,r2,c3,_,rfl,-,r3,hn⟩:=h;obtain rfl:_=[]:=hn;obtain⟨A,rfl,hA⟩:=dH r0;obtain⟨B,rfl,hB⟩:=dH r1;obtain⟨C,rfl,hC⟩:=r2.int Tryz.underlying3;obtain⟨D,rfl,hD⟩:=wu r3;exact⟨⟨A,B,C,D⟩,rfl,⟨hA,hB,wf_i64 hC,hD⟩⟩
theorem Sg{w:World}{f:Nat}{cs:List Value}(h:Rd Tryz.prog w f 33 cs):∃ v,∃ l:List kT,cs=[v]∧SliceAt w v 13 l.length (l.flatMap kT.cells)∧(∀ x∈l,kT.Ok x)∧pO l.length:=by
 obtain⟨f',v,rfl,rfl,es,h1,h2,h3⟩:=h.slice Tryz.underlying33;rw[show Tryz.prog.cellsOf 205=13 from by kernel_rfl] at h1;obtain⟨l,e1,e2⟩:=cC (R:=fun cs (x:kT)=>cs=kT.cells x∧kT.Ok x) (fun cs h=>NU h.2) es h2;rw[d_ e1 fun i x y hx hy=>(e2 i x y hx hy).1,e1] at h1;rw[e1] at h3;exact⟨v,l,rfl,h1,dO e1 e2,bU (of_decide_eq_true (by kernel_rfl)) h3⟩
theorem NN{w:World}{f:Nat}{cs:List Value}(h:Rd Tryz.prog w f 125 cs):∃ x:kR,cs=x.cells∧x.Ok:=by
 obtain⟨f',rfl,h⟩:=h.struct Tryz.underlying125;obtain⟨c0,_,rfl,-,r0,c1,_,rfl,-,r1,hn⟩:=h;obtain rfl:_=[]:=hn;obtain⟨A,rfl,hA⟩:=r0.string Tryz.underlying9;obtain⟨B,rfl,hB⟩:=Ef r1;exact⟨⟨A,B⟩,rfl,⟨fU hA,hB⟩⟩
theorem Sb{w:World}{f:Nat}{cs:List Value}(h:Rd Tryz.prog w f 35 cs):∃ v,∃ l:List kR,cs=[v]∧SliceAt w v 8 l.length (l.flatMap kR.cells)∧(∀ x∈l,kR.Ok x)∧pO l.length:=by
 obtain⟨f',v,rfl,rfl,es,h1,h2,h3⟩:=h.slice Tryz.underlying35;rw[show Tryz.prog.cellsOf 125=8 from by kernel_rfl] at h1;obtain⟨l,e1,e2⟩:=cC (R:=fun cs (x:kR)=>cs=kR.cells x∧kR.Ok x) (fun cs h=>NN h.2) es h2;rw[d_ e1 fun i x y hx hy=>(e2 i x y hx hy).1,e1] at h1;rw[e1] at h3;exact⟨v,l,rfl,h1,dO e1 e2,bU (of_decide_eq_true (by kernel_rfl)) h3⟩
theorem NV{w:World}{f:Nat}{cs:List Value}(h:Rd Tryz.prog w f 127 cs):∃ x:kU,cs=x.cells∧x.Ok:=by
 obtain⟨f',rfl,h⟩:=h.struct Tryz.underlying127;obtain⟨c0,_,rfl,-,r0,c1,_,rfl,-,r1,c2,_,rfl,-,r2,hn⟩:=h;obtain rfl:_=[]:=hn;obtain⟨A,rfl,hA⟩:=r0.string Tryz.underlying9;obtain⟨B,rfl,hB⟩:=r1.int Tryz.underlying3;obtain⟨C,rfl,hC⟩:=Ef r2;exact⟨⟨A,B,C⟩,rfl,⟨fU hA,wf_i64 hB,hC⟩⟩
theorem Sh{w:World}{f:Nat}{cs:List Value}(h:Rd Tryz.prog w f 36 cs):∃ v,∃ l:List kU,cs=[v]∧SliceAt w v 9 l.length (l.flatMap kU.cells)∧(∀ x∈l,kU.Ok x)∧pO l.length:=by
 obtain⟨f',v,rfl,rfl,es,h1,h2,h3⟩:=h.slice Tryz.underlying36;rw[show Tryz.prog.cellsOf 127=9 from by kernel_rfl] at h1;obtain⟨l,e1,e2⟩:=cC (R:=fun cs (x:kU)=>cs=kU.cells x∧kU.Ok x) (fun cs h=>NV h.2) es h2;rw[d_ e1 fun i x y hx hy=>(e2 i x y hx hy).1,e1] at h1;rw[e1] at h3;exact⟨v,l,rfl,h1,dO e1 e2,bU (of_decide_eq_true (by kernel_rfl)) h3⟩
theorem N5{w:World}{f:Nat}{cs:List Value}(h:Rd Tryz.prog w f 129 cs):∃ x:kW,cs=x.cells∧x.Ok:=by
 obtain⟨f',rfl,h⟩:=h.struct Tryz.underlying129;obtain⟨c0,_,rfl,-,r0,c1,_,rfl,-,r1,c2,_,rfl,-,r2,c3,_,rfl,-,r3,hn⟩:=h;obtain rfl:_=[]:=hn;obtain⟨A,rfl,hA⟩:=r0.string Tryz.underlying9;obtain⟨B,rfl,hB⟩:=r1.int Tryz.underlying3;obtain⟨C,rfl,hC⟩:=dH r2;obtain⟨D,rfl,hD⟩:=dH r3;exact⟨⟨A,B,C,D⟩,rfl,⟨fU hA,wf_i64 hB,hC,hD⟩⟩
theorem Sm{w:World}{f:Nat}{cs:List Value}(h:Rd Tryz.prog w f 37 cs):∃ v,∃ l:List kW,cs=[v]∧SliceAt w v 10 l.length (l.flatMap kW.cells)∧(∀ x∈l,kW.Ok x)∧pO l.length:=by
 obtain⟨f',v,rfl,rfl,es,h1,h2,h3⟩:=h.slice Tryz.underlying37;rw[show Tryz.prog.cellsOf 129=10 from by kernel_rfl] at h1;obtain⟨l,e1,e2⟩:=cC (R:=fun cs (x:kW)=>cs=kW.cells x∧kW.Ok x) (fun cs h=>N5 h.2) es h2;rw[d_ e1 fun i x y hx hy=>(e2 i x y hx hy).1,e1] at h1;rw[e1] at h3;exact⟨v,l,rfl,h1,dO e1 e2,bU (of_decide_eq_true (by kernel_rfl)) h3⟩
theorem NX{w:World}{f:Nat}{cs:List Value}(h:Rd Tryz.prog w f 180 cs):∃ x:mD,qZ w cs x∧x.Ok:=by
 obtain⟨f',rfl,h⟩:=h.struct Tryz.underlying180;obtain⟨c0,_,rfl,-,r0,c1,_,rfl,-,r1,hn⟩:=h;obtain rfl:_=[]:=hn;obtain⟨A,rfl,hA⟩:=r0.string Tryz.underlying9;obtain⟨vB,B,rfl,sB,aB,lB⟩:=nJ r1;exact⟨⟨A,B⟩,⟨vB,rfl,sB⟩,⟨fU hA,⟨lB,aB⟩⟩⟩
theorem Sj{w:World}{f:Nat}{cs:List Value}(h:Rd Tryz.prog w f 22 cs):∃ v,∃ l:List mD,cs=[v]∧au 2 (qZ w) w v l∧(∀ x∈l,mD.Ok x)∧pO l.length:=by
 obtain⟨f',v,rfl,rfl,es,h1,h2,h3⟩:=h.slice Tryz.underlying22;rw[show Tryz.prog.cellsOf 180=2 from by kernel_rfl] at h1 h2;obtain⟨l,e1,e2⟩:=cC (R:=fun cs (x:mD)=>qZ w cs x∧mD.Ok x) (fun cs h=>NX h.2) es h2;rw[e1] at h1 h3;exact⟨v,l,rfl,⟨es,e1,fun x hx=>(h2 x hx).1,h1,fun i x y hx hy=>(e2 i x y hx hy).1⟩,dO e1 e2,bU (of_decide_eq_true (by kernel_rfl)) h3⟩
theorem NK{w:World}{f:Nat}{cs:List Value}(h:Rd Tryz.prog w f 86 cs):∃ x:mH,qU w cs x∧x.Ok:=by
 obtain⟨f',rfl,h⟩:=h.struct Tryz.underlying86;obtain⟨c0,_,rfl,-,r0,c1,_,rfl,-,r1,c2,_,rfl,-,r2,hn⟩:=h;obtain rfl:_=[]:=hn;obtain⟨A,rfl,hA⟩:=r0.string Tryz.underlying9;obtain⟨vB,B,rfl,sB,aB,lB⟩:=nJ r1;obtain⟨C,rfl⟩:=r2.bool Tryz.underlying4;exact⟨⟨A,B,C⟩,⟨vB,rfl,sB⟩,⟨fU hA,⟨lB,aB⟩⟩⟩
theorem R9{w:World}{f:Nat}{cs:List Value}(h:Rd Tryz.prog w f 23 cs):∃ v,∃ l:List mH,cs=[v]∧au 3 (qU w) w v l∧(∀ x∈l,mH.Ok x)∧pO l.length:=by
 obtain⟨f',v,rfl,rfl,es,h1,h2,h3⟩:=h.slice Tryz.underlying23;rw[show Tryz.prog.cellsOf 86=3 from by kernel_rfl] at h1 h2;obtain⟨l,e1,e2⟩:=cC (R:=fun cs (x:mH)=>qU w cs x∧mH.Ok x) (fun cs h=>NK h.2) es h2;rw[e1] at h1 h3;exact⟨v,l,rfl,⟨es,e1,fun x hx=>(h2 x hx).1,h1,fun i x y hx hy=>(e2 i x y hx hy).1⟩,dO e1 e2,bU (of_decide_eq_true (by kernel_rfl)) h3⟩
theorem NW{w:World}{f:Nat}{cs:List Value}(h:Rd Tryz.prog w f 91 cs):∃ x:oZ,qY w cs x∧x.Ok:=by
 obtain⟨f',rfl,h⟩:=h.struct Tryz.underlying91;obtain⟨c0,_,rfl,-,r0,c1,_,rfl,-,r1,c2,_,rfl,-,r2,c3,_,rfl,-,r3,hn⟩:=h;obtain rfl:_=[]:=hn;obtain⟨A,rfl,hA⟩:=r0.int Tryz.underlying3;obtain⟨B,rfl,hB⟩:=r1.int Tryz.underlying50;obtain⟨C,rfl⟩:=r2.bool Tryz.underlying4;obtain⟨D,sD,hD⟩:=BS _ _ r3;exact⟨⟨A,B,C,D⟩,⟨_,by simp,sD⟩,⟨wf_i64 hA,wf_u32 hB,hD⟩⟩
theorem Si{w:World}{f:Nat}{cs:List Value}(h:Rd Tryz.prog w f 34 cs):∃ v,∃ l:List oZ,cs=[v]∧au 13 (qY w) w v l∧(∀ x∈l,oZ.Ok x)∧pO l.length:=by
 obtain⟨f',v,rfl,rfl,es,h1,h2,h3⟩:=h.slice Tryz.underlying34;rw[show Tryz.prog.cellsOf 91=13 from by kernel_rfl] at h1 h2;obtain⟨l,e1,e2⟩:=cC (R:=fun cs (x:oZ)=>qY w cs x∧oZ.Ok x) (fun cs h=>NW h.2) es h2;rw[e1] at h1 h3;exact⟨v,l,rfl,⟨es,e1,fun x hx=>(h2 x hx).1,h1,fun i x y hx hy=>(e2 i x y hx hy).1⟩,dO e1 e2,bU (of_decide_eq_true (by kernel_rfl)) h3⟩
theorem Rs{w:World}{f:Nat}{cs:List Value}(h:Rd Tryz.prog w f 29 cs):∃ v,∃ l:List aq,cs=[v]∧au 10 (bf w) w v l∧(∀ x∈l,aq.Ok x)∧pO l.length:=by
 obtain⟨f',v,rfl,rfl,es,h1,h2,h3⟩:=h.slice Tryz.underlying29;rw[show Tryz.prog.cellsOf 89=10 from by kernel_rfl] at h1 h2;obtain⟨l,e1,e2⟩:=cC (R:=fun cs (x:aq)=>bf w cs x∧aq.Ok x) (fun cs h=>BS _ _ h.2) es h2;rw[e1] at h1 h3;exact⟨v,l,rfl,⟨es,e1,fun x hx=>(h2 x hx).1,h1,fun i x y hx hy=>(e2 i x y hx hy).1⟩,dO e1 e2,bU (of_decide_eq_true (by kernel_rfl)) h3⟩
theorem TX{w:World}{u:Value}(h:Arg Tryz.prog w 39 u):∃ c0 c1 c2 c3 c4 c5 c6 c7 c8 c9 aV aP aO aU aT aS aR:Value,∃ p:aC,u=.agg #[c0,c1,c2,c3,c4,c5,c6,c7,c8,c9,aV,aP,aO,aU,aT,aS,aR]∧aM w c0 c1 c2 c3 c4 c5 c6 c7 c8 c9 aV aP aO aU aT aS aR p∧p.Ok:=by
 obtain⟨f,cs,h,rfl⟩:=h;rw[Tryz.underlying39];obtain⟨f',rfl,h⟩:=h.struct Tryz.underlying39;obtain⟨c0,_,rfl,-,r0,c1,_,rfl,-,r1,c2,_,rfl,-,r2,c3,_,rfl,-,r3,c4,_,rfl,-,r4,c5,_,rfl,-,r5,c6,_,rfl,-,r6,c7,_,rfl,-,r7,c8,_,rfl,-,r8,c9,_,rfl,-,r9,aV,_,rfl,-,r10,aP,_,rfl,-,r11,aO,_,rfl,-,r12,aU,_,rfl,-,r13,aT,_,rfl,-,r14,aS,_,rfl,-,r15,aR,_,rfl,-,r16,hn⟩:=h;obtain rfl:_=[]:=hn;obtain⟨v0,l0,rfl,s0,o0,b0⟩:=Sj r0;obtain⟨v1,l1,rfl,s1,o1,b1⟩:=R9 r1;obtain⟨v2,l2,rfl,s2,o2,b2⟩:=Sl r2;obtain⟨v3,l3,rfl,s3,o3,b3⟩:=Sd r3;obtain⟨v4,l4,rfl,s4,o4,b4⟩:=R8 r4;obtain⟨v5,l5,rfl,s5,o5,b5⟩:=Sk r5;obtain⟨v6,l6,rfl,s6,o6,b6⟩:=nJ r6;obtain⟨v7,l7,rfl,s7,o7,b7⟩:=nJ r7;obtain⟨v8,l8,rfl,s8,o8,b8⟩:=Rs r8;obtain⟨v9,l9,rfl,s9,o9,b9⟩:=NQ r9;obtain⟨v10,l10,rfl,s10,o10,b10⟩:=R_ r10;obtain⟨v11,l11,rfl,s11,o11,b11⟩:=Sc r11;obtain⟨v12,l12,rfl,s12,o12,b12⟩:=Sg r12;obtain⟨v13,l13,rfl,s13,o13,b13⟩:=Si r13;obtain⟨v14,l14,rfl,s14,o14,b14⟩:=Sb r14;obtain⟨v15,l15,rfl,s15,o15,b15⟩:=Sh r15;obtain⟨v16,l16,rfl,s16,o16,b16⟩:=Sm r16;exact⟨v0,v1,v2,v3,v4,v5,v6,v7,v8,v9,v10,v11,v12,v13,v14,v15,v16,⟨l0,l1,l2,l3,l4,l5,l6,l7,l8,l9,l10,l11,l12,l13,l14,l15,l16⟩,rfl,⟨s0,s1,s2,s3,s4,s5,s6,s7,s8,s9,s10,s11,s12,s13,s14,s15,s16⟩,⟨o0,b0,o1,b1,o2,b2,o3,b3,o4,b4,o5,b5,o6,b6,o7,b7,o8,b8,o9,b9,o10,b10,o11,b11,o12,b12,o13,b13,o14,b14,o15,b15,o16,b16⟩⟩
end Go.Proofs.YtdcofoaihmongaaGreat
namespace Go.Proofs.YtdcofoaihmongaaGreat
open Go Go.RowKit
theorem SliceAt.elt{α:Type}{f:α→List Value}{k n i c:Nat}{w:World}{a:Option Addr}{l:List α}{y:α}(h:SliceAt w (.slice a n c) k n (l.flatMap f))(hf:∀ x,(f x).length=k)(hk:0<k)(hy:l[i]?=some y)(hi:i<n):
 ∃ b off,a=some ⟨b,off,none⟩∧∀ j u,(f y)[j]?=some u→w.cell? ⟨b,off+i*k+j,none⟩=some u:=by
 obtain⟨a',c',e,-,-,h2⟩:=SliceAt.form h hk;injection e with e1 e2 e3;subst e1;obtain⟨b,off,hb,h3⟩:=h2 i hi;refine⟨b,off,hb,fun j u hu=>h3 j u ?_⟩;rw[kM hf hy j (hf y▸(atY.1 hu).1)];exact hu
theorem aF.get{w:World}{v:Value}{l:List ByteArray}(h:aF w v l):∃ a c,v=.slice a l.length c∧l.length≤9223372036854775807∧∀ (i:Nat) s,l[i]?=some s→∃ b off,a=some ⟨b,off,none⟩∧w.cell? ⟨b,off+i*1,none⟩=some (.string s):=by
 obtain⟨a,c,rfl,-,hm,-⟩:=SliceAt.form h (by decide);refine⟨a,c,rfl,hm,fun i s hs=>?_⟩;obtain⟨b,off,e,hc⟩:=SliceAt.elt (f:=aW) h (fun _=>rfl) (by decide) hs (atY.1 hs).1;exact⟨b,off,e,hc 0 _ rfl⟩
theorem dU{α:Type}{f:α→List Value}{k n n' c c' m:Nat}{w0 w:World}{a a':Option Addr}{l r:List α}(hf:∀ x,(f x).length=k)(hk:0<k)(h:SliceAt w0 (.slice a n c) k n (l.flatMap f))(h':SliceAt w0 (.slice a' n' c') k n' (r.flatMap f))(hn:n=l.length)(hn':n'=r.length)(hm:m<l.length)(hl:l.length=r.length)(hb:at4 w0.heap.size w0 w):
 ∃ x y b o b' o',l[m]?=some x∧r[m]?=some y∧(a=some ⟨b,o,none⟩∧∀ j u,(f x)[j]?=some u→w.cell? ⟨b,o+m*k+j,none⟩=some u)∧(a'=some ⟨b',o',none⟩∧∀ j u,(f y)[j]?=some u→w.cell? ⟨b',o'+m*k+j,none⟩=some u):=by
 obtain⟨x,hx⟩:∃ x,l[m]?=some x:=⟨_,auc hm⟩;obtain⟨y,hy⟩:∃ y,r[m]?=some y:=⟨_,auc (hl▸hm)⟩;obtain⟨b,o,e,hc⟩:=h.elt hf hk hx (hn▸hm);obtain⟨b',o',e',hc'⟩:=h'.elt hf hk hy (hn'▸hl▸hm);exact⟨x,y,b,o,b',o',hx,hy,⟨e,cF hb hc⟩,e',cF hb hc'⟩
theorem aM.open{w:World}{c0 c1 c2 c3 c4 c5 c6 c7 c8 c9 aV aP aO aU aT aS aR:Value}{p:aC}(h:aM w c0 c1 c2 c3 c4 c5 c6 c7 c8 c9 aV aP aO aU aT aS aR p):∃ a0 a1 a2 a3 a4 a5 a6 a7 a8 a9 Z1 WC a12 a13 WB WA Wz k0 k1 k2 k3 k4 k5 k6 k7 k8 k9 k10 k11 k12 k13 k14 k15 k16,c0=.slice a0 p.classes.length k0∧c1=.slice a1 p.types.length k1∧c2=.slice a2 p.attrs.length k2∧c3=.slice a3 p.roles.length k3∧c4=.slice a4 p.users.length k4∧c5=.slice a5 p.bools.length k5∧c6=.slice a6 p.aZ.length k6∧c7=.slice a7 p.cats.length k7∧c8=.slice a8 p.conds.length k8∧c9=.slice a9 p.rules.length k9∧aV=.slice Z1 p.trans.length k10∧aP=.slice WC p.aN.length k11∧aO=.slice a12 p.ranges.length k12∧aU=.slice a13 p.cons.length k13∧aT=.slice WB p.bO.length k14∧aS=.slice WA p.files.length k15∧aR=.slice Wz p.asserts.length k16:=by
 obtain⟨a0,k0,e0,-⟩:=au.form h.classes (by decide);obtain⟨a1,k1,e1,-⟩:=au.form h.types (by decide);obtain⟨a2,k2,e2,-⟩:=SliceAt.form h.attrs (by decide);obtain⟨a3,k3,e3,-⟩:=SliceAt.form h.roles (by decide);obtain⟨a4,k4,e4,-⟩:=SliceAt.form h.users (by decide);obtain⟨a5,k5,e5,-⟩:=SliceAt.form h.bools (by decide);obtain⟨a6,k6,e6,-⟩:=aF.get h.aZ;obtain⟨a7,k7,e7,-⟩:=aF.get h.cats;obtain⟨a8,k8,e8,-⟩:=au.form h.conds (by decide);obtain⟨a9,k9,e9,-⟩:=SliceAt.form h.rules (by decide);obtain⟨Z1,k10,e10,-⟩:=SliceAt.form h.trans (by decide);obtain⟨WC,k11,e11,-⟩:=SliceAt.form h.aN (by decide);obtain⟨a12,k12,e12,-⟩:=SliceAt.form h.ranges (by decide);obtain⟨a13,k13,e13,-⟩:=au.form h.cons (by decide);obtain⟨WB,k14,e14,-⟩:=SliceAt.form h.bO (by decide);obtain⟨WA,k15,e15,-⟩:=SliceAt.form h.files (by decide);obtain⟨Wz,k16,e16,-⟩:=SliceAt.form h.asserts (by decide);exact⟨_,_,_,_,_,_,_,_,_,_,_,_,_,_,_,_,_,_,_,_,_,_,_,_,_,_,_,_,_,_,_,_,_,_,e0,e1,e2,e3,e4,e5,e6,e7,e8,e9,e10,e11,e12,e13,e14,e15,e16⟩
theorem bd{t:TypeId}{parts:Array (Nat×Operand)}{vs:List Value}{cells:Array Value}(h:Tryz.prog.built t ((parts.toList.zip vs).map fun x=>(x.1.1,x.2))=some cells)(a:Act)(w:World)(o:Oper)(ho:o.op=.build t parts)(hv:vJ a (iz (.build t parts)) vs):
 (execOp a.eval o).run Tryz.prog w=.ok (.value (.agg cells)) w:=by
 refine uS ho rfl ?_;rw[← h];congr 1;have h1:vs=(parts.toList.map (·.2)).map a.eval:=(uP hv).symm;rw[h1,Array.toList_map];generalize parts.toList=l
 induction l with
 | nil=>rfl
 | cons x r ih=>simp only[List.map_cons,List.zip_cons_cons,ih]
theorem ri{v M:Int}(h:M=v):Ending.returned (mE [.int .i64 v])=.returned (.int .i64 M):=by rw[h];rfl
theorem rb{v M:Bool}(h:M=v):Ending.returned (mE [.bool v])=.returned (.bool M):=by rw[h];rfl
theorem gA{w:World}{B n:Nat}{u:Value}{xs:List Value}{l:List ByteArray}(h:w.ownsRow B 9 1 u n xs)(hn:n=l.length)(hx:xs=l.flatMap aW):aF w u l:=by
 subst hn hx;exact SliceAt.bF h fun v hv=>by obtain⟨s,-,hs⟩:=List.mem_flatMap.1 hv;simp only[aW,List.mem_singleton] at hs;subst hs;rfl
theorem rD{α:Type}{f:α→ByteArray}{l:List α}{m:Nat}{y:α}(h:l[m]?=some y):((l.take (m+1)).map f).flatMap aW=((l.take m).map f).flatMap aW++[.string (f y)]:=by
 rw[List.take_add_one,h];simp[aW]
theorem au.elt{α:Type}{k i c:Nat}{R:List Value→α→Prop}{w:World}{a:Option Addr}{l:List α}{y:α}{n:Nat}(h:au k R w (.slice a n c) l)(hk:0<k)(hy:l[i]?=some y):∃ b off x,a=some ⟨b,off,none⟩∧R x y∧∀ j u,x[j]?=some u→w.cell? ⟨b,off+i*k+j,none⟩=some u:=by
 obtain⟨la,lk,e,-,-,hc⟩:=au.form h hk;injection e with e1 e2 e3;subst e1;obtain⟨b,off,x,h1,h2,-,h3⟩:=hc i y hy;exact⟨b,off,x,h1,h2,h3⟩
theorem fbp{op:Op}{ty:TypeId}{xs:List Operand}{vs:List Value}{v:Value}{B:Nat}{w0 w:World}{bs:List Bx}{rs:List Rw}{K:Value→List Bx→List Rw→World→Prop}(M:aY B w0 w bs rs)(hx:∀ (a:Act) (o':Oper),o'.op=op→vJ a xs vs→(execOp a.eval o').run Tryz.prog w=.ok (.value v) w)(h:K v bs rs w):
 ∃ R:Value→World→Prop,(∀ (a:Act) (o':Oper),o'.op=op→o'.type=ty→vJ a xs vs→∃ v w',(execOp a.eval o').run Tryz.prog w=.ok (.value v) w'∧R v w')∧∀ v w',R v w'→∃ bs' rs',aY B w0 w' bs' rs'∧K v bs' rs' w':=
 ⟨fun v' w'=>v'=v∧w'=w,fun a o' ho _ hv=>⟨_,_,hx a o' ho hv,rfl,rfl⟩,fun _ _ ⟨h1,h2⟩=>by subst h1 h2;exact⟨_,_,M,h⟩⟩
theorem cf{B:Nat}{w0 w:World}{bs:List Bx}{rs:List Rw}{X:Prop}{f:FuncId}{args:Array Value}{R:Value→World→Prop}{K:Value→List Bx→List Rw→World→Prop}(M:aY B w0 w bs rs)(hc:Calls Tryz.prog f args w fun e w'=>∃ v,e=.returned v∧(R v w'∧at4 w.heap.size w w'))
 (h:∀ v w',R v w'→at4 w.heap.size w w'→aY B w0 w' bs rs→K v bs rs w'):X∨∃ R:Value→World→Prop,(Calls Tryz.prog f args w fun e w'=>∃ v,e=.returned v∧R v w')∧∀ v w',R v w'→∃ bs' rs',aY B w0 w' bs' rs'∧K v bs' rs' w':=
 .inr ⟨_,hc,fun v w' ⟨h1,h2⟩=>⟨_,_,M.keep h2,h v w' h1 h2 (M.keep h2)⟩⟩
theorem cb{B:Nat}{w0 w:World}{bs:List Bx}{rs:List Rw}{X:Prop}{f:FuncId}{args:Array Value}{v:Value}{K:Value→List Bx→List Rw→World→Prop}(M:aY B w0 w bs rs)(hc:Calls Tryz.prog f args w fun e w'=>e=.returned v∧at4 w.heap.size w w')
 (h:∀ w',at4 w.heap.size w w'→aY B w0 w' bs rs→K v bs rs w'):X∨∃ R:Value→World→Prop,(Calls Tryz.prog f args w fun e w'=>∃ v,e=.returned v∧R v w')∧∀ v w',R v w'→∃ bs' rs',aY B w0 w' bs' rs'∧K v bs' rs' w':=
 cf (R:=fun u _=>u=v) M (hc.mono fun _ _ ⟨h1,h2⟩=>⟨v,h1,rfl,h2⟩) fun u w' e hb M'=>by subst e;exact h w' hb M'
end Go.Proofs.YtdcofoaihmongaaGreat
namespace Go.Proofs.YtdcofoaihmongaaGreat
open Go Go.RowKit Go.WideMaps
theorem ZL(d:Nat)(x0 y0:Int)(w:World):(Op.equalIn (d+1) 52 (.int .u64 x0) (.int .u64 y0)).run Tryz.prog w=.ok (decide (x0=y0)) w:=by
 by_cases h:x0=y0<;>simp[Op.equalIn,run_underlying Tryz.underlying52,h]
theorem lU(d:Nat)(x0 x1 x2 x3 y0 y1 y2 y3:Int)(w:World):(Op.equalIn (d+2) 54 (.agg #[.int .u64 x0,.int .u64 x1,.int .u64 x2,.int .u64 x3]) (.agg #[.int .u64 y0,.int .u64 y1,.int .u64 y2,.int .u64 y3])).run Tryz.prog w=.ok (decide (x0=y0∧x1=y1∧x2=y2∧x3=y3)) w:=by
 have hsz:=kf
 obtain⟨i0,hi,-⟩:∃ i,Tryz.prog.info? 52=some i∧True:=by
  cases h:Tryz.prog.info? 52 with
  | none=>rw[h] at hsz;cases hsz
  | some i=>exact⟨i,rfl,trivial⟩
 rw[show d+2=(d+1)+1 from rfl,run_equalIn_array w (d+1) _ _ Tryz.underlying54 hi,show Tryz.prog.cellsOf 52=1 from by kernel_rfl];have p0:∀ x0 x1 x2 x3:Int,(part 52 #[.int .u64 x0,.int .u64 x1,.int .u64 x2,.int .u64 x3] (0*1)).run Tryz.prog w=.ok (.int .u64 x0) w:=fun x0 x1 x2 x3=>by kernel_rfl
 have p1:∀ x0 x1 x2 x3:Int,(part 52 #[.int .u64 x0,.int .u64 x1,.int .u64 x2,.int .u64 x3] (1*1)).run Tryz.prog w=.ok (.int .u64 x1) w:=fun x0 x1 x2 x3=>by kernel_rfl
 have p2:∀ x0 x1 x2 x3:Int,(part 52 #[.int .u64 x0,.int .u64 x1,.int .u64 x2,.int .u64 x3] (2*1)).run Tryz.prog w=.ok (.int .u64 x2) w:=fun x0 x1 x2 x3=>by kernel_rfl
 have p3:∀ x0 x1 x2 x3:Int,(part 52 #[.int .u64 x0,.int .u64 x1,.int .u64 x2,.int .u64 x3] (3*1)).run Tryz.prog w=.ok (.int .u64 x3) w:=fun x0 x1 x2 x3=>by kernel_rfl
 have eq:=fun a b=>ZL d a b w
 rw[show List.range 4=[0,1,2,3] from rfl];simp only[Op.eqItems,Sem.run_bind,p0,Result.andThen_ok,eq];by_cases h0:x0=y0<;>by_cases h1:x1=y1<;>by_cases h2:x2=y2<;>by_cases h3:x3=y3<;>simp[h0,h1,h2,h3,Sem.run_bind,p1,p2,p3,eq]
theorem rT(d:Nat)(x0 y0:Int)(w:World):(Op.equalIn (d+1) 3 (.int .i64 x0) (.int .i64 y0)).run Tryz.prog w=.ok (decide (x0=y0)) w:=by
 by_cases h:x0=y0<;>simp[Op.equalIn,run_underlying Tryz.underlying3,h]
theorem afi(d:Nat)(x0 y0:Bool)(w:World):(Op.equalIn (d+1) 4 (.bool x0) (.bool y0)).run Tryz.prog w=.ok (decide (x0=y0)) w:=by
 by_cases h:x0=y0<;>simp[Op.equalIn,run_underlying Tryz.underlying4,h]
theorem afh(d:Nat)(x0 y0:Int)(w:World):(Op.equalIn (d+1) 50 (.int .u32 x0) (.int .u32 y0)).run Tryz.prog w=.ok (decide (x0=y0)) w:=by
 by_cases h:x0=y0<;>simp[Op.equalIn,run_underlying Tryz.underlying50,h]
theorem afg(d:Nat)(x0 x1 x2 x3 x4 x5 x6 x7 x8 x10 pK pJ y0 y1 y2 y3 y4 y5 y6 y7 y8 vD CW CV:Int)(x9 y9:Bool)(w:World):(Op.equalIn (d+3) 56 (.agg #[.int .i64 x0,.int .u64 x1,.int .u64 x2,.int .u64 x3,.int .u64 x4,.int .u64 x5,.int .u64 x6,.int .u64 x7,.int .u64 x8,.bool x9,.int .i64 x10,.int .u32 pK,.int .i64 pJ]) (.agg #[.int .i64 y0,.int .u64 y1,.int .u64 y2,.int .u64 y3,.int .u64 y4,.int .u64 y5,.int .u64 y6,.int .u64 y7,.int .u64 y8,.bool y9,.int .i64 vD,.int .u32 CW,.int .i64 CV])).run Tryz.prog w=.ok (decide (x0=y0∧x1=y1∧x2=y2∧x3=y3∧x4=y4∧x5=y5∧x6=y6∧x7=y7∧x8=y8∧x9=y9∧x10=vD∧pK=CW∧pJ=CV)) w:=by
 have hf:(Tryz.prog.fieldsOf 56).toList.map (fun f=>(f.type,f.offset))=[(3,0),(54,1),(54,5),(4,9),(3,10),(50,11),(3,12)]:=by kernel_rfl
 have hq:(Op.eqFields (d+2) #[.int .i64 x0,.int .u64 x1,.int .u64 x2,.int .u64 x3,.int .u64 x4,.int .u64 x5,.int .u64 x6,.int .u64 x7,.int .u64 x8,.bool x9,.int .i64 x10,.int .u32 pK,.int .i64 pJ] #[.int .i64 y0,.int .u64 y1,.int .u64 y2,.int .u64 y3,.int .u64 y4,.int .u64 y5,.int .u64 y6,.int .u64 y7,.int .u64 y8,.bool y9,.int .i64 vD,.int .u32 CW,.int .i64 CV] (Tryz.prog.fieldsOf 56).toList).run Tryz.prog w=.ok ([decide (x0=y0),decide (x1=y1∧x2=y2∧x3=y3∧x4=y4),decide (x5=y5∧x6=y6∧x7=y7∧x8=y8),decide (x9=y9),decide (x10=vD),decide (pK=CW),decide (pJ=CV)].all id) w:=by
  refine dI _ _ (by kernel_rfl) (by kernel_rfl) fun i f r hi hr=>?_
  have hm:=congrArg (fun z:List (Nat×Nat)=>z[i]?) hf;simp only[at8,hi,Option.map_some] at hm;have hlt:i<7:=(atY.1 hr).1
  match i,hlt with
  | 0,_=>
   obtain⟨h1,h2⟩:=at7 (at1 hm);obtain rfl:=at1 hr;rw[h1,h2];exact⟨.int .i64 x0,.int .i64 y0,by kernel_rfl,by kernel_rfl,rT (d+1) x0 y0 w⟩
  | 1,_=>
   obtain⟨h1,h2⟩:=at7 (at1 hm);obtain rfl:=at1 hr;rw[h1,h2];exact⟨.agg #[.int .u64 x1,.int .u64 x2,.int .u64 x3,.int .u64 x4],.agg #[.int .u64 y1,.int .u64 y2,.int .u64 y3,.int .u64 y4],by kernel_rfl,by kernel_rfl,lU d x1 x2 x3 x4 y1 y2 y3 y4 w⟩
  | 2,_=>
   obtain⟨h1,h2⟩:=at7 (at1 hm);obtain rfl:=at1 hr;rw[h1,h2];exact⟨.agg #[.int .u64 x5,.int .u64 x6,.int .u64 x7,.int .u64 x8],.agg #[.int .u64 y5,.int .u64 y6,.int .u64 y7,.int .u64 y8],by kernel_rfl,by kernel_rfl,lU d x5 x6 x7 x8 y5 y6 y7 y8 w⟩
  | 3,_=>
   obtain⟨h1,h2⟩:=at7 (at1 hm);obtain rfl:=at1 hr;rw[h1,h2];exact⟨.bool x9,.bool y9,by kernel_rfl,by kernel_rfl,afi (d+1) x9 y9 w⟩
  | 4,_=>
   obtain⟨h1,h2⟩:=at7 (at1 hm);obtain rfl:=at1 hr;rw[h1,h2];exact⟨.int .i64 x10,.int .i64 vD,by kernel_rfl,by kernel_rfl,rT (d+1) x10 vD w⟩
  | 5,_=>
   obtain⟨h1,h2⟩:=at7 (at1 hm);obtain rfl:=at1 hr;rw[h1,h2];exact⟨.int .u32 pK,.int .u32 CW,by kernel_rfl,by kernel_rfl,afh (d+1) pK CW w⟩
  | 6,_=>
   obtain⟨h1,h2⟩:=at7 (at1 hm);obtain rfl:=at1 hr;rw[h1,h2];exact⟨.int .i64 pJ,.int .i64 CV,by kernel_rfl,by kernel_rfl,rT (d+1) pJ CV w⟩
 rw[show d+3=(d+2)+1 from rfl,run_equalIn_agg w (d+2) 56 _ _ (by kernel_rfl) (by kernel_rfl),hq];congr 1;rw[aud];simp[and_assoc]
theorem JQ(d:Nat)(x0 y0:ByteArray)(w:World):(Op.equalIn (d+1) 9 (.string x0) (.string y0)).run Tryz.prog w=.ok (decide (x0=y0)) w:=by
 have e:(x0 == y0)=decide (x0=y0):=by
  rw[aud,decide_eq_true_eq];constructor
  ·intro h;have h':(x0.data == y0.data)=true:=h;exact ByteArray.ext (by simpa using h')
  ·intro h;subst h;show(x0.data == x0.data)=true;simp
 simp[Op.equalIn,run_underlying Tryz.underlying9,e]
theorem aff(d:Nat)(x0 x1 x2 x3 x4 x5 x6 x7 x8 x9 pK pJ y0 y1 y2 y3 y4 y5 y6 y7 y8 y9 CW CV:Int)(x10 vD:ByteArray)(w:World):(Op.equalIn (d+3) 84 (.agg #[.int .i64 x0,.int .u64 x1,.int .u64 x2,.int .u64 x3,.int .u64 x4,.int .u64 x5,.int .u64 x6,.int .u64 x7,.int .u64 x8,.int .i64 x9,.string x10,.int .i64 pK,.int .i64 pJ]) (.agg #[.int .i64 y0,.int .u64 y1,.int .u64 y2,.int .u64 y3,.int .u64 y4,.int .u64 y5,.int .u64 y6,.int .u64 y7,.int .u64 y8,.int .i64 y9,.string vD,.int .i64 CW,.int .i64 CV])).run Tryz.prog w=.ok (decide (x0=y0∧x1=y1∧x2=y2∧x3=y3∧x4=y4∧x5=y5∧x6=y6∧x7=y7∧x8=y8∧x9=y9∧x10=vD∧pK=CW∧pJ=CV)) w:=by
 have hf:(Tryz.prog.fieldsOf 84).toList.map (fun f=>(f.type,f.offset))=[(3,0),(54,1),(54,5),(3,9),(9,10),(3,11),(3,12)]:=by kernel_rfl
 have hq:(Op.eqFields (d+2) #[.int .i64 x0,.int .u64 x1,.int .u64 x2,.int .u64 x3,.int .u64 x4,.int .u64 x5,.int .u64 x6,.int .u64 x7,.int .u64 x8,.int .i64 x9,.string x10,.int .i64 pK,.int .i64 pJ] #[.int .i64 y0,.int .u64 y1,.int .u64 y2,.int .u64 y3,.int .u64 y4,.int .u64 y5,.int .u64 y6,.int .u64 y7,.int .u64 y8,.int .i64 y9,.string vD,.int .i64 CW,.int .i64 CV] (Tryz.prog.fieldsOf 84).toList).run Tryz.prog w=.ok ([decide (x0=y0),decide (x1=y1∧x2=y2∧x3=y3∧x4=y4),decide (x5=y5∧x6=y6∧x7=y7∧x8=y8),decide (x9=y9),decide (x10=vD),decide (pK=CW),decide (pJ=CV)].all id) w:=by
  refine dI _ _ (by kernel_rfl) (by kernel_rfl) fun i f r hi hr=>?_
  have hm:=congrArg (fun z:List (Nat×Nat)=>z[i]?) hf;simp only[at8,hi,Option.map_some] at hm;have hlt:i<7:=(atY.1 hr).1
  match i,hlt with
  | 0,_=>
   obtain⟨h1,h2⟩:=at7 (at1 hm);obtain rfl:=at1 hr;rw[h1,h2];exact⟨.int .i64 x0,.int .i64 y0,by kernel_rfl,by kernel_rfl,rT (d+1) x0 y0 w⟩
  | 1,_=>
   obtain⟨h1,h2⟩:=at7 (at1 hm);obtain rfl:=at1 hr;rw[h1,h2];exact⟨.agg #[.int .u64 x1,.int .u64 x2,.int .u64 x3,.int .u64 x4],.agg #[.int .u64 y1,.int .u64 y2,.int .u64 y3,.int .u64 y4],by kernel_rfl,by kernel_rfl,lU d x1 x2 x3 x4 y1 y2 y3 y4 w⟩
  | 2,_=>
   obtain⟨h1,h2⟩:=at7 (at1 hm);obtain rfl:=at1 hr;rw[h1,h2];exact⟨.agg #[.int .u64 x5,.int .u64 x6,.int .u64 x7,.int .u64 x8],.agg #[.int .u64 y5,.int .u64 y6,.int .u64 y7,.int .u64 y8],by kernel_rfl,by kernel_rfl,lU d x5 x6 x7 x8 y5 y6 y7 y8 w⟩
  | 3,_=>
   obtain⟨h1,h2⟩:=at7 (at1 hm);obtain rfl:=at1 hr;rw[h1,h2];exact⟨.int .i64 x9,.int .i64 y9,by kernel_rfl,by kernel_rfl,rT (d+1) x9 y9 w⟩
  | 4,_=>
   obtain⟨h1,h2⟩:=at7 (at1 hm);obtain rfl:=at1 hr;rw[h1,h2];exact⟨.string x10,.string vD,by kernel_rfl,by kernel_rfl,JQ (d+1) x10 vD w⟩
  | 5,_=>
   obtain⟨h1,h2⟩:=at7 (at1 hm);obtain rfl:=at1 hr;rw[h1,h2];exact⟨.int .i64 pK,.int .i64 CW,by kernel_rfl,by kernel_rfl,rT (d+1) pK CW w⟩
  | 6,_=>
   obtain⟨h1,h2⟩:=at7 (at1 hm);obtain rfl:=at1 hr;rw[h1,h2];exact⟨.int .i64 pJ,.int .i64 CV,by kernel_rfl,by kernel_rfl,rT (d+1) pJ CV w⟩
 rw[show d+3=(d+2)+1 from rfl,run_equalIn_agg w (d+2) 84 _ _ (by kernel_rfl) (by kernel_rfl),hq];congr 1;rw[aud];simp[and_assoc]
theorem VJ(d:Nat)(x0 x1 y0 y1:Int)(w:World):(Op.equalIn (d+2) 70 (.agg #[.int .i64 x0,.int .u64 x1]) (.agg #[.int .i64 y0,.int .u64 y1])).run Tryz.prog w=.ok (decide (x0=y0∧x1=y1)) w:=by
 have hf:(Tryz.prog.fieldsOf 70).toList.map (fun f=>(f.type,f.offset))=[(3,0),(52,1)]:=by kernel_rfl
 have hq:(Op.eqFields (d+1) #[.int .i64 x0,.int .u64 x1] #[.int .i64 y0,.int .u64 y1] (Tryz.prog.fieldsOf 70).toList).run Tryz.prog w=.ok ([decide (x0=y0),decide (x1=y1)].all id) w:=by
  refine dI _ _ (by kernel_rfl) (by kernel_rfl) fun i f r hi hr=>?_
  have hm:=congrArg (fun z:List (Nat×Nat)=>z[i]?) hf;simp only[at8,hi,Option.map_some] at hm;have hlt:i<2:=(atY.1 hr).1
  match i,hlt with
  | 0,_=>
   obtain⟨h1,h2⟩:=at7 (at1 hm);obtain rfl:=at1 hr;rw[h1,h2];exact⟨.int .i64 x0,.int .i64 y0,by kernel_rfl,by kernel_rfl,rT d x0 y0 w⟩
  | 1,_=>
   obtain⟨h1,h2⟩:=at7 (at1 hm);obtain rfl:=at1 hr;rw[h1,h2];exact⟨.int .u64 x1,.int .u64 y1,by kernel_rfl,by kernel_rfl,ZL d x1 y1 w⟩
 rw[show d+2=(d+1)+1 from rfl,run_equalIn_agg w (d+1) 70 _ _ (by kernel_rfl) (by kernel_rfl),hq];congr 1;rw[aud];simp
theorem VI(d:Nat)(x0 x1 x2 x3 y0 y1 y2 y3:Int)(w:World):(Op.equalIn (d+3) 72 (.agg #[.int .i64 x0,.int .u64 x1,.int .i64 x2,.int .u64 x3]) (.agg #[.int .i64 y0,.int .u64 y1,.int .i64 y2,.int .u64 y3])).run Tryz.prog w=.ok (decide (x0=y0∧x1=y1∧x2=y2∧x3=y3)) w:=by
 have hf:(Tryz.prog.fieldsOf 72).toList.map (fun f=>(f.type,f.offset))=[(70,0),(70,2)]:=by kernel_rfl
 have hq:(Op.eqFields (d+2) #[.int .i64 x0,.int .u64 x1,.int .i64 x2,.int .u64 x3] #[.int .i64 y0,.int .u64 y1,.int .i64 y2,.int .u64 y3] (Tryz.prog.fieldsOf 72).toList).run Tryz.prog w=.ok ([decide (x0=y0∧x1=y1),decide (x2=y2∧x3=y3)].all id) w:=by
  refine dI _ _ (by kernel_rfl) (by kernel_rfl) fun i f r hi hr=>?_
  have hm:=congrArg (fun z:List (Nat×Nat)=>z[i]?) hf;simp only[at8,hi,Option.map_some] at hm;have hlt:i<2:=(atY.1 hr).1
  match i,hlt with
  | 0,_=>
   obtain⟨h1,h2⟩:=at7 (at1 hm);obtain rfl:=at1 hr;rw[h1,h2];exact⟨.agg #[.int .i64 x0,.int .u64 x1],.agg #[.int .i64 y0,.int .u64 y1],by kernel_rfl,by kernel_rfl,VJ d x0 x1 y0 y1 w⟩
  | 1,_=>
   obtain⟨h1,h2⟩:=at7 (at1 hm);obtain rfl:=at1 hr;rw[h1,h2];exact⟨.agg #[.int .i64 x2,.int .u64 x3],.agg #[.int .i64 y2,.int .u64 y3],by kernel_rfl,by kernel_rfl,VJ d x2 x3 y2 y3 w⟩
 rw[show d+3=(d+2)+1 from rfl,run_equalIn_agg w (d+2) 72 _ _ (by kernel_rfl) (by kernel_rfl),hq];congr 1;rw[aud];simp[and_assoc]
theorem ZK(d:Nat)(x0 x1 x2 x3 x4 x5 x6 y0 y1 y2 y3 y4 y5 y6:Int)(w:World):(Op.equalIn (d+4) 74 (.agg #[.int .i64 x0,.int .i64 x1,.int .i64 x2,.int .i64 x3,.int .u64 x4,.int .i64 x5,.int .u64 x6]) (.agg #[.int .i64 y0,.int .i64 y1,.int .i64 y2,.int .i64 y3,.int .u64 y4,.int .i64 y5,.int .u64 y6])).run Tryz.prog w=.ok (decide (x0=y0∧x1=y1∧x2=y2∧x3=y3∧x4=y4∧x5=y5∧x6=y6)) w:=by
 have hf:(Tryz.prog.fieldsOf 74).toList.map (fun f=>(f.type,f.offset))=[(3,0),(3,1),(3,2),(72,3)]:=by kernel_rfl
 have hq:(Op.eqFields (d+3) #[.int .i64 x0,.int .i64 x1,.int .i64 x2,.int .i64 x3,.int .u64 x4,.int .i64 x5,.int .u64 x6] #[.int .i64 y0,.int .i64 y1,.int .i64 y2,.int .i64 y3,.int .u64 y4,.int .i64 y5,.int .u64 y6] (Tryz.prog.fieldsOf 74).toList).run Tryz.prog w=.ok ([decide (x0=y0),decide (x1=y1),decide (x2=y2),decide (x3=y3∧x4=y4∧x5=y5∧x6=y6)].all id) w:=by
  refine dI _ _ (by kernel_rfl) (by kernel_rfl) fun i f r hi hr=>?_
  have hm:=congrArg (fun z:List (Nat×Nat)=>z[i]?) hf;simp only[at8,hi,Option.map_some] at hm;have hlt:i<4:=(atY.1 hr).1
  match i,hlt with
  | 0,_=>
   obtain⟨h1,h2⟩:=at7 (at1 hm);obtain rfl:=at1 hr;rw[h1,h2];exact⟨.int .i64 x0,.int .i64 y0,by kernel_rfl,by kernel_rfl,rT (d+2) x0 y0 w⟩
  | 1,_=>
   obtain⟨h1,h2⟩:=at7 (at1 hm);obtain rfl:=at1 hr;rw[h1,h2];exact⟨.int .i64 x1,.int .i64 y1,by kernel_rfl,by kernel_rfl,rT (d+2) x1 y1 w⟩
  | 2,_=>
   obtain⟨h1,h2⟩:=at7 (at1 hm);obtain rfl:=at1 hr;rw[h1,h2];exact⟨.int .i64 x2,.int .i64 y2,by kernel_rfl,by kernel_rfl,rT (d+2) x2 y2 w⟩
  | 3,_=>
   obtain⟨h1,h2⟩:=at7 (at1 hm);obtain rfl:=at1 hr;rw[h1,h2];exact⟨.agg #[.int .i64 x3,.int .u64 x4,.int .i64 x5,.int .u64 x6],.agg #[.int .i64 y3,.int .u64 y4,.int .i64 y5,.int .u64 y6],by kernel_rfl,by kernel_rfl,VI d x3 x4 x5 x6 y3 y4 y5 y6 w⟩
 rw[show d+4=(d+3)+1 from rfl,run_equalIn_agg w (d+3) 74 _ _ (by kernel_rfl) (by kernel_rfl),hq];congr 1;rw[aud];simp
theorem ab8(d:Nat)(x1 x2 x3 x4 x5 x6 x7 y1 y2 y3 y4 y5 y6 y7:Int)(x0 y0:ByteArray)(w:World):(Op.equalIn (d+5) 125 (.agg #[.string x0,.int .i64 x1,.int .i64 x2,.int .i64 x3,.int .i64 x4,.int .u64 x5,.int .i64 x6,.int .u64 x7]) (.agg #[.string y0,.int .i64 y1,.int .i64 y2,.int .i64 y3,.int .i64 y4,.int .u64 y5,.int .i64 y6,.int .u64 y7])).run Tryz.prog w=.ok (decide (x0=y0∧x1=y1∧x2=y2∧x3=y3∧x4=y4∧x5=y5∧x6=y6∧x7=y7)) w:=by
 have hf:(Tryz.prog.fieldsOf 125).toList.map (fun f=>(f.type,f.offset))=[(9,0),(74,1)]:=by kernel_rfl
 have hq:(Op.eqFields (d+4) #[.string x0,.int .i64 x1,.int .i64 x2,.int .i64 x3,.int .i64 x4,.int .u64 x5,.int .i64 x6,.int .u64 x7] #[.string y0,.int .i64 y1,.int .i64 y2,.int .i64 y3,.int .i64 y4,.int .u64 y5,.int .i64 y6,.int .u64 y7] (Tryz.prog.fieldsOf 125).toList).run Tryz.prog w=.ok ([decide (x0=y0),decide (x1=y1∧x2=y2∧x3=y3∧x4=y4∧x5=y5∧x6=y6∧x7=y7)].all id) w:=by
  refine dI _ _ (by kernel_rfl) (by kernel_rfl) fun i f r hi hr=>?_
  have hm:=congrArg (fun z:List (Nat×Nat)=>z[i]?) hf;simp only[at8,hi,Option.map_some] at hm;have hlt:i<2:=(atY.1 hr).1
  match i,hlt with
  | 0,_=>
   obtain⟨h1,h2⟩:=at7 (at1 hm);obtain rfl:=at1 hr;rw[h1,h2];exact⟨.string x0,.string y0,by kernel_rfl,by kernel_rfl,JQ (d+3) x0 y0 w⟩
  | 1,_=>
   obtain⟨h1,h2⟩:=at7 (at1 hm);obtain rfl:=at1 hr;rw[h1,h2];exact⟨.agg #[.int .i64 x1,.int .i64 x2,.int .i64 x3,.int .i64 x4,.int .u64 x5,.int .i64 x6,.int .u64 x7],.agg #[.int .i64 y1,.int .i64 y2,.int .i64 y3,.int .i64 y4,.int .u64 y5,.int .i64 y6,.int .u64 y7],by kernel_rfl,by kernel_rfl,ZK d x1 x2 x3 x4 x5 x6 x7 y1 y2 y3 y4 y5 y6 y7 w⟩
 rw[show d+5=(d+4)+1 from rfl,run_equalIn_agg w (d+4) 125 _ _ (by kernel_rfl) (by kernel_rfl),hq];congr 1;rw[aud];simp
theorem ab7(d:Nat)(x1 x2 x3 x4 x5 x6 x7 x8 y1 y2 y3 y4 y5 y6 y7 y8:Int)(x0 y0:ByteArray)(w:World):(Op.equalIn (d+5) 127 (.agg #[.string x0,.int .i64 x1,.int .i64 x2,.int .i64 x3,.int .i64 x4,.int .i64 x5,.int .u64 x6,.int .i64 x7,.int .u64 x8]) (.agg #[.string y0,.int .i64 y1,.int .i64 y2,.int .i64 y3,.int .i64 y4,.int .i64 y5,.int .u64 y6,.int .i64 y7,.int .u64 y8])).run Tryz.prog w=.ok (decide (x0=y0∧x1=y1∧x2=y2∧x3=y3∧x4=y4∧x5=y5∧x6=y6∧x7=y7∧x8=y8)) w:=by
 have hf:(Tryz.prog.fieldsOf 127).toList.map (fun f=>(f.type,f.offset))=[(9,0),(3,1),(74,2)]:=by kernel_rfl
 have hq:(Op.eqFields (d+4) #[.string x0,.int .i64 x1,.int .i64 x2,.int .i64 x3,.int .i64 x4,.int .i64 x5,.int .u64 x6,.int .i64 x7,.int .u64 x8] #[.string y0,.int .i64 y1,.int .i64 y2,.int .i64 y3,.int .i64 y4,.int .i64 y5,.int .u64 y6,.int .i64 y7,.int .u64 y8] (Tryz.prog.fieldsOf 127).toList).run Tryz.prog w=.ok ([decide (x0=y0),decide (x1=y1),decide (x2=y2∧x3=y3∧x4=y4∧x5=y5∧x6=y6∧x7=y7∧x8=y8)].all id) w:=by
  refine dI _ _ (by kernel_rfl) (by kernel_rfl) fun i f r hi hr=>?_
  have hm:=congrArg (fun z:List (Nat×Nat)=>z[i]?) hf;simp only[at8,hi,Option.map_some] at hm;have hlt:i<3:=(atY.1 hr).1
  match i,hlt with
  | 0,_=>
   obtain⟨h1,h2⟩:=at7 (at1 hm);obtain rfl:=at1 hr;rw[h1,h2];exact⟨.string x0,.string y0,by kernel_rfl,by kernel_rfl,JQ (d+3) x0 y0 w⟩
  | 1,_=>
   obtain⟨h1,h2⟩:=at7 (at1 hm);obtain rfl:=at1 hr;rw[h1,h2];exact⟨.int .i64 x1,.int .i64 y1,by kernel_rfl,by kernel_rfl,rT (d+3) x1 y1 w⟩
  | 2,_=>
   obtain⟨h1,h2⟩:=at7 (at1 hm);obtain rfl:=at1 hr;rw[h1,h2];exact⟨.agg #[.int .i64 x2,.int .i64 x3,.int .i64 x4,.int .i64 x5,.int .u64 x6,.int .i64 x7,.int .u64 x8],.agg #[.int .i64 y2,.int .i64 y3,.int .i64 y4,.int .i64 y5,.int .u64 y6,.int .i64 y7,.int .u64 y8],by kernel_rfl,by kernel_rfl,ZK d x2 x3 x4 x5 x6 x7 x8 y2 y3 y4 y5 y6 y7 y8 w⟩
 rw[show d+5=(d+4)+1 from rfl,run_equalIn_agg w (d+4) 127 _ _ (by kernel_rfl) (by kernel_rfl),hq];congr 1;rw[aud];simp
theorem ab6(d:Nat)(x1 x2 x3 x4 x5 x6 x7 x8 x9 y1 y2 y3 y4 y5 y6 y7 y8 y9:Int)(x0 y0:ByteArray)(w:World):(Op.equalIn (d+3) 129 (.agg #[.string x0,.int .i64 x1,.int .u64 x2,.int .u64 x3,.int .u64 x4,.int .u64 x5,.int .u64 x6,.int .u64 x7,.int .u64 x8,.int .u64 x9]) (.agg #[.string y0,.int .i64 y1,.int .u64 y2,.int .u64 y3,.int .u64 y4,.int .u64 y5,.int .u64 y6,.int .u64 y7,.int .u64 y8,.int .u64 y9])).run Tryz.prog w=.ok (decide (x0=y0∧x1=y1∧x2=y2∧x3=y3∧x4=y4∧x5=y5∧x6=y6∧x7=y7∧x8=y8∧x9=y9)) w:=by
 have hf:(Tryz.prog.fieldsOf 129).toList.map (fun f=>(f.type,f.offset))=[(9,0),(3,1),(54,2),(54,6)]:=by kernel_rfl
 have hq:(Op.eqFields (d+2) #[.string x0,.int .i64 x1,.int .u64 x2,.int .u64 x3,.int .u64 x4,.int .u64 x5,.int .u64 x6,.int .u64 x7,.int .u64 x8,.int .u64 x9] #[.string y0,.int .i64 y1,.int .u64 y2,.int .u64 y3,.int .u64 y4,.int .u64 y5,.int .u64 y6,.int .u64 y7,.int .u64 y8,.int .u64 y9] (Tryz.prog.fieldsOf 129).toList).run Tryz.prog w=.ok ([decide (x0=y0),decide (x1=y1),decide (x2=y2∧x3=y3∧x4=y4∧x5=y5),decide (x6=y6∧x7=y7∧x8=y8∧x9=y9)].all id) w:=by
  refine dI _ _ (by kernel_rfl) (by kernel_rfl) fun i f r hi hr=>?_
  have hm:=congrArg (fun z:List (Nat×Nat)=>z[i]?) hf;simp only[at8,hi,Option.map_some] at hm;have hlt:i<4:=(atY.1 hr).1
  match i,hlt with
  | 0,_=>
   obtain⟨h1,h2⟩:=at7 (at1 hm);obtain rfl:=at1 hr;rw[h1,h2];exact⟨.string x0,.string y0,by kernel_rfl,by kernel_rfl,JQ (d+1) x0 y0 w⟩
  | 1,_=>
   obtain⟨h1,h2⟩:=at7 (at1 hm);obtain rfl:=at1 hr;rw[h1,h2];exact⟨.int .i64 x1,.int .i64 y1,by kernel_rfl,by kernel_rfl,rT (d+1) x1 y1 w⟩
  | 2,_=>
   obtain⟨h1,h2⟩:=at7 (at1 hm);obtain rfl:=at1 hr;rw[h1,h2];exact⟨.agg #[.int .u64 x2,.int .u64 x3,.int .u64 x4,.int .u64 x5],.agg #[.int .u64 y2,.int .u64 y3,.int .u64 y4,.int .u64 y5],by kernel_rfl,by kernel_rfl,lU d x2 x3 x4 x5 y2 y3 y4 y5 w⟩
  | 3,_=>
   obtain⟨h1,h2⟩:=at7 (at1 hm);obtain rfl:=at1 hr;rw[h1,h2];exact⟨.agg #[.int .u64 x6,.int .u64 x7,.int .u64 x8,.int .u64 x9],.agg #[.int .u64 y6,.int .u64 y7,.int .u64 y8,.int .u64 y9],by kernel_rfl,by kernel_rfl,lU d x6 x7 x8 x9 y6 y7 y8 y9 w⟩
 rw[show d+3=(d+2)+1 from rfl,run_equalIn_agg w (d+2) 129 _ _ (by kernel_rfl) (by kernel_rfl),hq];congr 1;rw[aud];simp[and_assoc]
theorem ab5(d:Nat)(x1 x2 x3 x4 y1 y2 y3 y4:Int)(x0 y0:ByteArray)(w:World):(Op.equalIn (d+3) 184 (.agg #[.string x0,.int .u64 x1,.int .u64 x2,.int .u64 x3,.int .u64 x4]) (.agg #[.string y0,.int .u64 y1,.int .u64 y2,.int .u64 y3,.int .u64 y4])).run Tryz.prog w=.ok (decide (x0=y0∧x1=y1∧x2=y2∧x3=y3∧x4=y4)) w:=by
 have hf:(Tryz.prog.fieldsOf 184).toList.map (fun f=>(f.type,f.offset))=[(9,0),(54,1)]:=by kernel_rfl
 have hq:(Op.eqFields (d+2) #[.string x0,.int .u64 x1,.int .u64 x2,.int .u64 x3,.int .u64 x4] #[.string y0,.int .u64 y1,.int .u64 y2,.int .u64 y3,.int .u64 y4] (Tryz.prog.fieldsOf 184).toList).run Tryz.prog w=.ok ([decide (x0=y0),decide (x1=y1∧x2=y2∧x3=y3∧x4=y4)].all id) w:=by
  refine dI _ _ (by kernel_rfl) (by kernel_rfl) fun i f r hi hr=>?_
  have hm:=congrArg (fun z:List (Nat×Nat)=>z[i]?) hf;simp only[at8,hi,Option.map_some] at hm;have hlt:i<2:=(atY.1 hr).1
  match i,hlt with
  | 0,_=>
   obtain⟨h1,h2⟩:=at7 (at1 hm);obtain rfl:=at1 hr;rw[h1,h2];exact⟨.string x0,.string y0,by kernel_rfl,by kernel_rfl,JQ (d+1) x0 y0 w⟩
  | 1,_=>
   obtain⟨h1,h2⟩:=at7 (at1 hm);obtain rfl:=at1 hr;rw[h1,h2];exact⟨.agg #[.int .u64 x1,.int .u64 x2,.int .u64 x3,.int .u64 x4],.agg #[.int .u64 y1,.int .u64 y2,.int .u64 y3,.int .u64 y4],by kernel_rfl,by kernel_rfl,lU d x1 x2 x3 x4 y1 y2 y3 y4 w⟩
 rw[show d+3=(d+2)+1 from rfl,run_equalIn_agg w (d+2) 184 _ _ (by kernel_rfl) (by kernel_rfl),hq];congr 1;rw[aud];simp
theorem VK(d:Nat)(x1 x2 x3 x4 x5 x6 x7 x8 y1 y2 y3 y4 y5 y6 y7 y8:Int)(x0 y0:ByteArray)(w:World):(Op.equalIn (d+3) 188 (.agg #[.string x0,.int .u64 x1,.int .u64 x2,.int .u64 x3,.int .u64 x4,.int .u64 x5,.int .u64 x6,.int .u64 x7,.int .u64 x8]) (.agg #[.string y0,.int .u64 y1,.int .u64 y2,.int .u64 y3,.int .u64 y4,.int .u64 y5,.int .u64 y6,.int .u64 y7,.int .u64 y8])).run Tryz.prog w=.ok (decide (x0=y0∧x1=y1∧x2=y2∧x3=y3∧x4=y4∧x5=y5∧x6=y6∧x7=y7∧x8=y8)) w:=by
 have hf:(Tryz.prog.fieldsOf 188).toList.map (fun f=>(f.type,f.offset))=[(9,0),(54,1),(54,5)]:=by kernel_rfl
 have hq:(Op.eqFields (d+2) #[.string x0,.int .u64 x1,.int .u64 x2,.int .u64 x3,.int .u64 x4,.int .u64 x5,.int .u64 x6,.int .u64 x7,.int .u64 x8] #[.string y0,.int .u64 y1,.int .u64 y2,.int .u64 y3,.int .u64 y4,.int .u64 y5,.int .u64 y6,.int .u64 y7,.int .u64 y8] (Tryz.prog.fieldsOf 188).toList).run Tryz.prog w=.ok ([decide (x0=y0),decide (x1=y1∧x2=y2∧x3=y3∧x4=y4),decide (x5=y5∧x6=y6∧x7=y7∧x8=y8)].all id) w:=by
  refine dI _ _ (by kernel_rfl) (by kernel_rfl) fun i f r hi hr=>?_
  have hm:=congrArg (fun z:List (Nat×Nat)=>z[i]?) hf;simp only[at8,hi,Option.map_some] at hm;have hlt:i<3:=(atY.1 hr).1
  match i,hlt with
  | 0,_=>
   obtain⟨h1,h2⟩:=at7 (at1 hm);obtain rfl:=at1 hr;rw[h1,h2];exact⟨.string x0,.string y0,by kernel_rfl,by kernel_rfl,JQ (d+1) x0 y0 w⟩
  | 1,_=>
   obtain⟨h1,h2⟩:=at7 (at1 hm);obtain rfl:=at1 hr;rw[h1,h2];exact⟨.agg #[.int .u64 x1,.int .u64 x2,.int .u64 x3,.int .u64 x4],.agg #[.int .u64 y1,.int .u64 y2,.int .u64 y3,.int .u64 y4],by kernel_rfl,by kernel_rfl,lU d x1 x2 x3 x4 y1 y2 y3 y4 w⟩
  | 2,_=>
   obtain⟨h1,h2⟩:=at7 (at1 hm);obtain rfl:=at1 hr;rw[h1,h2];exact⟨.agg #[.int .u64 x5,.int .u64 x6,.int .u64 x7,.int .u64 x8],.agg #[.int .u64 y5,.int .u64 y6,.int .u64 y7,.int .u64 y8],by kernel_rfl,by kernel_rfl,lU d x5 x6 x7 x8 y5 y6 y7 y8 w⟩
 rw[show d+3=(d+2)+1 from rfl,run_equalIn_agg w (d+2) 188 _ _ (by kernel_rfl) (by kernel_rfl),hq];congr 1;rw[aud];simp[and_assoc]
theorem ab4(d:Nat)(x1 x2 x3 x4 x5 x6 x7 x8 x9 x10 y1 y2 y3 y4 y5 y6 y7 y8 y9 vD:Int)(x0 y0:ByteArray)(w:World):(Op.equalIn (d+4) 192 (.agg #[.string x0,.int .u64 x1,.int .u64 x2,.int .u64 x3,.int .u64 x4,.int .i64 x5,.int .u64 x6,.int .i64 x7,.int .u64 x8,.int .i64 x9,.int .u64 x10]) (.agg #[.string y0,.int .u64 y1,.int .u64 y2,.int .u64 y3,.int .u64 y4,.int .i64 y5,.int .u64 y6,.int .i64 y7,.int .u64 y8,.int .i64 y9,.int .u64 vD])).run Tryz.prog w=.ok (decide (x0=y0∧x1=y1∧x2=y2∧x3=y3∧x4=y4∧x5=y5∧x6=y6∧x7=y7∧x8=y8∧x9=y9∧x10=vD)) w:=by
 have hf:(Tryz.prog.fieldsOf 192).toList.map (fun f=>(f.type,f.offset))=[(9,0),(54,1),(70,5),(72,7)]:=by kernel_rfl
 have hq:(Op.eqFields (d+3) #[.string x0,.int .u64 x1,.int .u64 x2,.int .u64 x3,.int .u64 x4,.int .i64 x5,.int .u64 x6,.int .i64 x7,.int .u64 x8,.int .i64 x9,.int .u64 x10] #[.string y0,.int .u64 y1,.int .u64 y2,.int .u64 y3,.int .u64 y4,.int .i64 y5,.int .u64 y6,.int .i64 y7,.int .u64 y8,.int .i64 y9,.int .u64 vD] (Tryz.prog.fieldsOf 192).toList).run Tryz.prog w=.ok ([decide (x0=y0),decide (x1=y1∧x2=y2∧x3=y3∧x4=y4),decide (x5=y5∧x6=y6),decide (x7=y7∧x8=y8∧x9=y9∧x10=vD)].all id) w:=by
  refine dI _ _ (by kernel_rfl) (by kernel_rfl) fun i f r hi hr=>?_
  have hm:=congrArg (fun z:List (Nat×Nat)=>z[i]?) hf;simp only[at8,hi,Option.map_some] at hm;have hlt:i<4:=(atY.1 hr).1
  match i,hlt with
  | 0,_=>
   obtain⟨h1,h2⟩:=at7 (at1 hm);obtain rfl:=at1 hr;rw[h1,h2];exact⟨.string x0,.string y0,by kernel_rfl,by kernel_rfl,JQ (d+2) x0 y0 w⟩
  | 1,_=>
   obtain⟨h1,h2⟩:=at7 (at1 hm);obtain rfl:=at1 hr;rw[h1,h2];exact⟨.agg #[.int .u64 x1,.int .u64 x2,.int .u64 x3,.int .u64 x4],.agg #[.int .u64 y1,.int .u64 y2,.int .u64 y3,.int .u64 y4],by kernel_rfl,by kernel_rfl,lU (d+1) x1 x2 x3 x4 y1 y2 y3 y4 w⟩
  | 2,_=>
   obtain⟨h1,h2⟩:=at7 (at1 hm);obtain rfl:=at1 hr;rw[h1,h2];exact⟨.agg #[.int .i64 x5,.int .u64 x6],.agg #[.int .i64 y5,.int .u64 y6],by kernel_rfl,by kernel_rfl,VJ (d+1) x5 x6 y5 y6 w⟩
  | 3,_=>
   obtain⟨h1,h2⟩:=at7 (at1 hm);obtain rfl:=at1 hr;rw[h1,h2];exact⟨.agg #[.int .i64 x7,.int .u64 x8,.int .i64 x9,.int .u64 x10],.agg #[.int .i64 y7,.int .u64 y8,.int .i64 y9,.int .u64 vD],by kernel_rfl,by kernel_rfl,VI d x7 x8 x9 x10 y7 y8 y9 vD w⟩
 rw[show d+4=(d+3)+1 from rfl,run_equalIn_agg w (d+3) 192 _ _ (by kernel_rfl) (by kernel_rfl),hq];congr 1;rw[aud];simp[and_assoc]
theorem ab3(d:Nat)(x1 y1:Bool)(x0 y0:ByteArray)(w:World):(Op.equalIn (d+2) 197 (.agg #[.string x0,.bool x1]) (.agg #[.string y0,.bool y1])).run Tryz.prog w=.ok (decide (x0=y0∧x1=y1)) w:=by
 have hf:(Tryz.prog.fieldsOf 197).toList.map (fun f=>(f.type,f.offset))=[(9,0),(4,1)]:=by kernel_rfl
 have hq:(Op.eqFields (d+1) #[.string x0,.bool x1] #[.string y0,.bool y1] (Tryz.prog.fieldsOf 197).toList).run Tryz.prog w=.ok ([decide (x0=y0),decide (x1=y1)].all id) w:=by
  refine dI _ _ (by kernel_rfl) (by kernel_rfl) fun i f r hi hr=>?_
  have hm:=congrArg (fun z:List (Nat×Nat)=>z[i]?) hf;simp only[at8,hi,Option.map_some] at hm;have hlt:i<2:=(atY.1 hr).1
  match i,hlt with
  | 0,_=>
   obtain⟨h1,h2⟩:=at7 (at1 hm);obtain rfl:=at1 hr;rw[h1,h2];exact⟨.string x0,.string y0,by kernel_rfl,by kernel_rfl,JQ d x0 y0 w⟩
  | 1,_=>
   obtain⟨h1,h2⟩:=at7 (at1 hm);obtain rfl:=at1 hr;rw[h1,h2];exact⟨.bool x1,.bool y1,by kernel_rfl,by kernel_rfl,afi d x1 y1 w⟩
 rw[show d+2=(d+1)+1 from rfl,run_equalIn_agg w (d+1) 197 _ _ (by kernel_rfl) (by kernel_rfl),hq];congr 1;rw[aud];simp
theorem ab2(d:Nat)(x0 x1 x2 x3 x4 x5 x6 x7 x8 x9 y0 y1 y2 y3 y4 y5 y6 y7 y8 y9:Int)(w:World):(Op.equalIn (d+3) 203 (.agg #[.int .u64 x0,.int .u64 x1,.int .u64 x2,.int .u64 x3,.int .u64 x4,.int .u64 x5,.int .u64 x6,.int .u64 x7,.int .i64 x8,.int .i64 x9]) (.agg #[.int .u64 y0,.int .u64 y1,.int .u64 y2,.int .u64 y3,.int .u64 y4,.int .u64 y5,.int .u64 y6,.int .u64 y7,.int .i64 y8,.int .i64 y9])).run Tryz.prog w=.ok (decide (x0=y0∧x1=y1∧x2=y2∧x3=y3∧x4=y4∧x5=y5∧x6=y6∧x7=y7∧x8=y8∧x9=y9)) w:=by
 have hf:(Tryz.prog.fieldsOf 203).toList.map (fun f=>(f.type,f.offset))=[(54,0),(54,4),(3,8),(3,9)]:=by kernel_rfl
 have hq:(Op.eqFields (d+2) #[.int .u64 x0,.int .u64 x1,.int .u64 x2,.int .u64 x3,.int .u64 x4,.int .u64 x5,.int .u64 x6,.int .u64 x7,.int .i64 x8,.int .i64 x9] #[.int .u64 y0,.int .u64 y1,.int .u64 y2,.int .u64 y3,.int .u64 y4,.int .u64 y5,.int .u64 y6,.int .u64 y7,.int .i64 y8,.int .i64 y9] (Tryz.prog.fieldsOf 203).toList).run Tryz.prog w=.ok ([decide (x0=y0∧x1=y1∧x2=y2∧x3=y3),decide (x4=y4∧x5=y5∧x6=y6∧x7=y7),decide (x8=y8),decide (x9=y9)].all id) w:=by
  refine dI _ _ (by kernel_rfl) (by kernel_rfl) fun i f r hi hr=>?_
  have hm:=congrArg (fun z:List (Nat×Nat)=>z[i]?) hf;simp only[at8,hi,Option.map_some] at hm;have hlt:i<4:=(atY.1 hr).1
  match i,hlt with
  | 0,_=>
   obtain⟨h1,h2⟩:=at7 (at1 hm);obtain rfl:=at1 hr;rw[h1,h2];exact⟨.agg #[.int .u64 x0,.int .u64 x1,.int .u64 x2,.int .u64 x3],.agg #[.int .u64 y0,.int .u64 y1,.int .u64 y2,.int .u64 y3],by kernel_rfl,by kernel_rfl,lU d x0 x1 x2 x3 y0 y1 y2 y3 w⟩
  | 1,_=>
   obtain⟨h1,h2⟩:=at7 (at1 hm);obtain rfl:=at1 hr;rw[h1,h2];exact⟨.agg #[.int .u64 x4,.int .u64 x5,.int .u64 x6,.int .u64 x7],.agg #[.int .u64 y4,.int .u64 y5,.int .u64 y6,.int .u64 y7],by kernel_rfl,by kernel_rfl,lU d x4 x5 x6 x7 y4 y5 y6 y7 w⟩
  | 2,_=>
   obtain⟨h1,h2⟩:=at7 (at1 hm);obtain rfl:=at1 hr;rw[h1,h2];exact⟨.int .i64 x8,.int .i64 y8,by kernel_rfl,by kernel_rfl,rT (d+1) x8 y8 w⟩
  | 3,_=>
   obtain⟨h1,h2⟩:=at7 (at1 hm);obtain rfl:=at1 hr;rw[h1,h2];exact⟨.int .i64 x9,.int .i64 y9,by kernel_rfl,by kernel_rfl,rT (d+1) x9 y9 w⟩
 rw[show d+3=(d+2)+1 from rfl,run_equalIn_agg w (d+2) 203 _ _ (by kernel_rfl) (by kernel_rfl),hq];congr 1;rw[aud];simp[and_assoc]
theorem ab1(d:Nat)(x0 x1 x2 x3 x4 x5 x6 x7 x8 x9 x10 pK pJ y0 y1 y2 y3 y4 y5 y6 y7 y8 y9 vD CW CV:Int)(w:World):(Op.equalIn (d+4) 205 (.agg #[.int .u64 x0,.int .u64 x1,.int .u64 x2,.int .u64 x3,.int .u64 x4,.int .u64 x5,.int .u64 x6,.int .u64 x7,.int .i64 x8,.int .i64 x9,.int .u64 x10,.int .i64 pK,.int .u64 pJ]) (.agg #[.int .u64 y0,.int .u64 y1,.int .u64 y2,.int .u64 y3,.int .u64 y4,.int .u64 y5,.int .u64 y6,.int .u64 y7,.int .i64 y8,.int .i64 y9,.int .u64 vD,.int .i64 CW,.int .u64 CV])).run Tryz.prog w=.ok (decide (x0=y0∧x1=y1∧x2=y2∧x3=y3∧x4=y4∧x5=y5∧x6=y6∧x7=y7∧x8=y8∧x9=y9∧x10=vD∧pK=CW∧pJ=CV)) w:=by
 have hf:(Tryz.prog.fieldsOf 205).toList.map (fun f=>(f.type,f.offset))=[(54,0),(54,4),(3,8),(72,9)]:=by kernel_rfl
 have hq:(Op.eqFields (d+3) #[.int .u64 x0,.int .u64 x1,.int .u64 x2,.int .u64 x3,.int .u64 x4,.int .u64 x5,.int .u64 x6,.int .u64 x7,.int .i64 x8,.int .i64 x9,.int .u64 x10,.int .i64 pK,.int .u64 pJ] #[.int .u64 y0,.int .u64 y1,.int .u64 y2,.int .u64 y3,.int .u64 y4,.int .u64 y5,.int .u64 y6,.int .u64 y7,.int .i64 y8,.int .i64 y9,.int .u64 vD,.int .i64 CW,.int .u64 CV] (Tryz.prog.fieldsOf 205).toList).run Tryz.prog w=.ok ([decide (x0=y0∧x1=y1∧x2=y2∧x3=y3),decide (x4=y4∧x5=y5∧x6=y6∧x7=y7),decide (x8=y8),decide (x9=y9∧x10=vD∧pK=CW∧pJ=CV)].all id) w:=by
  refine dI _ _ (by kernel_rfl) (by kernel_rfl) fun i f r hi hr=>?_
  have hm:=congrArg (fun z:List (Nat×Nat)=>z[i]?) hf;simp only[at8,hi,Option.map_some] at hm;have hlt:i<4:=(atY.1 hr).1
  match i,hlt with
  | 0,_=>
   obtain⟨h1,h2⟩:=at7 (at1 hm);obtain rfl:=at1 hr;rw[h1,h2];exact⟨.agg #[.int .u64 x0,.int .u64 x1,.int .u64 x2,.int .u64 x3],.agg #[.int .u64 y0,.int .u64 y1,.int .u64 y2,.int .u64 y3],by kernel_rfl,by kernel_rfl,lU (d+1) x0 x1 x2 x3 y0 y1 y2 y3 w⟩
  | 1,_=>
   obtain⟨h1,h2⟩:=at7 (at1 hm);obtain rfl:=at1 hr;rw[h1,h2];exact⟨.agg #[.int .u64 x4,.int .u64 x5,.int .u64 x6,.int .u64 x7],.agg #[.int .u64 y4,.int .u64 y5,.int .u64 y6,.int .u64 y7],by kernel_rfl,by kernel_rfl,lU (d+1) x4 x5 x6 x7 y4 y5 y6 y7 w⟩
  | 2,_=>
   obtain⟨h1,h2⟩:=at7 (at1 hm);obtain rfl:=at1 hr;rw[h1,h2];exact⟨.int .i64 x8,.int .i64 y8,by kernel_rfl,by kernel_rfl,rT (d+2) x8 y8 w⟩
  | 3,_=>
   obtain⟨h1,h2⟩:=at7 (at1 hm);obtain rfl:=at1 hr;rw[h1,h2];exact⟨.agg #[.int .i64 x9,.int .u64 x10,.int .i64 pK,.int .u64 pJ],.agg #[.int .i64 y9,.int .u64 vD,.int .i64 CW,.int .u64 CV],by kernel_rfl,by kernel_rfl,VI d x9 x10 pK pJ y9 vD CW CV w⟩
 rw[show d+4=(d+3)+1 from rfl,run_equalIn_agg w (d+3) 205 _ _ (by kernel_rfl) (by kernel_rfl),hq];congr 1;rw[aud];simp[and_assoc]
end Go.Proofs.YtdcofoaihmongaaGreat
namespace Go.Proofs.YtdcofoaihmongaaGreat
open Go Go.RowKit
def xH:Nat→ay
 | 0=>ay.zero
 | k+1=>(xH k).with (k:Int)
def ay.all(n:Nat):ay:=xH (min n 256)
theorem GY:∀ k,(xH k).Ok
 | 0=>zn
 | k+1=>ay.EJ (GY k) _
theorem AR(w:World)(n:Nat)(hn:n≤140737488355328):Calls Tryz.prog 104 #[.int .i64 (n:Int)] w fun e w'=>e=.returned (.agg #[.int .u64 (ay.all n).a,.int .u64 (ay.all n).b,.int .u64 (ay.all n).c,.int .u64 (ay.all n).d])∧at4 w.heap.size w w':=by
 refine cL [] (fn:=Tryz.f104) Tryz.func104 rfl Tryz.ntmps104 rfl<|ei<|an KO fun g1 w1 M1=>ei (x:=.agg #[.int .u64 0,.int .u64 0,.int .u64 0,.int .u64 0])<|an (bd (by kernel_rfl))<|ei<|an KO fun g2 w2 M2=>lb 0<|an ⟨rfl,rfl⟩ fun w3 M3=>lp (ι:=Nat) (fun k=>[(4,.int .i64 (k:Int))]) (fun k=>[(g2,54,#[.int .u64 (xH k).a,.int .u64 (xH k).b,.int .u64 (xH k).c,.int .u64 (xH k).d]),_]) (fun _=>[]) (fun k _=>k≤n∧k≤256) (fun k=>256-k) 0 (an ⟨⟨rfl,trivial⟩,fun M=>⟨M,aue _,aue _⟩⟩ ?_)
 intro k w M ⟨hk1,hk2⟩;refine an (fun h=>?_) fun h=>?_
 ·simp only[atX,decide_eq_true_eq] at h;exact lb 0<|an rfl<|cl<|an (DK _ (xH k) (GY k) k) fun w4 M4=>lb 0<|an ⟨rfl,rfl⟩ fun w5 M5=>an (by omega)<|bk (k+1) ⟨rfl,trivial⟩ (fun M=>⟨M,by omega⟩) (by dsimp only;omega)
 ·obtain rfl:k=min n 256:=by
   rw[Bool.and_eq_false_iff,decide_eq_false_iff_not,decide_eq_false_iff_not] at h;omega
  exact lb 0<|an rfl<|lb 1<|an ⟨rfl,rfl⟩ fun w M=>ei (x:=1)<|an rfl fun M=>⟨rfl,M.below⟩
theorem uZ{w:World}{g:Nat}{s:ay}{k:Nat}(h:Whole w g 54 #[.int .u64 s.a,.int .u64 s.b,.int .u64 s.c,.int .u64 s.d])(hk:k<4):w.cell? ⟨g,k,none⟩=some (.int .u64 (s.word k)):=by
 have h1:=h.cell k
 rwa [show(#[.int .u64 s.a,.int .u64 s.b,.int .u64 s.c,.int .u64 s.d]:Array Value)[k]?=some (.int .u64 (s.word k)) by rw[← Array.getElem?_toList];exact s.u6 hk] at h1
def rV(x y:Nat):Nat:=x&&&(18446744073709551615-y)
theorem YJ{x:Nat}(hx:zl x)(y:Nat):zl (rV x y):=Nat.lt_of_le_of_lt Nat.and_le_left hx
def ay.minus(a b:ay):ay:=⟨rV a.a b.a,rV a.b b.b,rV a.c b.c,rV a.d b.d⟩
theorem ay.Ad(a b:ay){j:Nat}(hj:j<4):(a.minus b).word j=rV (a.word j) (b.word j):=by
 rcases four hj with rfl|rfl|rfl|rfl<;>rfl
theorem ay.SY{a b:ay}(h:∀ j,j<4→a.word j=b.word j):a=b:=by
 have h0:=h 0 (by decide);have h1:=h 1 (by decide);have h2:=h 2 (by decide);have h3:=h 3 (by decide);obtain⟨p,q,r,s⟩:=a;obtain⟨p',q',r',s'⟩:=b;simp[ay.word] at h0 h1 h2 h3;clear h;simp[h0,h1,h2,h3]
theorem L3(w:World)(a b:ay)(ha:a.Ok)(hb:b.Ok):Calls Tryz.prog 194 #[.agg #[.int .u64 a.a,.int .u64 a.b,.int .u64 a.c,.int .u64 a.d],.agg #[.int .u64 b.a,.int .u64 b.b,.int .u64 b.c,.int .u64 b.d]] w fun e w'=>e=.returned (.agg #[.int .u64 (a.minus b).a,.int .u64 (a.minus b).b,.int .u64 (a.minus b).c,.int .u64 (a.minus b).d])∧at4 w.heap.size w w':=by
 have HOA:=auf ha;have HOB:=auf hb;clear ha hb;obtain⟨wo,cZ⟩:∃ wo,wo=((w.alloc (.cells #[.int .u64 a.a,.int .u64 a.b,.int .u64 a.c,.int .u64 a.d] 54)).alloc (.cells #[.int .u64 b.a,.int .u64 b.b,.int .u64 b.c,.int .u64 b.d] 54)).alloc (.cells #[.int .u64 0,.int .u64 0,.int .u64 0,.int .u64 0] 54):=⟨_,rfl⟩;have YU:=auf (show Whole wo w.heap.size 54 #[.int .u64 a.a,.int .u64 a.b,.int .u64 a.c,.int .u64 a.d] by rw[cZ];exact((Whole.new w 54 _).alloc _).alloc _);have Z9:=auf (show Whole wo (w.heap.size+1) 54 #[.int .u64 b.a,.int .u64 b.b,.int .u64 b.c,.int .u64 b.d] by rw[cZ];exact(dZ w _ _ _).alloc _);have HA2:=auf (show Whole wo (w.heap.size+2) 54 #[.int .u64 0,.int .u64 0,.int .u64 0,.int .u64 0] by rw[cZ];have h:=dZ (w.alloc (.cells #[.int .u64 a.a,.int .u64 a.b,.int .u64 a.c,.int .u64 a.d] 54)) (.cells #[.int .u64 b.a,.int .u64 b.b,.int .u64 b.c,.int .u64 b.d] 54) #[.int .u64 0,.int .u64 0,.int .u64 0,.int .u64 0] 54;simpa using h);have iH:=auf (show at4 w.heap.size w wo by rw[cZ];exact(((Below.refl _ w).alloc (Nat.le_refl _) _).alloc (by simp) _).alloc (by simp;omega) _)
 go_enter Tryz.func194,Tryz.ntmps194
 go_upto_region 1 with(fail)
 rw[← cZ];clear cZ
 go_wp2_with fail
 go_loopw [5] (fun i wr=>∃ (k:Nat) (s:ay),k≤4∧i=.int .i64 k∧(∀ j,j<4→s.word j=if j<k then rV (a.word j) (b.word j) else a.word j)∧Whole wr w.heap.size 54 #[.int .u64 s.a,.int .u64 s.b,.int .u64 s.c,.int .u64 s.d]∧Whole wr (w.heap.size+1) 54 #[.int .u64 b.a,.int .u64 b.b,.int .u64 b.c,.int .u64 b.d]∧Whole wr (w.heap.size+2) 54 #[.int .u64 0,.int .u64 0,.int .u64 0,.int .u64 0]∧at4 w.heap.size w wr) (fun i _=>4-(intOf i).toNat)
 case atStart=>exact⟨0,a,by omega,rfl,fun j _=>rfl,YU.out,Z9.out,HA2.out,iH.out⟩
 case round=>
  clear YU Z9 HA2 iH;obtain⟨k,s,hk,rfl,hse,h0,h1,h2,hbw⟩:=hrel;have HSE:=auf hse;have WZ:=auf h0;have pG:=auf h1;have WY:=auf h2;have WX:=auf hbw;clear hse h0 h1 h2 hbw;by_cases hlt:k<4
  ·obtain⟨x,hx⟩:∃ x,x=a.word k:=⟨_,rfl⟩;obtain⟨y,hy⟩:∃ y,y=b.word k:=⟨_,rfl⟩;have hsk:s.word k=x:=by rw[HSE.out k hlt,if_neg (Nat.lt_irrefl k),hx]
   have HKA:=auf (show wr.cell? ⟨w.heap.size,k,none⟩=some (.int .u64 (x:Int)) by rw[← hsk];exact uZ WZ.out hlt);have HKB:=auf (show wr.cell? ⟨w.heap.size+1,k,none⟩=some (.int .u64 (y:Int)) by rw[hy];exact uZ pG.out hlt);have HAN:=auf (u64_andNot_nat x y (by rw[hx];exact ay.iE HOA.out k) (by rw[hy];exact ay.iE HOB.out k))
   have aji:=auf (show ∀ j,j<4→(s.put k (x&&&(18446744073709551615-y))).word j=if j<k+1 then rV (a.word j) (b.word j) else a.word j by
    intro j hj;rw[ay.H6 s hlt hj];by_cases e:j=k
    ·subst e;rw[if_pos rfl,if_pos (by omega),hx,hy];rfl
    ·rw[if_neg e,HSE.out j hj];by_cases e2:j<k
     ·rw[if_pos e2,if_pos (by omega)]
     ·rw[if_neg e2,if_neg (by omega)])
   clear hx hy hsk HSE
   go_wp2_with fail
   refine fA (fun w w'=>Below w.heap.size w w') [some 10,some 11,some 12,some 13,some 14,some 15,some 16,some 17,some 18] [bZ (.int .i64 (k:Int)),bZ (.int .i64 (k:Int)),bZ (.pointer (some ⟨w.heap.size,k,none⟩)),bZ (.int .u64 (x:Int)),bZ (.int .i64 (k:Int)),bZ (.pointer (some ⟨w.heap.size+1,k,none⟩)),bZ (.int .u64 (y:Int)),bZ (.int .u64 ((x&&&(18446744073709551615-y):Nat):Int)),bZ (.pointer (some ⟨w.heap.size,k,none⟩))] (fun _ w'=>at4 wr.heap.size wr w') 9 (by kernel_rfl) (by kernel_rfl) (by kernel_rfl) rfl (by decide) rfl rfl ((Below.refl _ _).drew) ⟨ak _,ak _,ak _,ak _,ak _,ak _,ak _,ak _,ak _,trivial⟩ ⟨(fun _=>aG _),(fun _=>aG _),(fun _=>aG _),(fun _=>aG _),(fun _=>aG _),(fun _=>aG _),(fun _=>aG _),(fun _=>aG _),(fun _=>aG _),trivial⟩ ⟨?_,?_,?_,?_,?_,?_,?_,?_,?_,?_⟩
   ·intro L a wx Q' hL hi H F hK
    try dsimp only at hi
    have h5:a.tmps[5]?=some (.int .i64 (k:Int)):=F 5 rfl;have HI:=auf hi;clear H F hi hL
    go_wp2_with fail
    exact hK _ _ (Below.refl _ _) HI.out rfl
   ·intro L a wx Q' hL hi H F hK
    try dsimp only at hi
    have h5:a.tmps[5]?=some (.int .i64 (k:Int)):=F 5 rfl;have HI:=auf hi;clear H F hi hL
    go_wp2_with fail
    exact hK _ _ (Below.refl _ _) HI.out rfl
   ·intro L a wx Q' hL hi H F hK
    try dsimp only at hi
    obtain⟨_,ow,rfl⟩:=H 1 ⟨.data,by simp,rfl⟩ _ rfl;replace ow:=ow _ rfl;have h2:a.tmps[2]?=some (.pointer (some ⟨w.heap.size,0,none⟩)):=F 2 rfl;have HI:=auf hi;clear H F hi hL
    go_wp2_with fail
    exact hK _ _ (Below.refl _ _) HI.out rfl
   ·intro L a wx Q' hL hi H F hK
    try dsimp only at hi
    obtain⟨_,h12,rfl⟩:=H 2 ⟨.data,by simp,rfl⟩ _ rfl;replace h12:=h12 _ rfl;have HI:=auf hi;clear H F hi hL;have kk:wx.cell? ⟨w.heap.size,k,none⟩=some (.int .u64 (x:Int)):=aug HI.out HKA.out
    go_wp2_with fail
    exact hK _ _ (Below.refl _ _) HI.out rfl
   ·intro L a wx Q' hL hi H F hK
    try dsimp only at hi
    have h5:a.tmps[5]?=some (.int .i64 (k:Int)):=F 5 rfl;have HI:=auf hi;clear H F hi hL
    go_wp2_with fail
    exact hK _ _ (Below.refl _ _) HI.out rfl
   ·intro L a wx Q' hL hi H F hK
    try dsimp only at hi
    obtain⟨_,KH,rfl⟩:=H 4 ⟨.data,by simp,rfl⟩ _ rfl;replace KH:=KH _ rfl;have h3:a.tmps[3]?=some (.pointer (some ⟨w.heap.size+1,0,none⟩)):=F 3 rfl;have HI:=auf hi;clear H F hi hL
    go_wp2_with fail
    exact hK _ _ (Below.refl _ _) HI.out rfl
   ·intro L a wx Q' hL hi H F hK
    try dsimp only at hi
    obtain⟨_,Ea,rfl⟩:=H 5 ⟨.data,by simp,rfl⟩ _ rfl;replace Ea:=Ea _ rfl;have HI:=auf hi;clear H F hi hL;have kk:wx.cell? ⟨w.heap.size+1,k,none⟩=some (.int .u64 (y:Int)):=aug HI.out HKB.out
    go_wp2_with fail
    exact hK _ _ (Below.refl _ _) HI.out rfl
   ·intro L a wx Q' hL hi H F hK
    try dsimp only at hi
    obtain⟨_,JD,rfl⟩:=H 3 ⟨.data,by simp,rfl⟩ _ rfl;replace JD:=JD _ rfl;obtain⟨_,D_,rfl⟩:=H 6 ⟨.data,by simp,rfl⟩ _ rfl;replace D_:=D_ _ rfl;have HI:=auf hi;clear H F hi hL
    go_wp2_with fail
    exact hK _ _ (Below.refl _ _) HI.out (congrArg (Value.int IntKind.u64) HAN.out.symm)
   ·intro L a wx Q' hL hi H F hK
    try dsimp only at hi
    obtain⟨_,Ni,rfl⟩:=H 0 ⟨.data,by simp,rfl⟩ _ rfl;replace Ni:=Ni _ rfl;have h2:a.tmps[2]?=some (.pointer (some ⟨w.heap.size,0,none⟩)):=F 2 rfl;have HI:=auf hi;clear H F hi hL
    go_wp2_with fail
    exact hK _ _ (Below.refl _ _) HI.out rfl
   ·intro a wx hl L hi hL Q' hK
    try dsimp only at hi
    have HB:=auf hi;clear hi hL;obtain⟨_,rfl,_,rfl,_,rfl,_,rfl,_,rfl,_,rfl,_,rfl,_,rfl,_,rfl,rfl⟩:=hl;simp only[List.setIfInBounds_toArray,List.set_cons_zero,List.set_cons_succ];have HX:=auf (Whole.under HB.out WZ.out WZ.out.lt);have HY:=auf (Whole.under HB.out pG.out pG.out.lt);have HZ:=auf (Whole.under HB.out WY.out WY.out.lt);have KM:=auf (WX.out.trans (HB.out.mono WX.out.size));clear HB WZ pG WY WX
    go_wp2_with (refine bp rfl 52 _ _ rfl (w.heap.size) k (.int .u64 ((x&&&(18446744073709551615-y):Nat):Int)) rfl rfl 54 _ HX.out (by simp[Value.cells];omega) EV rfl ?_;intro w2 S2 W2;have zm:=auf S2;have HW2:=auf (show Whole w2 w.heap.size 54 #[.int .u64 (s.put k (x&&&(18446744073709551615-y))).a,.int .u64 (s.put k (x&&&(18446744073709551615-y))).b,.int .u64 (s.put k (x&&&(18446744073709551615-y))).c,.int .u64 (s.put k (x&&&(18446744073709551615-y))).d] from by rw[sN s hlt _];exact W2);clear S2 W2)
    go_roundw
    case rel=>exact⟨k+1,s.put k (x&&&(18446744073709551615-y)),by omega,by go_num,aji.out,HW2.out,zm.out.whole HY.out (by omega),zm.out.whole HZ.out (by omega),KM.out.trans (zm.out.below (by omega))⟩
    case measure=>simp[intOf];omega
  ·obtain rfl:k=4:=by omega
   have HF:=auf (show s=a.minus b from ay.SY fun j hj=>by rw[HSE.out j hj,if_pos hj,ay.Ad a b hj])
   go_wp2_with (first|(refine wpList_load_row rfl 54 _ rfl (w.heap.size) rfl 54 _ (0,0) _ WZ.out Tryz.underlying54 rfl dW ?_)|(refine bp rfl 54 _ _ rfl (w.heap.size+2) 0 (.agg #[.int .u64 s.a,.int .u64 s.b,.int .u64 s.c,.int .u64 s.d]) rfl rfl 54 _ WY.out (by simp[Value.cells]) dW rfl ?_;intro w3 SW3 WW3;rw[ef _ _ (by rfl)] at WW3;have acJ:=auf SW3;have HW3:=auf (show Whole w3 (w.heap.size+2) 54 #[.int .u64 s.a,.int .u64 s.b,.int .u64 s.c,.int .u64 s.d] from WW3);clear SW3 WW3 WY))
   have e0:w3.cell? ⟨w.heap.size+2,0,none⟩=some (.int .u64 s.a):=HW3.out.cell 0;have e1:w3.cell? ⟨w.heap.size+2,1,none⟩=some (.int .u64 s.b):=HW3.out.cell 1;have e2:w3.cell? ⟨w.heap.size+2,2,none⟩=some (.int .u64 s.c):=HW3.out.cell 2;have e3:w3.cell? ⟨w.heap.size+2,3,none⟩=some (.int .u64 s.d):=HW3.out.cell 3;refine bodyPost_ret (v:=.agg #[.int .u64 s.a,.int .u64 s.b,.int .u64 s.c,.int .u64 s.d]) ?_ rfl ⟨by rw[HF.out],WX.out.trans (acJ.out.below (by omega))⟩;simp[results,Tryz.results194,go_sem,e0,e1,e2,e3]
def ay.within(a b:ay):Bool:=decide (a.minus b=ay.zero)
def ay.unit(s:ay):ay:=⟨rV s.a 1,s.b,s.c,s.d⟩
theorem ay.Xd{s:ay}(h:s.Ok):s.unit.Ok:=⟨YJ h.a _,h.b,h.c,h.d⟩
theorem C6(w:World)(s:ay)(hs:s.Ok):Calls Tryz.prog 195 #[.agg #[.int .u64 s.a,.int .u64 s.b,.int .u64 s.c,.int .u64 s.d],.int .i64 0] w fun e w'=>e=.returned (.agg #[.int .u64 s.unit.a,.int .u64 s.unit.b,.int .u64 s.unit.c,.int .u64 s.unit.d])∧at4 w.heap.size w w':=by
 have HAN:=auf (u64_andNot_nat s.a 1 hs.a (by decide));clear hs;obtain⟨wo,cZ⟩:∃ wo,wo=(w.alloc (.cells #[.int .u64 s.a,.int .u64 s.b,.int .u64 s.c,.int .u64 s.d] 54)).alloc (.cells #[.int .u64 0,.int .u64 0,.int .u64 0,.int .u64 0] 54):=⟨_,rfl⟩;have YU:=auf (show Whole wo w.heap.size 54 #[.int .u64 s.a,.int .u64 s.b,.int .u64 s.c,.int .u64 s.d] by rw[cZ];exact(Whole.new w 54 _).alloc _);have Z9:=auf (show Whole wo (w.heap.size+1) 54 #[.int .u64 0,.int .u64 0,.int .u64 0,.int .u64 0] by rw[cZ];exact dZ w _ _ _);have iH:=auf (show at4 w.heap.size w wo by rw[cZ];exact((Below.refl _ w).alloc (Nat.le_refl _) _).alloc (by simp) _);have HK0:=auf (show wo.cell? ⟨w.heap.size,0,none⟩=some (.int .u64 (s.a:Int)) from YU.out.cell 0)
 go_enter Tryz.func195,Tryz.ntmps195
 go_upto_region 1 with(fail)
 rw[← cZ];clear cZ
 go_wp2_with fail
 refine fA (fun w w'=>Below w.heap.size w w') [some 11,some 12,some 13,some 14,some 15,some 16,some 17,some 18,some 19,some 20] [bZ (.int .i64 0),bZ (.int .i64 0),bZ (.int .i64 0),bZ (.int .i64 0),bZ (.pointer (some ⟨w.heap.size,0,none⟩)),bZ (.int .u64 (s.a:Int)),bZ (.int .i64 0),bZ (.int .u64 ((1:Nat):Int)),bZ (.int .u64 ((rV s.a 1:Nat):Int)),bZ (.pointer (some ⟨w.heap.size,0,none⟩))] (fun _ w'=>at4 wo.heap.size wo w') 10 (by kernel_rfl) (by kernel_rfl) (by kernel_rfl) rfl (by decide) rfl rfl ((Below.refl _ _).drew) ⟨ak _,ak _,ak _,ak _,ak _,ak _,ak _,ak _,ak _,ak _,trivial⟩ ⟨(fun _=>aG _),(fun _=>aG _),(fun _=>aG _),(fun _=>aG _),(fun _=>aG _),(fun _=>aG _),(fun _=>aG _),(fun _=>aG _),(fun _=>aG _),(fun _=>aG _),trivial⟩ ⟨?_,?_,?_,?_,?_,?_,?_,?_,?_,?_,?_⟩
 ·intro L a wx Q' hL hi H F hK
  try dsimp only at hi
  have h1:a.tmps[1]?=some (.int .i64 0):=F 1 rfl;have HI:=auf hi;clear H F hi hL
  go_wp2_with fail
  exact hK _ _ (Below.refl _ _) HI.out rfl
 ·intro L a wx Q' hL hi H F hK
  try dsimp only at hi
  obtain⟨_,ow,rfl⟩:=H 0 ⟨.data,by simp,rfl⟩ _ rfl;replace ow:=ow _ rfl;have HI:=auf hi;clear H F hi hL
  go_wp2_with fail
  exact hK _ _ (Below.refl _ _) HI.out rfl
 ·intro L a wx Q' hL hi H F hK
  try dsimp only at hi
  have h1:a.tmps[1]?=some (.int .i64 0):=F 1 rfl;have HI:=auf hi;clear H F hi hL
  go_wp2_with fail
  exact hK _ _ (Below.refl _ _) HI.out rfl
 ·intro L a wx Q' hL hi H F hK
  try dsimp only at hi
  obtain⟨_,JD,rfl⟩:=H 2 ⟨.data,by simp,rfl⟩ _ rfl;replace JD:=JD _ rfl;have HI:=auf hi;clear H F hi hL
  go_wp2_with fail
  exact hK _ _ (Below.refl _ _) HI.out rfl
 ·intro L a wx Q' hL hi H F hK
  try dsimp only at hi
  obtain⟨_,KH,rfl⟩:=H 3 ⟨.data,by simp,rfl⟩ _ rfl;replace KH:=KH _ rfl;have h2:a.tmps[2]?=some (.pointer (some ⟨w.heap.size,0,none⟩)):=F 2 rfl;have HI:=auf hi;clear H F hi hL
  go_wp2_with fail
  exact hK _ _ (Below.refl _ _) HI.out rfl
 ·intro L a wx Q' hL hi H F hK
  try dsimp only at hi
  obtain⟨_,Ea,rfl⟩:=H 4 ⟨.data,by simp,rfl⟩ _ rfl;replace Ea:=Ea _ rfl;have HI:=auf hi;clear H F hi hL;have kk:wx.cell? ⟨w.heap.size,0,none⟩=some (.int .u64 (s.a:Int)):=aug HI.out HK0.out
  go_wp2_with fail
  exact hK _ _ (Below.refl _ _) HI.out rfl
 ·intro L a wx Q' hL hi H F hK
  try dsimp only at hi
  have h1:a.tmps[1]?=some (.int .i64 0):=F 1 rfl;have HI:=auf hi;clear H F hi hL
  go_wp2_with fail
  exact hK _ _ (Below.refl _ _) HI.out rfl
 ·intro L a wx Q' hL hi H F hK
  try dsimp only at hi
  obtain⟨_,Sw,rfl⟩:=H 6 ⟨.data,by simp,rfl⟩ _ rfl;replace Sw:=Sw _ rfl;have HI:=auf hi;clear H F hi hL
  go_wp2_with (go_at_call 64;go_must (refine(GU _ 0 (by decide)).mono ?_;rintro e w1 ⟨rfl,rfl⟩))
  exact hK _ _ (Below.refl _ _) HI.out rfl
 ·intro L a wx Q' hL hi H F hK
  try dsimp only at hi
  obtain⟨_,D_,rfl⟩:=H 5 ⟨.data,by simp,rfl⟩ _ rfl;replace D_:=D_ _ rfl;obtain⟨_,Sv,rfl⟩:=H 7 ⟨.data,by simp,rfl⟩ _ rfl;replace Sv:=Sv _ rfl;have HI:=auf hi;clear H F hi hL
  go_wp2_with fail
  exact hK _ _ (Below.refl _ _) HI.out (congrArg (Value.int IntKind.u64) HAN.out.symm)
 ·intro L a wx Q' hL hi H F hK
  try dsimp only at hi
  obtain⟨_,h12,rfl⟩:=H 1 ⟨.data,by simp,rfl⟩ _ rfl;replace h12:=h12 _ rfl;have h2:a.tmps[2]?=some (.pointer (some ⟨w.heap.size,0,none⟩)):=F 2 rfl;have HI:=auf hi;clear H F hi hL
  go_wp2_with fail
  exact hK _ _ (Below.refl _ _) HI.out rfl
 ·intro a wx hl L hi hL Q' hK
  try dsimp only at hi
  have HB:=auf hi;clear hi hL;obtain⟨_,rfl,_,rfl,_,rfl,_,rfl,_,rfl,_,rfl,_,rfl,_,rfl,_,rfl,_,rfl,rfl⟩:=hl;simp only[List.setIfInBounds_toArray,List.set_cons_zero,List.set_cons_succ];have HX:=auf (Whole.under HB.out YU.out YU.out.lt);have HY:=auf (Whole.under HB.out Z9.out Z9.out.lt);have KM:=auf (iH.out.trans (HB.out.mono iH.out.size));clear HB YU Z9 iH
  go_wp2_with (first|(refine bp rfl 52 _ _ rfl (w.heap.size) 0 (.int .u64 ((rV s.a 1:Nat):Int)) rfl rfl 54 _ HX.out (by simp[Value.cells]) EV rfl ?_;intro w2 S2 W2;have zm:=auf S2;have HW2:=auf (show Whole w2 w.heap.size 54 #[.int .u64 s.unit.a,.int .u64 s.unit.b,.int .u64 s.unit.c,.int .u64 s.unit.d] from W2);clear S2 W2 HX)|(refine wpList_load_row rfl 54 _ rfl (w.heap.size) rfl 54 _ (0,0) _ HW2.out Tryz.underlying54 rfl dW ?_)|(have HZ:=auf (zm.out.whole HY.out (by omega));refine bp rfl 54 _ _ rfl (w.heap.size+1) 0 (.agg #[.int .u64 s.unit.a,.int .u64 s.unit.b,.int .u64 s.unit.c,.int .u64 s.unit.d]) rfl rfl 54 _ HZ.out (by simp[Value.cells]) dW rfl ?_;intro w3 SW3 WW3;rw[ef _ _ (by rfl)] at WW3;have acJ:=auf SW3;have HW3:=auf (show Whole w3 (w.heap.size+1) 54 #[.int .u64 s.unit.a,.int .u64 s.unit.b,.int .u64 s.unit.c,.int .u64 s.unit.d] from WW3);clear SW3 WW3 HZ))
  have e0:w3.cell? ⟨w.heap.size+1,0,none⟩=some (.int .u64 s.unit.a):=HW3.out.cell 0;have e1:w3.cell? ⟨w.heap.size+1,1,none⟩=some (.int .u64 s.unit.b):=HW3.out.cell 1;have e2:w3.cell? ⟨w.heap.size+1,2,none⟩=some (.int .u64 s.unit.c):=HW3.out.cell 2;have e3:w3.cell? ⟨w.heap.size+1,3,none⟩=some (.int .u64 s.unit.d):=HW3.out.cell 3;refine bodyPost_ret (v:=.agg #[.int .u64 s.unit.a,.int .u64 s.unit.b,.int .u64 s.unit.c,.int .u64 s.unit.d]) ?_ rfl ⟨rfl,(KM.out.trans (zm.out.below (Nat.le_refl _))).trans (acJ.out.below (by omega))⟩;simp[results,Tryz.results195,go_sem,e0,e1,e2,e3]
theorem nw(t:ay)(W:World):(Op.equalIn 10000 54 (.agg #[.int .u64 t.a,.int .u64 t.b,.int .u64 t.c,.int .u64 t.d]) (.agg #[.int .u64 0,.int .u64 0,.int .u64 0,.int .u64 0])).run Tryz.prog W=.ok (decide (t=ay.zero)) W:=by
 rw[ab0];congr 1;obtain⟨a,b,c,d⟩:=t;simp[ay.zero]
theorem qh(w:World)(a b:ay)(ha:a.Ok)(hb:b.Ok):Calls Tryz.prog 105 #[.agg #[.int .u64 a.a,.int .u64 a.b,.int .u64 a.c,.int .u64 a.d],.agg #[.int .u64 b.a,.int .u64 b.b,.int .u64 b.c,.int .u64 b.d]] w fun e w'=>e=.returned (.bool (a.within b))∧at4 w.heap.size w w':=by
 have HOA:=auf ha;have HOB:=auf hb;obtain⟨t,ht⟩:∃ t,t=a.minus b:=⟨_,rfl⟩;have HT:=auf ht;unfold ay.within;rw[← ht];have hq:∀ W,(Op.equalIn 10000 54 (.agg #[.int .u64 t.a,.int .u64 t.b,.int .u64 t.c,.int .u64 t.d]) (.agg #[.int .u64 0,.int .u64 0,.int .u64 0,.int .u64 0])).run Tryz.prog W=.ok (decide (t=ay.zero)) W:=nw t;obtain⟨q,hqq⟩:∃ q,q=decide (t=ay.zero):=⟨_,rfl⟩;rw[← hqq];rw[← hqq] at hq;clear ha hb ht hqq;obtain⟨wo,cZ⟩:∃ wo,wo=(w.alloc (.cells #[.int .u64 a.a,.int .u64 a.b,.int .u64 a.c,.int .u64 a.d] 54)).alloc (.cells #[.int .u64 b.a,.int .u64 b.b,.int .u64 b.c,.int .u64 b.d] 54):=⟨_,rfl⟩;have YU:=auf (show Whole wo w.heap.size 54 #[.int .u64 a.a,.int .u64 a.b,.int .u64 a.c,.int .u64 a.d] by rw[cZ];exact(Whole.new w 54 _).alloc _);have Z9:=auf (show Whole wo (w.heap.size+1) 54 #[.int .u64 b.a,.int .u64 b.b,.int .u64 b.c,.int .u64 b.d] by rw[cZ];exact dZ w _ _ _);have iH:=auf (show at4 w.heap.size w wo by rw[cZ];exact((Below.refl _ w).alloc (Nat.le_refl _) _).alloc (by simp) _)
 go_enter Tryz.func105,Tryz.ntmps105
 go_upto_region 1 with(fail)
 rw[← cZ];clear cZ
 go_wp2_with (first|(refine wpList_load_row rfl 54 _ rfl (w.heap.size) rfl 54 _ (0,0) _ YU.out Tryz.underlying54 rfl dW ?_)|(refine wpList_load_row rfl 54 _ rfl (w.heap.size+1) rfl 54 _ (0,0) _ Z9.out Tryz.underlying54 rfl dW ?_)|(go_at_call 194;go_must (refine(L3 wo a b HOA.out HOB.out).mono ?_;rintro e w1 ⟨rfl,hb1⟩;rw[← HT.out];have pG:=auf hb1;clear hb1)))
 go_ret
 exact⟨rfl,iH.out.trans (pG.out.mono iH.out.size)⟩
theorem au.size{α:Type}{k:Nat}{R:List Value→α→Prop}{w:World}{v:Value}{l:List α}(h:au k R w v l)(hk:0<k):∃ a c,v=.slice a l.length c∧l.length≤c∧l.length≤9223372036854775807:=by
 obtain⟨a,c,h1,h2,h3,-⟩:=h.form hk;exact⟨a,c,h1,h2,h3⟩
theorem fM{w:World}{v:Value}{k n:Nat}{cs:List Value}(h:SliceAt w v k n cs)(hk:0<k):∃ a c,v=.slice a n c∧n≤c∧n≤9223372036854775807:=by
 obtain⟨a,c,h1,h2,h3,-⟩:=h.form hk;exact⟨a,c,h1,h2,h3⟩
theorem aM.f0{w:World}{c0 c1 c2 c3 c4 c5 c6 c7 c8 c9 aV aP aO aU aT aS aR:Value}{p:aC}(h:aM w c0 c1 c2 c3 c4 c5 c6 c7 c8 c9 aV aP aO aU aT aS aR p):∃ a c,c0=.slice a p.classes.length c∧p.classes.length≤c∧p.classes.length≤9223372036854775807:=au.size h.classes (by decide)
theorem aM.f1{w:World}{c0 c1 c2 c3 c4 c5 c6 c7 c8 c9 aV aP aO aU aT aS aR:Value}{p:aC}(h:aM w c0 c1 c2 c3 c4 c5 c6 c7 c8 c9 aV aP aO aU aT aS aR p):∃ a c,c1=.slice a p.types.length c∧p.types.length≤c∧p.types.length≤9223372036854775807:=au.size h.types (by decide)
theorem aM.f2{w:World}{c0 c1 c2 c3 c4 c5 c6 c7 c8 c9 aV aP aO aU aT aS aR:Value}{p:aC}(h:aM w c0 c1 c2 c3 c4 c5 c6 c7 c8 c9 aV aP aO aU aT aS aR p):∃ a c,c2=.slice a p.attrs.length c∧p.attrs.length≤c∧p.attrs.length≤9223372036854775807:=fM h.attrs (by decide)
theorem aM.f3{w:World}{c0 c1 c2 c3 c4 c5 c6 c7 c8 c9 aV aP aO aU aT aS aR:Value}{p:aC}(h:aM w c0 c1 c2 c3 c4 c5 c6 c7 c8 c9 aV aP aO aU aT aS aR p):∃ a c,c3=.slice a p.roles.length c∧p.roles.length≤c∧p.roles.length≤9223372036854775807:=fM h.roles (by decide)
theorem aM.f4{w:World}{c0 c1 c2 c3 c4 c5 c6 c7 c8 c9 aV aP aO aU aT aS aR:Value}{p:aC}(h:aM w c0 c1 c2 c3 c4 c5 c6 c7 c8 c9 aV aP aO aU aT aS aR p):∃ a c,c4=.slice a p.users.length c∧p.users.length≤c∧p.users.length≤9223372036854775807:=fM h.users (by decide)
theorem aM.f5{w:World}{c0 c1 c2 c3 c4 c5 c6 c7 c8 c9 aV aP aO aU aT aS aR:Value}{p:aC}(h:aM w c0 c1 c2 c3 c4 c5 c6 c7 c8 c9 aV aP aO aU aT aS aR p):∃ a c,c5=.slice a p.bools.length c∧p.bools.length≤c∧p.bools.length≤9223372036854775807:=fM h.bools (by decide)
theorem aM.f6{w:World}{c0 c1 c2 c3 c4 c5 c6 c7 c8 c9 aV aP aO aU aT aS aR:Value}{p:aC}(h:aM w c0 c1 c2 c3 c4 c5 c6 c7 c8 c9 aV aP aO aU aT aS aR p):∃ a c,c6=.slice a p.aZ.length c∧p.aZ.length≤c∧p.aZ.length≤9223372036854775807:=fM h.aZ (by decide)
theorem aM.f7{w:World}{c0 c1 c2 c3 c4 c5 c6 c7 c8 c9 aV aP aO aU aT aS aR:Value}{p:aC}(h:aM w c0 c1 c2 c3 c4 c5 c6 c7 c8 c9 aV aP aO aU aT aS aR p):∃ a c,c7=.slice a p.cats.length c∧p.cats.length≤c∧p.cats.length≤9223372036854775807:=fM h.cats (by decide)
theorem aM.f8{w:World}{c0 c1 c2 c3 c4 c5 c6 c7 c8 c9 aV aP aO aU aT aS aR:Value}{p:aC}(h:aM w c0 c1 c2 c3 c4 c5 c6 c7 c8 c9 aV aP aO aU aT aS aR p):∃ a c,c8=.slice a p.conds.length c∧p.conds.length≤c∧p.conds.length≤9223372036854775807:=au.size h.conds (by decide)
theorem aM.f9{w:World}{c0 c1 c2 c3 c4 c5 c6 c7 c8 c9 aV aP aO aU aT aS aR:Value}{p:aC}(h:aM w c0 c1 c2 c3 c4 c5 c6 c7 c8 c9 aV aP aO aU aT aS aR p):∃ a c,c9=.slice a p.rules.length c∧p.rules.length≤c∧p.rules.length≤9223372036854775807:=fM h.rules (by decide)
theorem aM.f11{w:World}{c0 c1 c2 c3 c4 c5 c6 c7 c8 c9 aV aP aO aU aT aS aR:Value}{p:aC}(h:aM w c0 c1 c2 c3 c4 c5 c6 c7 c8 c9 aV aP aO aU aT aS aR p):∃ a c,aP=.slice a p.aN.length c∧p.aN.length≤c∧p.aN.length≤9223372036854775807:=fM h.aN (by decide)
theorem aM.f12{w:World}{c0 c1 c2 c3 c4 c5 c6 c7 c8 c9 aV aP aO aU aT aS aR:Value}{p:aC}(h:aM w c0 c1 c2 c3 c4 c5 c6 c7 c8 c9 aV aP aO aU aT aS aR p):∃ a c,aO=.slice a p.ranges.length c∧p.ranges.length≤c∧p.ranges.length≤9223372036854775807:=fM h.ranges (by decide)
def bq(i n:Int):Bool:=decide (0≤i)&&decide (i<n)
theorem cE(w:World)(i n:Int):Calls Tryz.prog 113 #[.int .i64 i,.int .i64 n] w fun e w'=>e=.returned (.bool (bq i n))∧w=w':=by
 unfold bq
 cases h:decide (0≤i) with
 | false=>
  go_enter Tryz.func113,Tryz.ntmps113
  go_wp2
  go_ret
  exact⟨rfl,rfl⟩
 | true=>
  go_enter Tryz.func113,Tryz.ntmps113
  go_wp2
  go_ret
  exact⟨rfl,rfl⟩
def xq(a b:rW):Bool:=decide (b.aZ≤a.aZ)&&decide (rV b.cats a.cats=0)
theorem uU(w:World)(a b:rW)(ha:a.Ok)(hb:b.Ok):Calls Tryz.prog 109 #[.agg #[.int .i64 a.aZ,.int .u64 a.cats],.agg #[.int .i64 b.aZ,.int .u64 b.cats]] w fun e w'=>e=.returned (.bool (xq a b))∧at4 w.heap.size w w':=by
 have hd:(bits .andNot .u64 (b.cats:Int) (a.cats:Int) == 0)=decide (rV b.cats a.cats=0):=by
  rw[u64_andNot_nat b.cats a.cats hb.cats ha.cats];show(((rV b.cats a.cats:Nat):Int) == 0)=_;rw[aud];simp
 have HD:=auf hd;clear hd ha hb;obtain⟨wo,cZ⟩:∃ wo,wo=((w).alloc (.cells #[.int .i64 a.aZ,.int .u64 a.cats] 70)).alloc (.cells #[.int .i64 b.aZ,.int .u64 b.cats] 70):=⟨_,rfl⟩;have W0:=auf (show Whole wo w.heap.size 70 #[.int .i64 a.aZ,.int .u64 a.cats] by rw[cZ];exact((show Whole _ w.heap.size 70 #[.int .i64 a.aZ,.int .u64 a.cats] from Whole.new w 70 _).alloc _));have W1:=auf (show Whole wo (w.heap.size+1) 70 #[.int .i64 b.aZ,.int .u64 b.cats] by rw[cZ];exact(dZ w _ _ _));have iH:=auf (show at4 w.heap.size w wo by rw[cZ];exact(((Below.refl _ w).alloc (Nat.le_refl _) _).alloc (by simp) _));have ka0:wo.cell? ⟨w.heap.size,0,none⟩=some (.int .i64 a.aZ):=W0.out.cell 0;have ka1:wo.cell? ⟨w.heap.size,1,none⟩=some (.int .u64 a.cats):=W0.out.cell 1;have kb0:wo.cell? ⟨w.heap.size+1,0,none⟩=some (.int .i64 b.aZ):=W1.out.cell 0;have kb1:wo.cell? ⟨w.heap.size+1,1,none⟩=some (.int .u64 b.cats):=W1.out.cell 1;unfold xq;by_cases h:b.aZ≤a.aZ
 ·have h1:decide (b.aZ≤a.aZ)=true:=by simp[h]
  rw[h1]
  go_enter Tryz.func109,Tryz.ntmps109
  go_upto_region 1 with(fail)
  rw[← cZ];clear cZ
  go_wp2
  go_ret
  exact⟨aD (by rw[← HD.out];rfl),iH.out⟩
 ·have h1:decide (b.aZ≤a.aZ)=false:=by simp[h]
  rw[h1]
  go_enter Tryz.func109,Tryz.ntmps109
  go_upto_region 1 with(fail)
  rw[← cZ];clear cZ
  go_wp2
  go_ret
  exact⟨rfl,iH.out⟩
def uW(n:Nat)(k:Int):Bool:=decide (-(n:Int)≤k)&&decide (k≤(n:Int))
theorem J8(w:World)(c0 c1 c2 c3 c4 c5 c6 c7 c8 c9 aV aP aO aU aT aS aR:Value)(p:aC)(hp:aM w c0 c1 c2 c3 c4 c5 c6 c7 c8 c9 aV aP aO aU aT aS aR p)(k:Int):Calls Tryz.prog 112 #[.agg #[c0,c1,c2,c3,c4,c5,c6,c7,c8,c9,aV,aP,aO,aU,aT,aS,aR],.int .i64 k] w fun e w'=>e=.returned (.bool (uW p.conds.length k))∧at4 w.heap.size w w':=by
 obtain⟨a8,k8,rfl,hk8,hm8⟩:=aM.f8 hp;obtain⟨n8,hn8⟩:∃ n,n=p.conds.length:=⟨_,rfl⟩;have N8:=auf hn8;rw[← hn8] at hk8 hm8 ⊢;clear hn8;obtain⟨wo,cZ⟩:∃ wo,wo=(w).alloc (.cells #[c0,c1,c2,c3,c4,c5,c6,c7,.slice a8 n8 k8,c9,aV,aP,aO,aU,aT,aS,aR] 39):=⟨_,rfl⟩;have W0:=auf (show Whole wo w.heap.size 39 #[c0,c1,c2,c3,c4,c5,c6,c7,.slice a8 n8 k8,c9,aV,aP,aO,aU,aT,aS,aR] by rw[cZ];exact(Whole.new w 39 _));have iH:=auf (show at4 w.heap.size w wo by rw[cZ];exact((Below.refl _ w).alloc (Nat.le_refl _) _));have kp8:wo.cell? ⟨w.heap.size,8,none⟩=some (.slice a8 n8 k8):=W0.out.cell 8;clear hp;unfold uW;by_cases h:-(n8:Int)≤k
 ·have h1:decide (-(n8:Int)≤k)=true:=by simp[h]
  rw[h1]
  go_enter Tryz.func112,Tryz.ntmps112
  go_upto_region 1 with(fail)
  rw[← cZ];clear cZ
  go_wp2
  go_ret
  exact⟨aD (by simp),iH.out⟩
 ·have h1:decide (-(n8:Int)≤k)=false:=by simp[h]
  rw[h1]
  go_enter Tryz.func112,Tryz.ntmps112
  go_upto_region 1 with(fail)
  rw[← cZ];clear cZ
  go_wp2
  go_ret
  exact⟨aD (by simp),iH.out⟩
def dY(s:ByteArray)(i:Nat):Nat:=if h:i<s.size then (s[i]'h).toNat else 0
theorem ot{s:ByteArray}{i:Nat}(h:i<s.size):(s[i]'h).toNat=dY s i:=by unfold dY;rw[dif_pos h]
theorem oq(s:ByteArray)(i:Nat):dY s i<256:=by
 unfold dY;split
 ·exact UInt8.toNat_lt _
 ·decide
def Cw(s:ByteArray)(i:Nat):Bool:=decide ((dY s i:Int)<32)||decide ((126:Int)<dY s i)||decide ((dY s i:Int)=34)
def oF(s:ByteArray):Bool:=!(fL (Cw s) s.size 0)&&decide ((s.size:Int)≤256)
theorem Ma(w:World)(s:ByteArray)(hs:dF s):Calls Tryz.prog 200 #[.string s] w fun e w'=>e=.returned (.bool (oF s))∧w=w':=by
 have hs':s.size≤140737488355328:=hs;obtain⟨n,hn⟩:∃ n,n=s.size:=⟨_,rfl⟩;have HN:=auf hn;have hnb:n≤140737488355328:=by rw[hn];exact hs'
 unfold oF;clear hs hs'
 go_enter Tryz.func200,Tryz.ntmps200
 go_wp2_with fail
 go_loopw [3] (fun i wr=>wr=w∧∃ k:Nat,k≤n∧i=.int .i64 k∧Hid (fL (Cw s) s.size 0=fL (Cw s) (n-k) k)) (fun i _=>n-(intOf i).toNat)
 case atStart=>exact⟨rfl,0,aue _,rfl,auf (by rw[hn,Nat.sub_zero])⟩
 case round=>
  obtain⟨rfl,k,hk,rfl,hinv⟩:=hrel;by_cases hlt:k<n
  ·have hks:k<s.size:=by rw[← hn];exact hlt
   obtain⟨x,hx⟩:∃ x,x=dY s k:=⟨_,rfl⟩;have hsx:(s[k]'hks).toNat=x:=by rw[ot hks,hx]
   have U2:x<256:=by rw[hx];exact oq s k
   have hlt2:0≤(k:Int)∧(k:Int)<s.size:=by omega
   have HX:=auf hx;clear hx;by_cases h1:(x:Int)<32
   ·have HB:=auf (show Cw s k=true by unfold Cw;rw[← HX.out];simp[h1]);have hd1:decide ((x:Int)<32)=true:=by simp[h1]
    go_wp2_with fail
    go_ret
    exact⟨aD (by rw[hinv.out,eP hlt HB.out];rfl),rfl⟩
   ·by_cases h2:(126:Int)<x
    ·have HB:=auf (show Cw s k=true by unfold Cw;rw[← HX.out];simp[h2]);have hd1:decide ((x:Int)<32)=false:=by simp;omega
     go_wp2_with fail
     go_ret
     exact⟨aD (by rw[hinv.out,eP hlt HB.out];rfl),rfl⟩
    ·by_cases h3:(x:Int)=34
     ·have HB:=auf (show Cw s k=true by unfold Cw;rw[← HX.out];simp[h3])
      go_wp2_with fail
      go_ret
      exact⟨aD (by rw[hinv.out,eP hlt HB.out];rfl),rfl⟩
     ·have HB:=auf (show Cw s k=false by unfold Cw;rw[← HX.out];simp[h1,h2,h3])
      go_wp2_with fail
      go_roundw
      case rel=>exact⟨by first|trivial|rfl,k+1,by omega,by go_num,auf (hinv.out.trans (jR hlt HB.out))⟩
      case measure=>simp[intOf];omega
  ·obtain rfl:k=n:=by omega
   go_wp2_with fail
   go_ret
   exact⟨aD (by rw[hinv.out,iN];rfl),rfl⟩
def jK(x:Nat):Bool:=(decide ((65:Int)≤x)&&decide ((x:Int)≤90))||(decide ((97:Int)≤x)&&decide ((x:Int)≤122))||decide ((x:Int)=95)
def nj(x:Nat):Bool:=decide ((48:Int)≤x)&&decide ((x:Int)≤57)
theorem oJ(w:World)(x:Nat):Calls Tryz.prog 248 #[.int .u8 (x:Int)] w fun e w'=>e=.returned (.bool (jK x))∧w=w':=by
 unfold jK;by_cases t0:(65:Int)≤x
 ·have d0:decide ((65:Int)≤x)=true:=by simp;omega
  by_cases t1:(x:Int)≤90
  ·have d1:decide ((x:Int)≤90)=true:=by simp;omega
   have d2:decide ((97:Int)≤x)=false:=by simp;omega
   have d3:decide ((x:Int)≤122)=true:=by simp;omega
   go_enter Tryz.func248,Tryz.ntmps248
   go_wp2
   go_ret
   exact⟨aD (by first|rfl|(simp<;>omega)|(simp[*];done)|(simp;omega)),rfl⟩
  ·have d1:decide ((x:Int)≤90)=false:=by simp;omega
   by_cases t2:(97:Int)≤x
   ·have d2:decide ((97:Int)≤x)=true:=by simp;omega
    by_cases t3:(x:Int)≤122
    ·have d3:decide ((x:Int)≤122)=true:=by simp;omega
     go_enter Tryz.func248,Tryz.ntmps248
     go_wp2
     go_ret
     exact⟨aD (by first|rfl|(simp<;>omega)|(simp[*];done)|(simp;omega)),rfl⟩
    ·have d3:decide ((x:Int)≤122)=false:=by simp;omega
     go_enter Tryz.func248,Tryz.ntmps248
     go_wp2
     go_ret
     exact⟨aD (by first|rfl|(simp<;>omega)|(simp[*];done)|(simp;omega)),rfl⟩
   ·have d2:decide ((97:Int)≤x)=false:=by simp;omega
    have d3:decide ((x:Int)≤122)=true:=by simp;omega
    go_enter Tryz.func248,Tryz.ntmps248
    go_wp2
    go_ret
    exact⟨aD (by first|rfl|(simp<;>omega)|(simp[*];done)|(simp;omega)),rfl⟩
 ·have d0:decide ((65:Int)≤x)=false:=by simp;omega
  have d1:decide ((x:Int)≤90)=true:=by simp;omega
  have d2:decide ((97:Int)≤x)=false:=by simp;omega
  have d3:decide ((x:Int)≤122)=true:=by simp;omega
  go_enter Tryz.func248,Tryz.ntmps248
  go_wp2
  go_ret
  exact⟨aD (by first|rfl|(simp<;>omega)|(simp[*];done)|(simp;omega)),rfl⟩
theorem Ee(w:World)(x:Nat):Calls Tryz.prog 249 #[.int .u8 (x:Int)] w fun e w'=>e=.returned (.bool (nj x))∧w=w':=by
 unfold nj;by_cases t0:(48:Int)≤x
 ·have d0:decide ((48:Int)≤x)=true:=by simp;omega
  go_enter Tryz.func249,Tryz.ntmps249
  go_wp2
  go_ret
  exact⟨aD (by first|rfl|(simp<;>omega)|(simp[*];done)|(simp;omega)),rfl⟩
 ·have d0:decide ((48:Int)≤x)=false:=by simp;omega
  go_enter Tryz.func249,Tryz.ntmps249
  go_wp2
  go_ret
  exact⟨aD (by first|rfl|(simp<;>omega)|(simp[*];done)|(simp;omega)),rfl⟩
def jF(s ws:ByteArray):Nat→Nat→Nat→Bool
 | 0,_,_=>false
 | k+1,fr,i=>if dY ws i=32 then (if (ws.extract fr i).toList=s.toList∧s.toList.isEmpty=false then true else jF s ws k (i+1) (i+1)) else jF s ws k fr (i+1)
def EH(s ws:ByteArray):Bool:=jF s ws ws.size 0 0
theorem EI{s ws:ByteArray}{n fr i:Nat}(h:i<n)(hb:dY ws i≠32):jF s ws (n-i) fr i=jF s ws (n-(i+1)) fr (i+1):=by
 obtain⟨k,hk⟩:∃ k,n-i=k+1:=⟨n-i-1,by omega⟩;rw[hk,show n-(i+1)=k by omega];exact if_neg hb
theorem H9{s ws:ByteArray}{n fr i:Nat}(h:i<n)(hb:dY ws i=32)(h1:(ws.extract fr i).toList=s.toList)(h2:s.toList.isEmpty=false):jF s ws (n-i) fr i=true:=by
 obtain⟨k,hk⟩:∃ k,n-i=k+1:=⟨n-i-1,by omega⟩;rw[hk];exact(if_pos hb).trans (if_pos ⟨h1,h2⟩)
theorem tV{s ws:ByteArray}{n fr i:Nat}(h:i<n)(hb:dY ws i=32)(h1:¬ ((ws.extract fr i).toList=s.toList∧s.toList.isEmpty=false)):jF s ws (n-i) fr i=jF s ws (n-(i+1)) (i+1) (i+1):=by
 obtain⟨k,hk⟩:∃ k,n-i=k+1:=⟨n-i-1,by omega⟩;rw[hk,show n-(i+1)=k by omega];exact(if_pos hb).trans (if_neg h1)
theorem H8(w:World)(s ws:ByteArray)(hs:dF ws):Calls Tryz.prog 201 #[.string s,.string ws] w fun e w'=>e=.returned (.bool (EH s ws))∧w=w':=by
 have hs':ws.size≤140737488355328:=hs;obtain⟨n,hn⟩:∃ n,n=ws.size:=⟨_,rfl⟩;have HN:=auf hn;have hnb:n≤140737488355328:=by rw[hn];exact hs'
 unfold EH;clear hs hs'
 go_enter Tryz.func201,Tryz.ntmps201
 go_wp2_with fail
 go_loopw [5,6] (fun f i wr=>wr=w∧∃ fr k:Nat,fr≤k∧k≤n∧f=.int .i64 fr∧i=.int .i64 k∧Hid (jF s ws ws.size 0 0=jF s ws (n-k) fr k)) (fun _ i _=>n-(intOf i).toNat)
 case atStart=>exact⟨rfl,0,0,Nat.le_refl _,aue _,rfl,rfl,auf (by rw[hn,Nat.sub_zero])⟩
 case round=>
  obtain⟨rfl,fr,k,hfr,hk,rfl,rfl,hinv⟩:=hrel;by_cases hlt:k<n
  ·have hks:k<ws.size:=by rw[← hn];exact hlt
   obtain⟨x,hx⟩:∃ x,x=dY ws k:=⟨_,rfl⟩;have hsx:(ws[k]'hks).toNat=x:=by rw[ot hks,hx]
   have U2:x<256:=by rw[hx];exact oq ws k
   have hlt2:0≤(k:Int)∧(k:Int)<ws.size:=by omega
   have HX:=auf hx;clear hx;by_cases h32:x=32
   ·subst h32;have R5:=auf HX.out.symm;have hlt3:0≤(k:Int)∧(k:Int)≤ws.size:=by omega
    have aok:0≤(fr:Int)∧(fr:Int)≤k:=by omega
    by_cases h1:(ws.extract fr k).toList=s.toList
    ·by_cases h2:s.toList.isEmpty=true
     ·have HM:=auf (tV (fr:=fr) hlt R5.out (fun h=>by rw[h2] at h;cases h.2));clear HX R5
      go_wp2_with fail
      go_roundw
      case rel=>exact⟨by first|trivial|rfl,k+1,k+1,Nat.le_refl _,by omega,by go_num,by go_num,auf (hinv.out.trans HM.out)⟩
      case measure=>simp[intOf];omega
     ·have HM:=auf (H9 (fr:=fr) hlt R5.out h1 (Bool.eq_false_iff.2 h2));have h2':s.toList.isEmpty=false:=Bool.eq_false_iff.2 h2;clear h2;clear HX R5
      go_wp2_with fail
      go_ret
      exact⟨aD (by rw[hinv.out,HM.out]),rfl⟩
    ·have HM:=auf (tV (fr:=fr) hlt R5.out (fun h=>h1 h.1));clear HX R5
     go_wp2_with fail
     go_roundw
     case rel=>exact⟨by first|trivial|rfl,k+1,k+1,Nat.le_refl _,by omega,by go_num,by go_num,auf (hinv.out.trans HM.out)⟩
     case measure=>simp[intOf];omega
   ·have HM:=auf (EI (s:=s) (fr:=fr) hlt (by rw[← HX.out];exact h32));clear HX
    go_wp2_with fail
    go_roundw
    case rel=>exact⟨by first|trivial|rfl,fr,k+1,by omega,by omega,rfl,by go_num,auf (hinv.out.trans HM.out)⟩
    case measure=>simp[intOf];omega
  ·obtain rfl:k=n:=by omega
   go_wp2_with fail
   go_ret
   exact⟨aD (by rw[hinv.out,Nat.sub_self];rfl),rfl⟩
def kwB:ByteArray:=⟨#[109,111,100,117,108,101,32,99,108,97,115,115,32,116,121,112,101,32,97,108,105,97,115,32,116,121,112,101,97,116,116,114,105,98,117,116,101,32,97,116,116,114,105,98,117,116,101,32,114,111,108,101,32,116,121,112,101,115,32,114,111,108,101,97,108,108,111,119,32,114,111,108,101,95,116,114,97,110,115,105,116,105,111,110,32,117,115,101,114,32,114,111,108,101,115,32,108,101,118,101,108,32,114,97,110,103,101,32,98,111,111,108,32,116,114,117,101,32,102,97,108,115,101,32,115,101,110,115,105,116,105,118,105,116,121,32,99,97,116,101,103,111,114,121,32,97,108,108,111,119,32,97,117,100,105,116,97,108,108,111,119,32,100,111,110,116,97,117,100,105,116,32,110,101,118,101,114,97,108,108,111,119,32,116,121,112,101,95,116,114,97,110,115,105,116,105,111,110,32,116,121,112,101,95,99,104,97,110,103,101,32,116,121,112,101,95,109,101,109,98,101,114,32,114,97,110,103,101,95,116,114,97,110,115,105,116,105,111,110,32,99,111,110,115,116,114,97,105,110,32,118,97,108,105,100,97,116,101,116,114,97,110,115,32,105,102,32,101,108,115,101,32,111,112,116,105,111,110,97,108,32,114,101,113,117,105,114,101,32,115,105,100,32,102,105,108,101,99,111,110,32,112,101,114,109,105,115,115,105,118,101,32,97,115,115,101,114,116,32,115,101,108,102,32,105,110,32]⟩
theorem aa0:dF kwB:=by
 show kwB.size≤140737488355328;have:kwB.size=327:=by kernel_rfl
 omega
def jY(s:ByteArray):Bool:=EH s kwB
theorem yB(w:World)(s:ByteArray):Calls Tryz.prog 278 #[.string s] w fun e w'=>e=.returned (.bool (jY s))∧w=w':=by
 obtain⟨q,hq⟩:∃ q,q=jY s:=⟨_,rfl⟩;have HQ:=auf hq;rw[← hq];clear hq
 go_enter Tryz.func278,Tryz.ntmps278
 go_wp2_with (go_at_call 201;go_must (refine(show Calls Tryz.prog 201 _ _ (fun e w'=>e=.returned (.bool q)∧w=w') from by rw[HQ.out];exact H8 w s kwB aa0).mono ?_;rintro e w' ⟨rfl,rfl⟩))
 go_ret
 exact⟨rfl,rfl⟩
def tN(s:ByteArray)(i:Nat):Bool:=!jK (dY s i)&&(decide (i=0)||!nj (dY s i))
def yw(s:ByteArray):Bool:=!(fL (tN s) s.size 0)&&(decide ((1:Int)≤(s.size:Int))&&decide ((s.size:Int)≤32))
theorem Bf(w:World)(s:ByteArray)(hs:dF s):Calls Tryz.prog 198 #[.string s] w fun e w'=>e=.returned (.bool (yw s))∧w=w':=by
 have hs':s.size≤140737488355328:=hs;obtain⟨n,hn⟩:∃ n,n=s.size:=⟨_,rfl⟩;have HN:=auf hn;have hnb:n≤140737488355328:=by rw[hn];exact hs'
 unfold yw;clear hs hs'
 go_enter Tryz.func198,Tryz.ntmps198
 go_wp2_with fail
 go_loopw [3] (fun i wr=>wr=w∧∃ k:Nat,k≤n∧i=.int .i64 k∧Hid (fL (tN s) s.size 0=fL (tN s) (n-k) k)) (fun i _=>n-(intOf i).toNat)
 case atStart=>exact⟨rfl,0,aue _,rfl,auf (by rw[hn,Nat.sub_zero])⟩
 case round=>
  obtain⟨rfl,k,hk,rfl,hinv⟩:=hrel;by_cases hlt:k<n
  ·have hks:k<s.size:=by rw[← hn];exact hlt
   obtain⟨x,hx⟩:∃ x,x=dY s k:=⟨_,rfl⟩;have hsx:(s[k]'hks).toNat=x:=by rw[ot hks,hx]
   have U2:x<256:=by rw[hx];exact oq s k
   have hlt2:0≤(k:Int)∧(k:Int)<s.size:=by omega
   have HX:=auf hx;clear hx
   cases hl:jK x with
   | true=>
    have HB:=auf (show tN s k=false by unfold tN;rw[← HX.out,hl];rfl);have HL:=auf hl;clear hl HX
    go_wp2_with (have hZ:=HL;clear hZ;go_at_call 248;go_must (refine(show Calls Tryz.prog 248 _ _ (fun e w'=>e=.returned (.bool true)∧_=w') from by have h:=oJ wr x;rw[HL.out] at h;exact h).mono ?_;rintro e w' ⟨rfl,rfl⟩;clear HL))
    go_roundw
    case rel=>exact⟨by first|trivial|rfl,k+1,by omega,by go_num,auf (hinv.out.trans (jR hlt HB.out))⟩
    case measure=>simp[intOf];omega
   | false=>
    have HL:=auf hl;by_cases h0:k=0
    ·subst h0;have HB:=auf (show tN s 0=true by unfold tN;rw[← HX.out,hl];rfl);clear hl HX
     go_wp2_with (have hZ:=HL;clear hZ;go_at_call 248;go_must (refine(show Calls Tryz.prog 248 _ _ (fun e w'=>e=.returned (.bool false)∧_=w') from by have h:=oJ wr x;rw[HL.out] at h;exact h).mono ?_;rintro e w' ⟨rfl,rfl⟩;clear HL))
     go_ret
     exact⟨aD (by rw[hinv.out,eP hlt HB.out];rfl),rfl⟩
    ·have Zs:decide ((k:Int)=0)=false:=by simp;omega
     cases hg:nj x with
     | true=>
      have HB:=auf (show tN s k=false by unfold tN;rw[← HX.out,hl,hg];simp[h0]);have HDG:=auf hg;clear hl hg HX
      go_wp2_with (first|(have hZ:=HL;clear hZ;go_at_call 248;go_must (refine(show Calls Tryz.prog 248 _ _ (fun e w'=>e=.returned (.bool false)∧_=w') from by have h:=oJ wr x;rw[HL.out] at h;exact h).mono ?_;rintro e w' ⟨rfl,rfl⟩;clear HL))|(have hZ:=HDG;clear hZ;go_at_call 249;go_must (refine(show Calls Tryz.prog 249 _ _ (fun e w'=>e=.returned (.bool true)∧_=w') from by have h:=Ee wr x;rw[HDG.out] at h;exact h).mono ?_;rintro e w' ⟨rfl,rfl⟩;clear HDG)))
      go_roundw
      case rel=>exact⟨by first|trivial|rfl,k+1,by omega,by go_num,auf (hinv.out.trans (jR hlt HB.out))⟩
      case measure=>simp[intOf];omega
     | false=>
      have HB:=auf (show tN s k=true by unfold tN;rw[← HX.out,hl,hg];simp);have HDG:=auf hg;clear hl hg HX
      go_wp2_with (first|(have hZ:=HL;clear hZ;go_at_call 248;go_must (refine(show Calls Tryz.prog 248 _ _ (fun e w'=>e=.returned (.bool false)∧_=w') from by have h:=oJ wr x;rw[HL.out] at h;exact h).mono ?_;rintro e w' ⟨rfl,rfl⟩;clear HL))|(have hZ:=HDG;clear hZ;go_at_call 249;go_must (refine(show Calls Tryz.prog 249 _ _ (fun e w'=>e=.returned (.bool false)∧_=w') from by have h:=Ee wr x;rw[HDG.out] at h;exact h).mono ?_;rintro e w' ⟨rfl,rfl⟩;clear HDG)))
      go_ret
      exact⟨aD (by rw[hinv.out,eP hlt HB.out];rfl),rfl⟩
  ·obtain rfl:k=n:=by omega
   have HF:=auf hinv.out;clear hinv;by_cases h1:(1:Int)≤(s.size:Int)
   ·have hd1:decide ((1:Int)≤(s.size:Int))=true:=by simp;omega
    go_wp2_with fail
    go_ret
    exact⟨aD (by first|rfl|(rw[HF.out,iN];simp;omega)),rfl⟩
   ·have hd1:decide ((1:Int)≤(s.size:Int))=false:=by simp;omega
    go_wp2_with fail
    go_ret
    exact⟨aD (by first|rfl|(rw[HF.out,iN];simp;omega)),rfl⟩
def xE(s:ByteArray)(i:Nat):Bool:=decide ((dY s i:Int)<33)||decide ((126:Int)<dY s i)||decide ((dY s i:Int)=34)||decide ((dY s i:Int)=47)
def mN(s:ByteArray):Bool:=!(fL (xE s) s.size 0)&&(decide ((1:Int)≤(s.size:Int))&&decide ((s.size:Int)≤32))
theorem Mk(w:World)(s:ByteArray)(hs:dF s):Calls Tryz.prog 114 #[.string s] w fun e w'=>e=.returned (.bool (mN s))∧w=w':=by
 have hs':s.size≤140737488355328:=hs;obtain⟨n,hn⟩:∃ n,n=s.size:=⟨_,rfl⟩;have HN:=auf hn;have hnb:n≤140737488355328:=by rw[hn];exact hs'
 unfold mN;clear hs hs'
 go_enter Tryz.func114,Tryz.ntmps114
 go_wp2_with fail
 go_loopw [3] (fun i wr=>wr=w∧∃ k:Nat,k≤n∧i=.int .i64 k∧Hid (fL (xE s) s.size 0=fL (xE s) (n-k) k)) (fun i _=>n-(intOf i).toNat)
 case atStart=>exact⟨rfl,0,aue _,rfl,auf (by rw[hn,Nat.sub_zero])⟩
 case round=>
  obtain⟨rfl,k,hk,rfl,hinv⟩:=hrel;by_cases hlt:k<n
  ·have hks:k<s.size:=by rw[← hn];exact hlt
   obtain⟨x,hx⟩:∃ x,x=dY s k:=⟨_,rfl⟩;have hsx:(s[k]'hks).toNat=x:=by rw[ot hks,hx]
   have U2:x<256:=by rw[hx];exact oq s k
   have hlt2:0≤(k:Int)∧(k:Int)<s.size:=by omega
   have HX:=auf hx;clear hx;by_cases h1:(x:Int)<33
   ·have HB:=auf (show xE s k=true by unfold xE;rw[← HX.out];simp[h1]);have hd1:decide ((x:Int)<33)=true:=by simp[h1]
    go_wp2_with fail
    go_ret
    exact⟨aD (by rw[hinv.out,eP hlt HB.out];rfl),rfl⟩
   ·by_cases h2:(126:Int)<x
    ·have HB:=auf (show xE s k=true by unfold xE;rw[← HX.out];simp[h2]);have hd1:decide ((x:Int)<33)=false:=by simp;omega
     go_wp2_with fail
     go_ret
     exact⟨aD (by rw[hinv.out,eP hlt HB.out];rfl),rfl⟩
    ·by_cases h3:(x:Int)=34
     ·have HB:=auf (show xE s k=true by unfold xE;rw[← HX.out];simp[h3])
      go_wp2_with fail
      go_ret
      exact⟨aD (by rw[hinv.out,eP hlt HB.out];rfl),rfl⟩
     ·have hd3:decide ((x:Int)=34)=false:=by simp[h3]
      have aoy:((x:Int) == 34)=false:=by simpa using h3
      by_cases h4:(x:Int)=47
      ·have HB:=auf (show xE s k=true by unfold xE;rw[← HX.out];simp[h4])
       go_wp2_with fail
       go_ret
       exact⟨aD (by rw[hinv.out,eP hlt HB.out];rfl),rfl⟩
      ·have HB:=auf (show xE s k=false by unfold xE;rw[← HX.out];simp[h1,h2,h3,h4])
       go_wp2_with fail
       go_roundw
       case rel=>exact⟨by first|trivial|rfl,k+1,by omega,by go_num,auf (hinv.out.trans (jR hlt HB.out))⟩
       case measure=>simp[intOf];omega
  ·obtain rfl:k=n:=by omega
   have HF:=auf hinv.out;clear hinv;by_cases h1:(1:Int)≤(s.size:Int)
   ·have hd1:decide ((1:Int)≤(s.size:Int))=true:=by simp;omega
    go_wp2_with fail
    go_ret
    exact⟨aD (by first|rfl|(rw[HF.out,iN];simp;omega)),rfl⟩
   ·have hd1:decide ((1:Int)≤(s.size:Int))=false:=by simp;omega
    go_wp2_with fail
    go_ret
    exact⟨aD (by first|rfl|(rw[HF.out,iN];simp;omega)),rfl⟩
def iK(s:ByteArray):Bool:=yw s&&!jY s
theorem D5(w:World)(s:ByteArray)(hs:dF s):Calls Tryz.prog 243 #[.string s] w fun e w'=>e=.returned (.bool (iK s))∧w=w':=by
 have HS:=auf hs;clear hs;unfold iK
 cases h1:yw s with
 | false=>
  have H1:=auf h1;clear h1
  go_enter Tryz.func243,Tryz.ntmps243
  go_wp2_with (have hZ:=H1;clear hZ;go_at_call 198;go_must (refine(show Calls Tryz.prog 198 _ _ (fun e w'=>e=.returned (.bool false)∧_=w') from by have h:=Bf w s HS.out;rw[H1.out] at h;exact h).mono ?_;rintro e w' ⟨rfl,rfl⟩;clear H1))
  go_ret
  exact⟨rfl,rfl⟩
 | true=>
  have H1:=auf h1
  cases h2:jY s with
  | false=>
   have H2:=auf h2;clear h1 h2
   go_enter Tryz.func243,Tryz.ntmps243
   go_wp2_with (first|(have hZ:=H1;clear hZ;go_at_call 198;go_must (refine(show Calls Tryz.prog 198 _ _ (fun e w'=>e=.returned (.bool true)∧_=w') from by have h:=Bf w s HS.out;rw[H1.out] at h;exact h).mono ?_;rintro e w' ⟨rfl,rfl⟩;clear H1))|(have hZ:=H2;clear hZ;go_at_call 278;go_must (refine(show Calls Tryz.prog 278 _ _ (fun e w'=>e=.returned (.bool false)∧_=w') from by have h:=yB w s;rw[H2.out] at h;exact h).mono ?_;rintro e w' ⟨rfl,rfl⟩;clear H2)))
   go_ret
   exact⟨rfl,rfl⟩
  | true=>
   have H2:=auf h2;clear h1 h2
   go_enter Tryz.func243,Tryz.ntmps243
   go_wp2_with (first|(have hZ:=H1;clear hZ;go_at_call 198;go_must (refine(show Calls Tryz.prog 198 _ _ (fun e w'=>e=.returned (.bool true)∧_=w') from by have h:=Bf w s HS.out;rw[H1.out] at h;exact h).mono ?_;rintro e w' ⟨rfl,rfl⟩;clear H1))|(have hZ:=H2;clear hZ;go_at_call 278;go_must (refine(show Calls Tryz.prog 278 _ _ (fun e w'=>e=.returned (.bool true)∧_=w') from by have h:=yB w s;rw[H2.out] at h;exact h).mono ?_;rintro e w' ⟨rfl,rfl⟩;clear H2)))
   go_ret
   exact⟨rfl,rfl⟩
theorem Bv(w:World)(s:ByteArray)(hs:dF s):Calls Tryz.prog 192 #[.string s] w fun e w'=>e=.returned (.bool (iK s))∧w=w':=by
 have HS:=auf hs;clear hs
 go_enter Tryz.func192,Tryz.ntmps192
 go_wp2_with (go_at_call 243;go_must (refine(D5 w s HS.out).mono ?_;rintro e w' ⟨rfl,rfl⟩))
 go_ret
 exact⟨rfl,rfl⟩
theorem SliceAt.front{w:World}{a:Addr}{k n c i:Nat}{cs:List Value}(h:SliceAt w (.slice (some a) n c) k n cs)(hi:i≤n):SliceAt w (.slice (some a) i c) k i (cs.take (i*k)):=by
 obtain⟨h1,h2,h3,⟨h4,h5⟩|⟨a',c',h4,h5,h6⟩⟩:=h
 ·cases h4
 ·cases h4;refine⟨?_,by omega,fun u hu=>h3 u (List.mem_of_mem_take hu),.inr ⟨a,c,rfl,by omega,fun j u hj=>?_⟩⟩
  ·rw[aub,h1];exact Nat.min_eq_left (Nat.mul_le_mul_right k hi)
  ·rw[List.getElem?_take] at hj;split at hj
   ·exact h6 j u hj
   ·cases hj
theorem Qb(l:List ByteArray)(i:Nat):(l.flatMap aW).take (i*1)=(l.take i).flatMap aW:=by
 rw[Nat.mul_one]
 induction l generalizing i with
 | nil=>simp
 | cons x l ih=>
  cases i with
  | zero=>simp
  | succ i=>simp[aW,List.flatMap_cons,ih]
theorem aF.front{w:World}{a:Addr}{n c i:Nat}{l:List ByteArray}(h:aF w (.slice (some a) n c) l)(hn:n=l.length)(hi:i≤n):aF w (.slice (some a) i c) (l.take i):=by
 subst hn;have h1:=SliceAt.front h hi;rw[Qb] at h1;unfold aF;rw[aub,Nat.min_eq_left hi];exact h1
theorem aF.open{w:World}{v:Value}{l:List ByteArray}(h:aF w v l):∃ a c,v=.slice a l.length c∧l.length≤c∧l.length≤9223372036854775807∧∀ i s,l[i]?=some s→∃ b off,a=some ⟨b,off,none⟩∧w.cell? ⟨b,off+i,none⟩=some (.string s):=by
 obtain⟨a,c,h1,h2,h3,h4⟩:=SliceAt.form h (by decide);refine⟨a,c,h1,h2,h3,fun i s hs=>?_⟩;have hi:=(atY.1 hs).1;obtain⟨b,off,ha,hc⟩:=h4 i hi;have h5:=hc 0 (.string s) (by rw[kM Ir hs 0 (by decide)];rfl);simp only[Nat.mul_one,Nat.add_zero] at h5;exact⟨b,off,ha,h5⟩
def Nc(l:List ByteArray)(s:ByteArray)(i:Nat):Bool:=match l[i]? with
 | some x=>decide (x.toList=s.toList)
 | none=>false
def hasB(l:List ByteArray)(s:ByteArray):Bool:=fL (Nc l s) l.length 0
theorem Fw{l:List ByteArray}{s x:ByteArray}{i:Nat}(h:l[i]?=some x):Nc l s i=decide (x.toList=s.toList):=by unfold Nc;rw[h]
theorem JC(w:World)(s:ByteArray)(v:Value)(l:List ByteArray)(h:aF w v l):Calls Tryz.prog 193 #[.string s,v] w fun e w'=>e=.returned (.bool (hasB l s))∧w=w':=by
 obtain⟨a,c,rfl,hc,hm,hcell⟩:=h.open;obtain⟨n,hn⟩:∃ n,n=l.length:=⟨_,rfl⟩;have HN:=auf hn;have HC:=auf hcell;unfold hasB;rw[← hn] at hc hm ⊢;clear hcell h hn
 go_enter Tryz.func193,Tryz.ntmps193
 go_wp2_with fail
 go_loopw [5] (fun i wr=>wr=w∧∃ k:Nat,k≤n∧i=.int .i64 k∧Hid (fL (Nc l s) n 0=fL (Nc l s) (n-k) k)) (fun i _=>n-(intOf i).toNat)
 case atStart=>exact⟨rfl,0,aue _,rfl,auf (by rw[Nat.sub_zero])⟩
 case round=>
  obtain⟨rfl,k,hk,rfl,hinv⟩:=hrel;by_cases hlt:k<n
  ·obtain⟨x,hx⟩:∃ x,l[k]?=some x:=⟨_,auc (by rw[← HN.out];exact hlt)⟩;have HX:=auf hx;obtain⟨b,off,rfl,k0⟩:=HC.out k x hx;clear hx;by_cases he:x.toList=s.toList
   ·have HB:=auf (show Nc l s k=true by rw[Fw HX.out];simp[he])
    go_wp2_with fail
    go_ret
    exact⟨aD (by rw[hinv.out,eP hlt HB.out]),rfl⟩
   ·have HB:=auf (show Nc l s k=false by rw[Fw HX.out];simp[he]);have hb1:(x.toList == s.toList)=false:=by simp[he]
    go_wp2_with fail
    go_roundw
    case rel=>exact⟨by first|trivial|rfl,k+1,by omega,by go_num,auf (hinv.out.trans (jR hlt HB.out))⟩
    case measure=>simp[intOf];omega
  ·obtain rfl:k=n:=by omega
   go_wp2_with fail
   go_ret
   exact⟨aD (by rw[hinv.out,iN]),rfl⟩
def tg(l o:List ByteArray)(i:Nat):Int:=match l[i]? with
 | some s=>if iK s=true then (if hasB (l.take i) s=true then 12 else if hasB o s=true then 12 else 0) else 10
 | none=>0
def bP(l o:List ByteArray):Int:=aJ (tg l o) l.length 0
theorem wI{l o:List ByteArray}{s:ByteArray}{i:Nat}(h:l[i]?=some s):tg l o i=if iK s=true then (if hasB (l.take i) s=true then 12 else if hasB o s=true then 12 else 0) else 10:=by unfold tg;rw[h]
theorem Ry{P:Program}{a:Act}{w:World}{o:Oper}{t e:TypeId}{x hi:Operand}{g off n c h k:Nat}{hk:IntKind}(ho:o.op=.slice t x none (some hi) none)(hx:a.eval x=.slice (some ⟨g,off,none⟩) n c)(hh:a.eval hi=.int hk (h:Int))(hhc:h≤c)(hc:0<c)
 (hu:P.underlying t=some (.slice e)) (hs:(P.info? e).map (·.size)=some k):(execOp a.eval o).run P w=.ok (.value (.slice (some ⟨g,off,none⟩) h c)) w:=by
 have hadd:(⟨g,off,none⟩:Addr).add 0=⟨g,off,none⟩:=by unfold Addr.add;split<;>simp_all
 have h1:(0:Int)≤(h:Int)∧(h:Int)≤(c:Int):=by omega
 have hne:¬ c=0:=by omega
 unfold execOp;simp[ho,hx,hh,Instr.sliceAt,Sem.run_bind,run_underlying hu w,Result.andThen_ok,Instr.slice,Instr.sliceBounds,Instr.sliceBound,asIntOf,Sem.run_pure,h1,run_sizeOf hs,hne,hadd];intro h';omega
theorem fE(w:World)(v v':Value)(l o:List ByteArray)(h:aF w v l)(ho:aF w v' o)(hok:∀ s∈l,dF s):Calls Tryz.prog 101 #[v,v'] w fun e w'=>e=.returned (.int .i64 (bP l o))∧at4 w.heap.size w w':=by
 obtain⟨a,c,rfl,CP,hget⟩:=aF.get h;obtain⟨_,_,rfl,-⟩:=aF.get ho;have hcl:l.length≤c:=by obtain⟨_,_,e,hk,-⟩:=SliceAt.form h (by decide);injection e with e1 e2 e3;omega
 unfold bP;refine cL [] (fn:=Tryz.f101) Tryz.func101 rfl Tryz.ntmps101 rfl<|lr (ι:=Nat) (fun m=>[(5,.int .i64 (m:Int))]) (fun m _=>m≤l.length∧aJ (tg l o) l.length 0=aJ (tg l o) (l.length-m) m) (fun m=>l.length-m) 0 (an ⟨⟨rfl,trivial⟩,fun M=>⟨M,aue _,by rw[Nat.sub_zero]⟩⟩ ?_);rintro m w1 M ⟨hm,hinv⟩;refine an (fun h2=>?_) fun h2 M=>⟨ri (by rw[hinv,show m=l.length by simp at h2;omega,cM]),M.below⟩
 have hlt:m<l.length:=by simp at h2;omega
 obtain⟨s,hs⟩:∃ s,l[m]?=some s:=⟨_,auc hlt⟩;obtain⟨b,off,rfl,hc⟩:=hget m s hs;have hcf:=wI (o:=o) hs;have out:∀ v:Int,tg l o m=v→v≠0→aJ (tg l o) l.length 0=v:=fun v h1 h2=>by rw[hinv,cN hlt (by rw[h1];exact h2),h1]
 refine ia<|an ⟨rfl,rfl,hlt⟩<|lc (x:=.string s)<|an (aug M.below hc)<|cl<|an ((Bv _ s (hok s (at3 hs))).mono fun _ _ ⟨h1,h2⟩=>⟨h1,h2▸Below.refl _ _⟩) fun w2 M2=>an (fun h3 M=>⟨ri (out 10 (by rw[hcf,if_neg (by simpa using h3)]) (by decide)),M.below⟩) fun h3=>?_
 rw[if_pos (by simpa using h3)] at hcf;refine dr (by kernel_rfl)<|ia<|an ⟨rfl,rfl,hlt⟩<|lc (x:=.string s)<|an (aug M2.below hc)<|ei (x:=.slice (some ⟨b,off,none⟩) m c)<|an (fun a w o ho hv=>Ry ho (kB hv) (qX hv) (by omega) (by omega) u28 sz9)<|cl<|an (fun w' hb M'=>(JC w' s _ _ ((aF.front h rfl (Nat.le_of_lt hlt)).keep M'.below)).mono fun _ _ ⟨h1,h2⟩=>⟨h1,h2▸Below.refl _ _⟩)<|ia<|an (fun _=>⟨rfl,rfl,hlt⟩)<|lc (x:=.string s)<|an (fun _=>aug M2.below hc)<|cl<|an (fun _ w' hb M'=>(JC w' s _ _ (ho.keep M'.below)).mono fun _ _ ⟨h1,h2⟩=>⟨h1,h2▸Below.refl _ _⟩) fun w3 vG M3=>an (fun h4 M=>⟨ri (out 12 ?_ (by decide)),M.below⟩) fun h4=>an (by omega)<|bk (m+1) ⟨rfl,trivial⟩ (fun M=>⟨M,by omega,hinv.trans (bR hlt ?_)⟩) (by dsimp only;omega)
 all_goals rw[hcf];clear out hinv hcf;cases h5:hasB (l.take m) s<;>cases h6:hasB o s<;>simp_all
theorem aaE:(Tryz.prog.info? 89).map (·.size)=some 10:=by kernel_rfl
theorem CA(n:Nat):(ay.all n).Ok:=GY _
def eT(s:ay):Bool:=!(decide (s=ay.zero))
theorem uQ(x y:ay)(w:World):(Op.equalIn 10000 54 (.agg #[.int .u64 x.a,.int .u64 x.b,.int .u64 x.c,.int .u64 x.d]) (.agg #[.int .u64 y.a,.int .u64 y.b,.int .u64 y.c,.int .u64 y.d])).run Tryz.prog w=.ok (decide (x=y)) w:=by
 rw[show(10000:Nat)=9998+2 from rfl,lU];congr 1;rw[aud];obtain⟨x_a,x_b,x_c,x_d⟩:=x;obtain⟨y_a,y_b,y_c,y_d⟩:=y;simp only[decide_eq_true_eq,ay.mk.injEq,Int.natCast_inj]
theorem gD(w:World)(s:ay)(hs:s.Ok)(n:Nat)(hn:n≤140737488355328):Calls Tryz.prog 103 #[.agg #[.int .u64 s.a,.int .u64 s.b,.int .u64 s.c,.int .u64 s.d],.int .i64 (n:Int)] w fun e w'=>e=.returned (.tuple #[.bool (eT s),.bool (s.within (ay.all n))])∧at4 w.heap.size w w':=by
 exact cL [] (fn:=Tryz.f103) Tryz.func103 rfl Tryz.ntmps103 rfl<|fun g1 w1 M1=>dr (by kernel_rfl)<|lb 0<|an rfl<|ei (x:=.agg #[.int .u64 0,.int .u64 0,.int .u64 0,.int .u64 0])<|an (bd (by kernel_rfl))<|ei (x:=decide (s=ay.zero))<|an ⟨xg,fun w=>uQ s ay.zero w⟩<|lb 0<|an rfl<|cl<|an (fun w' hb' M'=>AR w' n hn)<|cl<|an (fun w' hb' M'=>qh w' s _ hs (CA n))<|fun w hb M=>fun M=>⟨rfl,M.below⟩
def wm(n:Nat)(s:ay):Bool:=s.within (ay.all n).unit
theorem jq(w:World)(c0 c1 c2 c3 c4 c5 c6 c7 c8 c9 aV aP aO aU aT aS aR:Value)(p:aC)(hp:aM w c0 c1 c2 c3 c4 c5 c6 c7 c8 c9 aV aP aO aU aT aS aR p)(hok:p.Ok)(s:ay)(hs:s.Ok):Calls Tryz.prog 106 #[.agg #[c0,c1,c2,c3,c4,c5,c6,c7,c8,c9,aV,aP,aO,aU,aT,aS,aR],.agg #[.int .u64 s.a,.int .u64 s.b,.int .u64 s.c,.int .u64 s.d]] w fun e w'=>e=.returned (.bool (wm p.roles.length s))∧at4 w.heap.size w w':=by
 obtain⟨_,_,_,_,_,_,_,_,_,_,_,_,_,_,_,_,_,_,_,_,_,_,_,_,_,_,_,_,_,_,_,_,_,_,rfl,rfl,rfl,rfl,rfl,rfl,rfl,rfl,rfl,rfl,rfl,rfl,rfl,rfl,rfl,rfl,rfl⟩:=hp.open;have hn3:p.roles.length≤140737488355328:=hok.TR;exact cL [] (fn:=Tryz.f106) Tryz.func106 rfl Tryz.ntmps106 rfl<|fun g1 w1 M1=>fun g2 w2 M2=>dr (by kernel_rfl)<|lb 0<|an rfl<|lb 1<|an rfl<|cl<|an (fun w' hb' M'=>AR w' _ hn3)<|cl<|an (fun w' hb' M'=>C6 w' (ay.all p.roles.length) (CA _))<|cl<|an (fun w' hb' M'=>qh w' s _ hs (ay.Xd (CA _)))<|fun w hb M=>fun M=>⟨rfl,M.below⟩
def wN(nS nC:Nat)(l:rW):Bool:=bq l.aZ (nS:Int)&&(decide ((64:Int)≤(nC:Int))||decide ((l.cats:Int)/2^nC=0))
theorem wM(w:World)(c0 c1 c2 c3 c4 c5 c6 c7 c8 c9 aV aP aO aU aT aS aR:Value)(p:aC)(hp:aM w c0 c1 c2 c3 c4 c5 c6 c7 c8 c9 aV aP aO aU aT aS aR p)(l:rW)(hl:l.Ok):Calls Tryz.prog 108 #[.agg #[c0,c1,c2,c3,c4,c5,c6,c7,c8,c9,aV,aP,aO,aU,aT,aS,aR],.agg #[.int .i64 l.aZ,.int .u64 l.cats]] w fun e w'=>e=.returned (.bool (wN p.aZ.length p.cats.length l))∧at4 w.heap.size w w':=by
 obtain⟨a6,k6,rfl,hk6,hm6⟩:=aM.f6 hp;obtain⟨n6,hn6⟩:∃ n,n=p.aZ.length:=⟨_,rfl⟩;have N6:=auf hn6;rw[← hn6] at hk6 hm6 ⊢;clear hn6;obtain⟨a7,k7,rfl,hk7,hm7⟩:=aM.f7 hp;obtain⟨n7,hn7⟩:∃ n,n=p.cats.length:=⟨_,rfl⟩;have N7:=auf hn7;rw[← hn7] at hk7 hm7 ⊢;clear hn7;have hcl:l.cats<18446744073709551616:=hl.cats;clear hp hl;obtain⟨wo,cZ⟩:∃ wo,wo=((w).alloc (.cells #[c0,c1,c2,c3,c4,c5,.slice a6 n6 k6,.slice a7 n7 k7,c8,c9,aV,aP,aO,aU,aT,aS,aR] 39)).alloc (.cells #[.int .i64 l.aZ,.int .u64 l.cats] 70):=⟨_,rfl⟩;have W0:=auf (show Whole wo w.heap.size 39 #[c0,c1,c2,c3,c4,c5,.slice a6 n6 k6,.slice a7 n7 k7,c8,c9,aV,aP,aO,aU,aT,aS,aR] by rw[cZ];exact((show Whole _ w.heap.size 39 #[c0,c1,c2,c3,c4,c5,.slice a6 n6 k6,.slice a7 n7 k7,c8,c9,aV,aP,aO,aU,aT,aS,aR] from Whole.new w 39 _).alloc _));have W1:=auf (show Whole wo (w.heap.size+1) 70 #[.int .i64 l.aZ,.int .u64 l.cats] by rw[cZ];exact(dZ w _ _ _));have iH:=auf (show at4 w.heap.size w wo by rw[cZ];exact(((Below.refl _ w).alloc (Nat.le_refl _) _).alloc (by simp) _));have ka6:wo.cell? ⟨w.heap.size,6,none⟩=some (.slice a6 n6 k6):=W0.out.cell 6;have ka7:wo.cell? ⟨w.heap.size,7,none⟩=some (.slice a7 n7 k7):=W0.out.cell 7;have kb0:wo.cell? ⟨w.heap.size+1,0,none⟩=some (.int .i64 l.aZ):=W1.out.cell 0;have kb1:wo.cell? ⟨w.heap.size+1,1,none⟩=some (.int .u64 l.cats):=W1.out.cell 1;unfold wN
 cases hb:bq l.aZ (n6:Int) with
 | false=>
  have H1:=auf hb;clear hb
  go_enter Tryz.func108,Tryz.ntmps108
  go_upto_region 1 with(fail)
  rw[← cZ];clear cZ
  go_wp2_with (have hZ:=H1;clear hZ;go_at_call 113;go_must (refine(show Calls Tryz.prog 113 _ _ (fun e w'=>e=.returned (.bool false)∧wo=w') from by have h:=cE wo l.aZ (n6:Int);rw[H1.out] at h;exact h).mono ?_;rintro e w' ⟨rfl,rfl⟩;clear H1))
  go_ret
  exact⟨rfl,iH.out⟩
 | true=>
  have H1:=auf hb;clear hb;by_cases h64:(64:Int)≤(n7:Int)
  ·have d1:decide ((64:Int)≤(n7:Int))=true:=by simp;omega
   rw[d1]
   go_enter Tryz.func108,Tryz.ntmps108
   go_upto_region 1 with(fail)
   rw[← cZ];clear cZ
   go_wp2_with (have hZ:=H1;clear hZ;go_at_call 113;go_must (refine(show Calls Tryz.prog 113 _ _ (fun e w'=>e=.returned (.bool true)∧wo=w') from by have h:=cE wo l.aZ (n6:Int);rw[H1.out] at h;exact h).mono ?_;rintro e w' ⟨rfl,rfl⟩;clear H1))
   go_ret
   exact⟨rfl,iH.out⟩
  ·have d1:decide ((64:Int)≤(n7:Int))=false:=by simp;omega
   rw[d1];have h7:n7<64:=by omega
   go_enter Tryz.func108,Tryz.ntmps108
   go_upto_region 1 with(fail)
   rw[← cZ];clear cZ
   go_wp2_with (have hZ:=H1;clear hZ;go_at_call 113;go_must (refine(show Calls Tryz.prog 113 _ _ (fun e w'=>e=.returned (.bool true)∧wo=w') from by have h:=cE wo l.aZ (n6:Int);rw[H1.out] at h;exact h).mono ?_;rintro e w' ⟨rfl,rfl⟩;clear H1))
   go_ret
   exact⟨aD (by first|rfl|(simp<;>rfl)),iH.out⟩
def sR(nS nC:Nat)(r:vC):Bool:=wN nS nC r.low&&wN nS nC r.high&&xq r.high r.low
theorem wD(w:World)(c0 c1 c2 c3 c4 c5 c6 c7 c8 c9 aV aP aO aU aT aS aR:Value)(p:aC)(hp:aM w c0 c1 c2 c3 c4 c5 c6 c7 c8 c9 aV aP aO aU aT aS aR p)(r:vC)(hr:r.Ok):Calls Tryz.prog 107 #[.agg #[c0,c1,c2,c3,c4,c5,c6,c7,c8,c9,aV,aP,aO,aU,aT,aS,aR],.agg #[.int .i64 r.low.aZ,.int .u64 r.low.cats,.int .i64 r.high.aZ,.int .u64 r.high.cats]] w fun e w'=>e=.returned (.bool (sR p.aZ.length p.cats.length r))∧at4 w.heap.size w w':=by
 obtain⟨_,_,_,_,_,_,_,_,_,_,_,_,_,_,_,_,_,_,_,_,_,_,_,_,_,_,_,_,_,_,_,_,_,_,rfl,rfl,rfl,rfl,rfl,rfl,rfl,rfl,rfl,rfl,rfl,rfl,rfl,rfl,rfl,rfl,rfl⟩:=hp.open;exact cL [] (fn:=Tryz.f107) Tryz.func107 rfl Tryz.ntmps107 rfl<|fun g1 w1 M1=>fun g2 w2 M2=>lb 1<|an rfl<|lb 0<|an rfl<|cl<|an (wM _ _ _ _ _ _ _ _ _ _ _ _ _ _ _ _ _ _ p (hp.keep M2.below) r.low hr.low) fun w3 M3=>lb 1<|an (fun _=>rfl)<|lb 0<|an (fun _=>rfl)<|cl<|an (fun _=>wM _ _ _ _ _ _ _ _ _ _ _ _ _ _ _ _ _ _ p (hp.keep M3.below) r.high hr.high) fun w4 M4=>lb 0<|an (fun _=>rfl)<|lb 0<|an (fun _=>rfl)<|cl<|an (fun _=>uU _ r.high r.low hr.high hr.low) fun w5 M5=>fun M=>⟨rfl,M.below⟩
def kJ(cl:List mD)(c:Int)(v:Int):Bool:=match (if 0≤c then cl[c.toNat]? else none) with
 | some x=>decide ((32:Int)≤(x.perms.length:Int))||decide (v/2^x.perms.length=0)
 | none=>false
theorem xV{cl:List mD}{c v:Int}(h:bq c (cl.length:Int)=false):kJ cl c v=false:=by
 unfold kJ;by_cases h0:0≤c
 ·rw[if_pos h0,List.getElem?_eq_none (by unfold bq at h;simp[h0] at h;omega)]
 ·rw[if_neg h0]
theorem Aj(w:World)(c0 c1 c2 c3 c4 c5 c6 c7 c8 c9 aV aP aO aU aT aS aR:Value)(p:aC)(hp:aM w c0 c1 c2 c3 c4 c5 c6 c7 c8 c9 aV aP aO aU aT aS aR p)(c v:Int)(hv:PG v):Calls Tryz.prog 111 #[.agg #[c0,c1,c2,c3,c4,c5,c6,c7,c8,c9,aV,aP,aO,aU,aT,aS,aR],.int .i64 c,.int .u32 v] w fun e w'=>e=.returned (.bool (kJ p.classes c v))∧at4 w.heap.size w w':=by
 obtain⟨a0,k0,rfl,hk0,hm0,hcell⟩:=au.form hp.classes (by decide);obtain⟨n0,hn0⟩:∃ n,n=p.classes.length:=⟨_,rfl⟩;have N0:=auf hn0;have HC:=auf hcell;rw[← hn0] at hk0 hm0 ⊢;have hv':0≤v∧v<4294967296:=hv;clear hn0 hcell hp hv;obtain⟨wo,cZ⟩:∃ wo,wo=(w).alloc (.cells #[.slice a0 n0 k0,c1,c2,c3,c4,c5,c6,c7,c8,c9,aV,aP,aO,aU,aT,aS,aR] 39):=⟨_,rfl⟩;have W0:=auf (show Whole wo w.heap.size 39 #[.slice a0 n0 k0,c1,c2,c3,c4,c5,c6,c7,c8,c9,aV,aP,aO,aU,aT,aS,aR] by rw[cZ];exact(Whole.new w 39 _));have iH:=auf (show at4 w.heap.size w wo by rw[cZ];exact((Below.refl _ w).alloc (Nat.le_refl _) _));have ka0:wo.cell? ⟨w.heap.size,0,none⟩=some (.slice a0 n0 k0):=W0.out.cell 0
 cases hb:bq c (n0:Int) with
 | false=>
  have H1:=auf hb;rw[xV (by rw[← N0.out];exact hb)];clear hb
  go_enter Tryz.func111,Tryz.ntmps111
  go_upto_region 1 with(fail)
  rw[← cZ];clear cZ
  go_wp2_with (have hZ:=H1;clear hZ;go_at_call 113;go_must (refine(show Calls Tryz.prog 113 _ _ (fun e w'=>e=.returned (.bool false)∧wo=w') from by have h:=cE wo c (n0:Int);rw[H1.out] at h;exact h).mono ?_;rintro e w' ⟨rfl,rfl⟩;clear H1))
  go_ret
  exact⟨rfl,iH.out⟩
 | true=>
  have H1:=auf hb;obtain⟨hc0,WO⟩:0≤c∧c<(n0:Int):=by unfold bq at hb;simpa using hb
  obtain⟨i,rfl⟩:∃ i:Nat,c=i:=⟨c.toNat,by omega⟩;obtain⟨x,hx⟩:∃ x,p.classes[i]?=some x:=⟨_,auc (by have:=N0.out;omega)⟩
  have hval:kJ p.classes (i:Int) v=(decide ((32:Int)≤(x.perms.length:Int))||decide (v/2^x.perms.length=0)):=by
   unfold kJ;rw[if_pos hc0];simp only[Int.toNat_natCast,hx]
  rw[hval];obtain⟨b,off,cs,rfl,hrow,hlen,hcc⟩:=HC.out i x hx;obtain⟨pv,rfl,hst⟩:=hrow;obtain⟨a1,k1,rfl,hk1,hm1,-⟩:=hst.open;have kx:wo.cell? ⟨b,off+i*2+1,none⟩=some (.slice a1 x.perms.length k1):=aug iH.out (hcc 1 _ rfl);obtain⟨m,hm⟩:∃ m,m=x.perms.length:=⟨_,rfl⟩;rw[← hm] at kx hm1 hk1 ⊢;clear hb hval hx hst hcc hm;by_cases h32:(32:Int)≤(m:Int)
  ·have d1:decide ((32:Int)≤(m:Int))=true:=by simp;omega
   rw[d1]
   go_enter Tryz.func111,Tryz.ntmps111
   go_upto_region 1 with(fail)
   rw[← cZ];clear cZ
   go_wp2_with (have hZ:=H1;clear hZ;go_at_call 113;go_must (refine(show Calls Tryz.prog 113 _ _ (fun e w'=>e=.returned (.bool true)∧wo=w') from by have h:=cE wo (i:Int) (n0:Int);rw[H1.out] at h;exact h).mono ?_;rintro e w' ⟨rfl,rfl⟩;clear H1))
   go_ret
   exact⟨rfl,iH.out⟩
  ·have d1:decide ((32:Int)≤(m:Int))=false:=by simp;omega
   rw[d1];have h7:m<32:=by omega
   go_enter Tryz.func111,Tryz.ntmps111
   go_upto_region 1 with(fail)
   rw[← cZ];clear cZ
   go_wp2_with (have hZ:=H1;clear hZ;go_at_call 113;go_must (refine(show Calls Tryz.prog 113 _ _ (fun e w'=>e=.returned (.bool true)∧wo=w') from by have h:=cE wo (i:Int) (n0:Int);rw[H1.out] at h;exact h).mono ?_;rintro e w' ⟨rfl,rfl⟩;clear H1))
   go_ret
   exact⟨aD (by first|rfl|(simp<;>rfl)),iH.out⟩
def bA:Nat→aq→Int
 | 0,_=>0
 | m+1,e=>lJ (fun i=>match e.kids[i]? with|some k=>bA m k|none=>0) e.kids.length+1
theorem jJ:∀ (m:Nat) (e:aq),0≤bA m e∧bA m e≤m
 | 0,_=>⟨Int.le_refl 0,Int.le_refl 0⟩
 | m+1,e=>by
  unfold bA;have h1:=jH (fun i=>match e.kids[i]? with|some k=>bA m k|none=>0) e.kids.length
  have h2:=wJ (f:=fun i=>match e.kids[i]? with|some k=>bA m k|none=>0) (b:=m) (by omega) e.kids.length fun i _=>by
   split
   ·exact(jJ m _).2
   ·omega
  omega
theorem Mx:∀ (m:Nat) (w:World) (cs:List Value) (e:aq),m≤13→bf w cs e→Calls Tryz.prog 100 #[.agg cs.toArray,.int .i64 (m:Int)] w fun r w'=>r=.returned (.int .i64 (bA m e))∧at4 w.heap.size w w':=by
 intro m
 induction m with
 | zero=>
  intro w cs e _ h;obtain⟨_,_,rfl,hn,hk⟩:=h.open;obtain⟨_,_,rfl,-⟩:=aF.get hn;obtain⟨_,_,rfl,-⟩:=au.form hk (by decide);refine cL [] (fn:=Tryz.f100) Tryz.func100 rfl Tryz.ntmps100 rfl<|fun g1 w1 M1=>?_
  exact an (fun _ M=>⟨rfl,M.below⟩) fun h=>by simp at h
 | succ m ih=>
  intro w cs e hm h;obtain⟨_,_,rfl,hn,hk⟩:=h.open;obtain⟨_,_,rfl,-⟩:=aF.get hn;obtain⟨_,_,rfl,-,hkm,-⟩:=au.form hk (by decide);refine cL [] (fn:=Tryz.f100) Tryz.func100 rfl Tryz.ntmps100 rfl<|fun g1 w1 M1=>?_
  refine an (fun h=>by simp at h;omega) fun _=>?_
  refine lr (ι:=Nat) (fun k=>[(5,.int .i64 (lJ (fun i=>match e.kids[i]? with|some k=>bA m k|none=>0) k)),(6,.int .i64 (k:Int))]) (fun k _=>k≤e.kids.length) (fun k=>e.kids.length-k) 0 (an ⟨⟨rfl,rfl,trivial⟩,fun M=>⟨M,aue _⟩⟩ ?_);intro k w M hkl;have hx:=jH (fun i=>match e.kids[i]? with|some k=>bA m k|none=>0) k
  have hz:=wJ (f:=fun i=>match e.kids[i]? with|some k=>bA m k|none=>0) (b:=m) (by omega) k fun i _=>by
   split
   ·exact(jJ m _).2
   ·omega
  refine lb 0<|an rfl<|an (fun h1=>?_) fun h1=>?_
  ·have hlt:k<e.kids.length:=by simp at h1;omega
   obtain⟨y,hy⟩:∃ y,e.kids[k]?=some y:=⟨_,auc hlt⟩;obtain⟨b,o,_,e1,hE,hc⟩:=au.elt hk (by decide) hy;obtain⟨_,_,rfl,hn2,hk2⟩:=hE.open;obtain⟨_,_,rfl,-⟩:=aF.get hn2;obtain⟨_,_,rfl,-⟩:=au.form hk2 (by decide);refine lb 0<|an rfl<|ia<|an ⟨e1,rfl,hlt⟩<|lc<|an (cF M.below hc)<|an (by omega)<|cl (v:=.int .i64 (bA m y))<|an ?_ fun w2 M2=>fbp M2 (v:=.int .i64 (lJ (fun i=>match e.kids[i]? with|some k=>bA m k|none=>0) (k+1))) (fun a o ho hv=>?_)<|?_
   ·have h2:=ih _ _ y (by omega) (hE.keep M.below)
    rwa [show((m:Nat):Int)=((m+1:Nat):Int)-1 by omega] at h2
   ·rw[B6 ho (kB hv) (qX hv)]
    have e2:lJ (fun i=>match e.kids[i]? with|some k=>bA m k|none=>0) (k+1)=max (lJ (fun i=>match e.kids[i]? with|some k=>bA m k|none=>0) k) (bA m y):=by
     show max _ (match e.kids[k]? with|some k=>bA m k|none=>0)=_;rw[hy]
    rw[e2,Int.max_def];congr 3;split<;>split<;>omega
   ·exact an (by omega)<|bk (k+1) ⟨rfl,rfl,trivial⟩ (fun M=>⟨M,by omega⟩) (by dsimp only;omega)
  ·obtain rfl:k=e.kids.length:=by simp at h1;omega
   exact an (by omega) fun M=>⟨rfl,M.below⟩
def nY(o:Int):Int:=if o=1 then 0 else if o=8 then 0 else if o=9 then 0 else if o=2 then 1 else if o=3 then 2 else if o=4 then 2 else if o=5 then 2 else if o=6 then 2 else if o=7 then 2 else -1
theorem Je(w:World)(o:Int):Calls Tryz.prog 244 #[.int .i64 o] w fun e w'=>e=.returned (.int .i64 (nY o))∧w=w':=by
 unfold nY;by_cases h0:o=1
 ·rw[if_pos h0];subst h0
  go_enter Tryz.func244,Tryz.ntmps244
  go_wp2
  go_ret
  exact⟨rfl,rfl⟩
 ·rw[if_neg h0];by_cases h1:o=8
  ·rw[if_pos h1];subst h1
   go_enter Tryz.func244,Tryz.ntmps244
   go_wp2
   go_ret
   exact⟨rfl,rfl⟩
  ·rw[if_neg h1];by_cases h2:o=9
   ·rw[if_pos h2];subst h2
    go_enter Tryz.func244,Tryz.ntmps244
    go_wp2
    go_ret
    exact⟨rfl,rfl⟩
   ·rw[if_neg h2];by_cases h3:o=2
    ·rw[if_pos h3];subst h3
     go_enter Tryz.func244,Tryz.ntmps244
     go_wp2
     go_ret
     exact⟨rfl,rfl⟩
    ·rw[if_neg h3];by_cases h4:o=3
     ·rw[if_pos h4];subst h4
      go_enter Tryz.func244,Tryz.ntmps244
      go_wp2
      go_ret
      exact⟨rfl,rfl⟩
     ·rw[if_neg h4];by_cases h5:o=4
      ·rw[if_pos h5];subst h5
       go_enter Tryz.func244,Tryz.ntmps244
       go_wp2
       go_ret
       exact⟨rfl,rfl⟩
      ·rw[if_neg h5];by_cases h6:o=5
       ·rw[if_pos h6];subst h6
        go_enter Tryz.func244,Tryz.ntmps244
        go_wp2
        go_ret
        exact⟨rfl,rfl⟩
       ·rw[if_neg h6];by_cases h7:o=6
        ·rw[if_pos h7];subst h7
         go_enter Tryz.func244,Tryz.ntmps244
         go_wp2
         go_ret
         exact⟨rfl,rfl⟩
        ·rw[if_neg h7];by_cases h8:o=7
         ·rw[if_pos h8];subst h8
          go_enter Tryz.func244,Tryz.ntmps244
          go_wp2
          go_ret
          exact⟨rfl,rfl⟩
         ·rw[if_neg h8]
          go_enter Tryz.func244,Tryz.ntmps244
          go_wp2
          go_ret
          exact⟨rfl,rfl⟩
theorem oV(w:World)(cs:List Value)(e:aq)(h:bf w cs e):Calls Tryz.prog 39 #[.agg cs.toArray] w fun r w'=>r=.returned (.int .i64 (bA 13 e))∧at4 w.heap.size w w':=by
 have HE:=auf h;obtain⟨nv,kv,hcs,-,-⟩:=h.open;rw[hcs] at HE;subst hcs;clear h;show Calls Tryz.prog 39 #[.agg #[.int .i64 e.op,.int .i64 e.a,.int .i64 e.rel,.int .i64 e.b,nv,.int .u64 e.set.a,.int .u64 e.set.b,.int .u64 e.set.c,.int .u64 e.set.d,kv]] w _;obtain⟨wo,cZ⟩:∃ wo,wo=(w).alloc (.cells #[.int .i64 e.op,.int .i64 e.a,.int .i64 e.rel,.int .i64 e.b,nv,.int .u64 e.set.a,.int .u64 e.set.b,.int .u64 e.set.c,.int .u64 e.set.d,kv] 89):=⟨_,rfl⟩;have W0:=auf (show Whole wo w.heap.size 89 #[.int .i64 e.op,.int .i64 e.a,.int .i64 e.rel,.int .i64 e.b,nv,.int .u64 e.set.a,.int .u64 e.set.b,.int .u64 e.set.c,.int .u64 e.set.d,kv] by rw[cZ];exact(Whole.new w 89 _));have iH:=auf (show at4 w.heap.size w wo by rw[cZ];exact((Below.refl _ w).alloc (Nat.le_refl _) _))
 go_enter Tryz.func39,Tryz.ntmps39
 go_upto_region 1 with(fail)
 rw[← cZ];clear cZ
 go_wp2_with (first|(refine wpList_load_row rfl 89 _ rfl (w.heap.size) rfl 89 _ (0,0) _ W0.out Tryz.underlying89 rfl aaE ?_)|(go_at_call 100;go_must (refine(Mx 13 wo _ e (by omega) (bf.keep iH.out HE.out)).mono ?_;rintro r w1 ⟨rfl,hb1⟩;have pG:=auf hb1;clear hb1)))
 go_ret
 exact⟨rfl,iH.out.trans (pG.out.mono iH.out.size)⟩
def kO(e:aq):Bool:=(((((((decide (e.op=8)||decide (e.op=9))||(!decide (nY e.op=(e.kids.length:Int))))||(!decide (e.rel=0)))||(!decide (e.b=0)))||decide (0<(e.names.length:Int)))||(!decide (e.set=ay.zero)))||((!decide (e.op=1))&&(!decide (e.a=0))))
theorem aq.ind{M:aq→Prop}(h:∀ e,(∀ k∈e.kids,M k)→M e):∀ e,M e:=
 fun e=>aq.rec (motive_1:=M) (motive_2:=fun l=>∀ k∈l,M k) (fun _ _ _ _ _ _ _ ih=>h _ ih) (fun _ hk=>by cases hk) (fun _ _ hk hl x hx=>by
  rcases at2.1 hx with rfl|hx
  ·exact hk
  ·exact hl x hx) e
mutual
def kG(nB:Nat):aq→Int
 | .node op a rel b names set kids=>if kO (.node op a rel b names set kids)=true then 2 else if (decide (op=1)&&!bq a (nB:Int))=true then 3 else lV nB kids
def lV(nB:Nat):List aq→Int
 | []=>0
 | k::l=>if kG nB k=0 then lV nB l else kG nB k
end
theorem qP(nB:Nat)(e:aq):kG nB e=if kO e=true then 2 else if (decide (e.op=1)&&!bq e.a (nB:Int))=true then 3 else lV nB e.kids:=by
 cases e;rw[kG];rfl
theorem Cq{nB:Nat}{l:List aq}{k:Nat}{y:aq}(h:l[k]?=some y):lV nB (l.drop k)=if kG nB y=0 then lV nB (l.drop (k+1)) else kG nB y:=by
 obtain⟨hk,rfl⟩:=atY.1 h;rw[List.drop_eq_getElem_cons hk,lV]
section
variable {nB:Nat} {e:aq}
theorem RG(h:kO e=true):kG nB e=2:=by rw[qP,if_pos h]
theorem RF(h:kO e=false)(h2:(decide (e.op=1)&&!bq e.a (nB:Int))=true):kG nB e=3:=by rw[qP,if_neg (by rw[h];decide),if_pos h2]
theorem Co(h:kO e=false)(h2:(decide (e.op=1)&&!bq e.a (nB:Int))=false):kG nB e=lV nB e.kids:=by rw[qP,if_neg (by rw[h];decide),if_neg (by rw[h2];decide)]
end
theorem Di:∀ e:aq,∀ (w0:World) (cs:List Value) (c0 c1 c2 c3 c4 c5 c6 c7 c8 c9 aV aP aO aU aT aS aR:Value) (p:aC),aM w0 c0 c1 c2 c3 c4 c5 c6 c7 c8 c9 aV aP aO aU aT aS aR p→bf w0 cs e→Calls Tryz.prog 196 #[.agg #[c0,c1,c2,c3,c4,c5,c6,c7,c8,c9,aV,aP,aO,aU,aT,aS,aR],.agg cs.toArray] w0 (RI w0 (kG p.bools.length e)):=by
 refine aq.ind fun e ih=>?_
 intro w0 cs c0 c1 c2 c3 c4 c5 c6 c7 c8 c9 aV aP aO aU aT aS aR p hp h;obtain⟨nv,kv,rfl,C9,hk⟩:=h.open;obtain⟨_,_,rfl,-⟩:=aF.get C9;obtain⟨_,_,rfl,-,CP,-⟩:=au.form hk (by decide);obtain⟨_,_,_,_,_,_,_,_,_,_,_,_,_,_,_,_,_,_,_,_,_,_,_,_,_,_,_,_,_,_,_,_,_,_,rfl,rfl,rfl,rfl,rfl,rfl,rfl,rfl,rfl,rfl,rfl,rfl,rfl,rfl,rfl,rfl,rfl⟩:=hp.open;refine cL [] (fn:=Tryz.f196) Tryz.func196 rfl Tryz.ntmps196 rfl<|fun g1 w1 M1=>fun g2 w2 M2=>dr (by kernel_rfl)<|lb 0<|an rfl<|lb 0<|an (fun _=>rfl)<|lb 0<|an (fun _=>rfl)<|cl<|an (fun _ w' hb M=>(Je _ _).mono fun _ _ ⟨h1,h2⟩=>⟨h1,h2▸Below.refl _ _⟩)<|lb 0<|an (fun _=>rfl)<|lb 0<|an (fun _=>rfl)<|lb 0<|an (fun _=>rfl)<|lb 0<|an (fun _=>rfl)<|lb 0<|an (fun _=>rfl)<|ei (x:=.agg #[.int .u64 0,.int .u64 0,.int .u64 0,.int .u64 0])<|an (fun _=>bd (by kernel_rfl))<|ei<|an (fun _=>⟨xg,fun w=>nw e.set w⟩)<|lb 0<|an (fun _=>rfl)<|lb 0<|an (fun _=>rfl)<|fun w3 hb M3=>an (fun h1 M=>⟨ri (RG h1),M.below⟩) fun h1=>lb 0<|an rfl<|lb 0<|an (fun _=>rfl)<|lb 1<|an (fun _=>rfl)<|cl<|an (fun _=>(cE _ _ _).mono fun _ _ ⟨h1,h2⟩=>⟨h1,h2▸Below.refl _ _⟩) fun w4 M4=>an (fun h2 M=>⟨ri (RF h1 h2),M.below⟩) fun h2=>lr (ι:=Nat) (fun m=>[(5,.int .i64 (m:Int))]) (fun m _=>m≤e.kids.length∧lV p.bools.length e.kids=lV p.bools.length (e.kids.drop m)) (fun m=>e.kids.length-m) 0 (an ⟨⟨rfl,trivial⟩,fun M=>⟨M,aue _,rfl⟩⟩ ?_)
 rintro m w M ⟨hm,hinv⟩;refine lb 0<|an rfl<|an (fun h3=>?_) fun h3 M=>⟨ri (by rw[Co h1 h2,hinv,show m=e.kids.length by simp at h3;omega,List.drop_length];rfl),M.below⟩
 have hlt:m<e.kids.length:=by simp at h3;omega
 obtain⟨y,hy⟩:∃ y,e.kids[m]?=some y:=⟨_,auc hlt⟩;obtain⟨b,o,_,e1,hE,hc⟩:=au.elt hk (by decide) hy;obtain⟨nv',kv',rfl,hn',hk'⟩:=hE.open;obtain⟨_,_,rfl,-⟩:=aF.get hn';obtain⟨_,_,rfl,-⟩:=au.form hk' (by decide);exact dr (by kernel_rfl)<|lb 1<|an rfl<|lb 0<|an rfl<|ia<|an ⟨e1,rfl,hlt⟩<|lc<|an (cF M.below hc)<|cl<|an (fun w' hb M'=>ih y (at3 hy) w' _ _ _ _ _ _ _ _ _ _ _ _ _ _ _ _ _ _ p (hp.keep M'.below) (hE.keep M'.below)) fun w5 CR M5=>an (fun h4 M=>⟨ri (by rw[Co h1 h2,hinv,Cq hy,if_neg (by simpa using h4)]),M.below⟩) fun h4=>an (by omega)<|bk (m+1) ⟨rfl,trivial⟩ (fun M=>⟨M,by omega,by rw[hinv,Cq hy,if_pos (by simpa using h4)]⟩) (by dsimp only;omega)
def dB(nB:Nat)(e:aq):Int:=if (12:Int)<bA 13 e then 4 else kG nB e
theorem sH(e:aq)(w0:World)(cs:List Value)(c0 c1 c2 c3 c4 c5 c6 c7 c8 c9 aV aP aO aU aT aS aR:Value)(p:aC)(hp:aM w0 c0 c1 c2 c3 c4 c5 c6 c7 c8 c9 aV aP aO aU aT aS aR p)(h:bf w0 cs e):Calls Tryz.prog 110 #[.agg #[c0,c1,c2,c3,c4,c5,c6,c7,c8,c9,aV,aP,aO,aU,aT,aS,aR],.agg cs.toArray] w0 (RI w0 (dB p.bools.length e)):=by
 obtain⟨nv,kv,rfl,-,-⟩:=h.open;have bL:=hr1 Tryz.prog Tryz.f110 (RI w0 (dB p.bools.length e)) 11 4 rfl;refine en Tryz.func110 rfl Tryz.ntmps110 rfl (vs:=[.agg #[c0,c1,c2,c3,c4,c5,c6,c7,c8,c9,aV,aP,aO,aU,aT,aS,aR],.agg #[.int .i64 e.op,.int .i64 e.a,.int .i64 e.rel,.int .i64 e.b,nv,.int .u64 e.set.a,.int .u64 e.set.b,.int .u64 e.set.c,.int .u64 e.set.d,kv]]) rfl fun _ F=>?_
 have M:=Mm.start w0;refine auh fun K1 gV=>ah<|Hf (on rfl) rfl (F.u rf) rfl F rfl M fun g1 _ _ F M=>Hf (on rfl) rfl (F.u rf) rfl F rfl M fun g2 _ _ F M=>xA (v:=.int .i64 0) F rf rf rf fun _ F=>at5<|gV _ _ ?_
 refine auh fun K2 h_=>auh fun K3 nh=>ah<|xW F (M.b 0 rfl) rf rf rf Oh rf rO rf fun _ F=>xC F M rf rf q39 (args1 (F.u rf)) (oV _ _ e (bf.keep M.below h)) fun _ _ F M=>kz F rf (JV rfl (F.u rf) rfl) fun _ F=>at5<|nh _ _ ?_
 refine wp_cond_split (F.e 7 rfl) (fun hc3=>?_) (fun hc3=>?_)
 ·have Vf:=of_decide_eq_true hc3;refine auh fun K4 n_=>ah<|xA (v:=.int .i64 4) F rf rf rf fun _ F=>at5<|n_ _ _ ?_
  refine wp_ret<|bL _ _ _ _ F rfl ?_;exact⟨dQ (by unfold dB;repeat (first|with_reducible rfl|assumption|(with_reducible refine Eq.trans (if_pos ?_) ?_;focus (first|assumption|(refine rZ ?_;assumption)|(refine rY ?_;assumption)|omega|(simp[Vf];done)))|(with_reducible refine Eq.trans (if_neg ?_) ?_;focus (first|assumption|(refine rZ ?_;assumption)|(refine rY ?_;assumption)|omega|(simp[Vf];done)))|omega)),M.below⟩
 ·have Sq:=of_decide_eq_false hc3;refine wp_skip<|h_ _ _ ?_;refine auh fun K5 nZ=>ah<|xW F (M.b 1 rfl) rf rf rf Oj rf Aw rf fun _ F=>xW F (M.b 0 rfl) rf rf rf Oh rf rO rf fun _ F=>xC F M rf rf ag2 (args2 (F.u rf) (F.u rf)) (Di e _ _ _ _ _ _ _ _ _ _ _ _ _ _ _ _ _ _ _ p (hp.keep M.below) (bf.keep M.below h)) fun _ _ F M=>xA F rf rf rf fun _ F=>at5<|nZ _ _ ?_
  refine wp_ret<|bL _ _ _ _ F rfl ?_;exact⟨dQ (by unfold dB;repeat (first|with_reducible rfl|assumption|(with_reducible refine Eq.trans (if_pos ?_) ?_;focus (first|assumption|(refine rZ ?_;assumption)|(refine rY ?_;assumption)|omega|(simp[Sq];done)))|(with_reducible refine Eq.trans (if_neg ?_) ?_;focus (first|assumption|(refine rZ ?_;assumption)|(refine rY ?_;assumption)|omega|(simp[Sq];done)))|omega)),M.below⟩
end Go.Proofs.YtdcofoaihmongaaGreat
namespace Go.Proofs.YtdcofoaihmongaaGreat
open Go Go.RowKit
def jM(e:aq):Bool:=
 if e.op=2∨e.op=3∨e.op=4 then (((((decide ((e.kids.length:Int)=nY e.op)&&decide (e.a=0))&&decide (e.rel=0))&&decide (e.b=0))&&decide ((e.names.length:Int)=0))&&decide (e.set=ay.zero))
 else if e.op=8 then ((decide ((e.kids.length:Int)=0)&&decide ((e.names.length:Int)=0))&&decide (e.set=ay.zero))
 else if e.op=9 then (((decide ((e.kids.length:Int)=0)&&decide (e.rel=0))&&decide (e.b=0))&&decide ((e.names.length:Int)=0))
 else false
theorem Nr(w0:World)(cs:List Value)(e:aq)(h:bf w0 cs e):Calls Tryz.prog 245 #[.agg cs.toArray] w0 (fun(r:Ending) (w':World)=>r=.returned (.bool (jM e))∧at4 w0.heap.size w0 w'):=by
 obtain⟨nv,kv,rfl,C9,hk⟩:=h.open;obtain⟨_,_,rfl,-⟩:=aF.get C9;obtain⟨_,_,rfl,-,CP,-⟩:=au.form hk (by decide);refine cL [] (fn:=Tryz.f245) Tryz.func245 rfl Tryz.ntmps245 rfl<|fun g1 w1 M1=>lb 0<|an rfl<|an (fun h=>an (fun _=>?_) fun h'=>by rw[h] at h';cases h') fun h1=>an (fun h=>an (fun _=>?_) fun h'=>by rw[h] at h';cases h') fun h2=>an (fun h=>?_) fun h3=>an (fun h4=>lb 0<|an rfl<|lb 0<|an (fun _=>rfl)<|lb 0<|an (fun _=>rfl)<|ei (x:=.agg #[.int .u64 0,.int .u64 0,.int .u64 0,.int .u64 0])<|an (fun _=>bd (by kernel_rfl))<|ei<|an (fun _=>⟨xg,fun w=>nw e.set w⟩)<|fun M=>⟨rb ?_,M.below⟩) fun h4=>an (fun h5=>lb 0<|an rfl<|lb 0<|an (fun _=>rfl)<|lb 0<|an (fun _=>rfl)<|lb 0<|an (fun _=>rfl)<|fun M=>⟨rb ?_,M.below⟩) fun h5 M=>⟨rb ?_,M.below⟩
 rotate_left 3
 ·simp only[decide_eq_true_eq,decide_eq_false_iff_not] at h1 h2 h3 h4;unfold jM;rw[if_neg (by omega),if_pos h4]
 ·simp only[decide_eq_true_eq,decide_eq_false_iff_not] at h1 h2 h3 h4 h5;unfold jM;rw[if_neg (by omega),if_neg h4,if_pos h5]
 ·simp only[decide_eq_false_iff_not] at h1 h2 h3 h4 h5;unfold jM;rw[if_neg (by omega),if_neg h4,if_neg h5]
 all_goals
  refine dr (by kernel_rfl)<|lb 0<|an rfl<|lb 0<|an rfl<|cl<|an (fun w' hb M=>(Je _ _).mono fun _ _ ⟨h1,h2⟩=>⟨h1,h2▸Below.refl _ _⟩)<|lb 0<|an (fun _=>rfl)<|lb 0<|an (fun _=>rfl)<|lb 0<|an (fun _=>rfl)<|lb 0<|an (fun _=>rfl)<|lb 0<|an (fun _=>rfl)<|ei (x:=.agg #[.int .u64 0,.int .u64 0,.int .u64 0,.int .u64 0])<|an (fun _=>bd (by kernel_rfl))<|ei<|an (fun _=>⟨xg,fun w=>nw e.set w⟩)<|fun w2 hb2 M2 M=>⟨rb ?_,M.below⟩
  simp only[decide_eq_true_eq] at h;unfold jM;rw[if_pos (by omega)]
def kL(nU nR nT k:Nat):Int:=if k%5=0 then (nU:Int) else if k%5=1 then (nR:Int) else if k%5=2 then (nT:Int) else -1
theorem Ml(w:World)(c0 c1 c2 c3 c4 c5 c6 c7 c8 c9 aV aP aO aU aT aS aR:Value)(p:aC)(hp:aM w c0 c1 c2 c3 c4 c5 c6 c7 c8 c9 aV aP aO aU aT aS aR p)(k:Nat)(hk:k<1000):Calls Tryz.prog 247 #[.agg #[c0,c1,c2,c3,c4,c5,c6,c7,c8,c9,aV,aP,aO,aU,aT,aS,aR],.int .i64 (k:Int)] w fun e w'=>e=.returned (.int .i64 (kL p.users.length p.roles.length p.types.length k))∧at4 w.heap.size w w':=by
 obtain⟨a1,k1,rfl,hk1,hm1⟩:=aM.f1 hp;obtain⟨n1,hn1⟩:∃ n,n=p.types.length:=⟨_,rfl⟩;have N1:=auf hn1;rw[← hn1] at hk1 hm1 ⊢;clear hn1;obtain⟨a3,k3,rfl,hk3,hm3⟩:=aM.f3 hp;obtain⟨n3,hn3⟩:∃ n,n=p.roles.length:=⟨_,rfl⟩;have N3:=auf hn3;rw[← hn3] at hk3 hm3 ⊢;clear hn3;obtain⟨a4,k4,rfl,hk4,hm4⟩:=aM.f4 hp;obtain⟨n4,hn4⟩:∃ n,n=p.users.length:=⟨_,rfl⟩;have N4:=auf hn4;rw[← hn4] at hk4 hm4 ⊢;clear hn4;clear hp;unfold kL;obtain⟨wo,cZ⟩:∃ wo,wo=(w).alloc (.cells #[c0,.slice a1 n1 k1,c2,.slice a3 n3 k3,.slice a4 n4 k4,c5,c6,c7,c8,c9,aV,aP,aO,aU,aT,aS,aR] 39):=⟨_,rfl⟩;have W0:=auf (show Whole wo w.heap.size 39 #[c0,.slice a1 n1 k1,c2,.slice a3 n3 k3,.slice a4 n4 k4,c5,c6,c7,c8,c9,aV,aP,aO,aU,aT,aS,aR] by rw[cZ];exact(Whole.new w 39 _));have iH:=auf (show at4 w.heap.size w wo by rw[cZ];exact((Below.refl _ w).alloc (Nat.le_refl _) _));have kp1:wo.cell? ⟨w.heap.size,1,none⟩=some (.slice a1 n1 k1):=W0.out.cell 1;have kp3:wo.cell? ⟨w.heap.size,3,none⟩=some (.slice a3 n3 k3):=W0.out.cell 3;have kp4:wo.cell? ⟨w.heap.size,4,none⟩=some (.slice a4 n4 k4):=W0.out.cell 4;by_cases h0:k%5=0
 ·rw[if_pos h0]
  go_enter Tryz.func247,Tryz.ntmps247
  go_upto_region 1 with(fail)
  rw[← cZ];clear cZ
  go_wp2_with fail
  go_ret
  exact⟨rfl,iH.out⟩
 ·rw[if_neg h0];by_cases h1:k%5=1
  ·rw[if_pos h1]
   go_enter Tryz.func247,Tryz.ntmps247
   go_upto_region 1 with(fail)
   rw[← cZ];clear cZ
   go_wp2_with fail
   go_ret
   exact⟨rfl,iH.out⟩
  ·rw[if_neg h1];by_cases h2:k%5=2
   ·rw[if_pos h2]
    go_enter Tryz.func247,Tryz.ntmps247
    go_upto_region 1 with(fail)
    rw[← cZ];clear cZ
    go_wp2_with fail
    go_ret
    exact⟨rfl,iH.out⟩
   ·rw[if_neg h2];have g0:¬ ((k%5:Nat):Int)=0:=by omega
    have g1:¬ ((k%5:Nat):Int)=1:=by omega
    have g2:¬ ((k%5:Nat):Int)=2:=by omega
    go_enter Tryz.func247,Tryz.ntmps247
    go_upto_region 1 with(fail)
    rw[← cZ];clear cZ
    go_wp2_with fail
    go_ret
    exact⟨rfl,iH.out⟩
def Cr(er:Int)(ka kb:Nat):Int:=if 3≤ka%5∧3≤kb%5 then 0 else if ¬ ka%5=kb%5 then 13 else if (1:Int)<er then 13 else 0
def uX(n:Nat)(e:aq):Int:=if bq e.a (n:Int)=false then 3 else if bq e.b (n:Int)=false then 3 else if bq e.rel 5=false then 3 else Cr e.rel e.a.toNat e.b.toNat
theorem E5(w:World)(cs:List Value)(e:aq)(h:bf w cs e)(n:Nat):Calls Tryz.prog 246 #[.agg cs.toArray,.int .i64 (n:Int)] w fun r w'=>r=.returned (.int .i64 (uX n e))∧at4 w.heap.size w w':=by
 obtain⟨nv,kv,rfl,-,-⟩:=h.open;obtain⟨z,hz⟩:∃ z,z=uX n e:=⟨_,rfl⟩;rw[← hz];unfold uX at hz;obtain⟨o,ea,er,eb,nm,s,kd⟩:=e
 change z=if bq ea (n:Int)=false then 3 else if bq eb (n:Int)=false then 3 else if bq er 5=false then 3 else Cr er ea.toNat eb.toNat at hz
 show Calls Tryz.prog 246 #[.agg #[.int .i64 o,.int .i64 ea,.int .i64 er,.int .i64 eb,nv,.int .u64 s.a,.int .u64 s.b,.int .u64 s.c,.int .u64 s.d,kv],.int .i64 (n:Int)] w _;clear h;obtain⟨wo,cZ⟩:∃ wo,wo=(w).alloc (.cells #[.int .i64 o,.int .i64 ea,.int .i64 er,.int .i64 eb,nv,.int .u64 s.a,.int .u64 s.b,.int .u64 s.c,.int .u64 s.d,kv] 89):=⟨_,rfl⟩;have W0:=auf (show Whole wo w.heap.size 89 #[.int .i64 o,.int .i64 ea,.int .i64 er,.int .i64 eb,nv,.int .u64 s.a,.int .u64 s.b,.int .u64 s.c,.int .u64 s.d,kv] by rw[cZ];exact(Whole.new w 89 _));have iH:=auf (show at4 w.heap.size w wo by rw[cZ];exact((Below.refl _ w).alloc (Nat.le_refl _) _));have kx1:wo.cell? ⟨w.heap.size,1,none⟩=some (.int .i64 ea):=W0.out.cell 1;have kx2:wo.cell? ⟨w.heap.size,2,none⟩=some (.int .i64 er):=W0.out.cell 2;have kx3:wo.cell? ⟨w.heap.size,3,none⟩=some (.int .i64 eb):=W0.out.cell 3
 cases ha:bq ea (n:Int) with
 | false=>
  have HV:=auf (show z=3 by rw[hz,ha];rfl);have HA:=auf ha;clear hz ha
  go_enter Tryz.func246,Tryz.ntmps246
  go_upto_region 1 with(fail)
  rw[← cZ];clear cZ
  go_wp2_with (have hZ:=HA;clear hZ;go_at_call 113;go_must (refine(show Calls Tryz.prog 113 _ _ (fun e w'=>e=.returned (.bool false)∧wo=w') from by have h:=cE wo ea (n:Int);rw[HA.out] at h;exact h).mono ?_;rintro e w' ⟨rfl,rfl⟩;clear HA))
  go_ret
  exact⟨dQ HV.out.symm,iH.out⟩
 | true=>
  rw[ha,if_neg (by decide)] at hz;have hra:0≤ea∧ea<(n:Int):=by unfold bq at ha;simpa using ha
  have HA:=auf ha;clear ha
  cases hb:bq eb (n:Int) with
  | false=>
   have HV:=auf (show z=3 by rw[hz,hb];rfl);have KM:=auf hb;clear hz hb
   go_enter Tryz.func246,Tryz.ntmps246
   go_upto_region 1 with(fail)
   rw[← cZ];clear cZ
   go_wp2_with (first|(have hZ:=HA;clear hZ;go_at_call 113;go_must (refine(show Calls Tryz.prog 113 _ _ (fun e w'=>e=.returned (.bool true)∧wo=w') from by have h:=cE wo ea (n:Int);rw[HA.out] at h;exact h).mono ?_;rintro e w' ⟨rfl,rfl⟩;clear HA))|(have hZ:=KM;clear hZ;go_at_call 113;go_must (refine(show Calls Tryz.prog 113 _ _ (fun e w'=>e=.returned (.bool false)∧wo=w') from by have h:=cE wo eb (n:Int);rw[KM.out] at h;exact h).mono ?_;rintro e w' ⟨rfl,rfl⟩;clear KM)))
   go_ret
   exact⟨dQ HV.out.symm,iH.out⟩
  | true=>
   rw[hb,if_neg (by decide)] at hz;have hrb:0≤eb∧eb<(n:Int):=by unfold bq at hb;simpa using hb
   have KM:=auf hb;clear hb
   cases hr:bq er 5 with
   | false=>
    have HV:=auf (show z=3 by rw[hz,hr];rfl);have HR:=auf hr;clear hz hr
    go_enter Tryz.func246,Tryz.ntmps246
    go_upto_region 1 with(fail)
    rw[← cZ];clear cZ
    go_wp2_with (first|(have hZ:=HA;clear hZ;go_at_call 113;go_must (refine(show Calls Tryz.prog 113 _ _ (fun e w'=>e=.returned (.bool true)∧wo=w') from by have h:=cE wo ea (n:Int);rw[HA.out] at h;exact h).mono ?_;rintro e w' ⟨rfl,rfl⟩;clear HA))|(have hZ:=KM;clear hZ;go_at_call 113;go_must (refine(show Calls Tryz.prog 113 _ _ (fun e w'=>e=.returned (.bool true)∧wo=w') from by have h:=cE wo eb (n:Int);rw[KM.out] at h;exact h).mono ?_;rintro e w' ⟨rfl,rfl⟩;clear KM))|(have hZ:=HR;clear hZ;go_at_call 113;go_must (refine(show Calls Tryz.prog 113 _ _ (fun e w'=>e=.returned (.bool false)∧wo=w') from by have h:=cE wo er 5;rw[HR.out] at h;exact h).mono ?_;rintro e w' ⟨rfl,rfl⟩;clear HR)))
    go_ret
    exact⟨dQ HV.out.symm,iH.out⟩
   | true=>
    rw[hr,if_neg (by decide)] at hz;have HR:=auf hr;clear hr;obtain⟨ka,rfl⟩:∃ k:Nat,ea=k:=⟨ea.toNat,by omega⟩;obtain⟨kb,rfl⟩:∃ k:Nat,eb=k:=⟨eb.toNat,by omega⟩;rw[Int.toNat_natCast,Int.toNat_natCast] at hz;unfold Cr at hz;have HZ:=auf hz;clear hz
    go_enter Tryz.func246,Tryz.ntmps246
    go_upto_region 1 with(fail)
    rw[← cZ];clear cZ
    go_upto_region 3 with(first|(have hZ:=HA;clear hZ;go_at_call 113;go_must (refine(show Calls Tryz.prog 113 _ _ (fun e w'=>e=.returned (.bool true)∧wo=w') from by have h:=cE wo (ka:Int) (n:Int);rw[HA.out] at h;exact h).mono ?_;rintro e w' ⟨rfl,rfl⟩;clear HA))|(have hZ:=KM;clear hZ;go_at_call 113;go_must (refine(show Calls Tryz.prog 113 _ _ (fun e w'=>e=.returned (.bool true)∧wo=w') from by have h:=cE wo (kb:Int) (n:Int);rw[KM.out] at h;exact h).mono ?_;rintro e w' ⟨rfl,rfl⟩;clear KM))|(have hZ:=HR;clear hZ;go_at_call 113;go_must (refine(show Calls Tryz.prog 113 _ _ (fun e w'=>e=.returned (.bool true)∧wo=w') from by have h:=cE wo er 5;rw[HR.out] at h;exact h).mono ?_;rintro e w' ⟨rfl,rfl⟩;clear HR)))
    clear kx1 kx2 kx3;refine yT [some 25,some 26,some 27,some 28,some 29,some 30,some 5] [X1 (.pointer (some ⟨w.heap.size,1,none⟩)),X1 (.int .i64 (ka:Int)),X1 (.int .i64 ((ka%5:Nat):Int)),X1 (.pointer (some ⟨w.heap.size,3,none⟩)),X1 (.int .i64 (kb:Int)),X1 (.int .i64 ((kb%5:Nat):Int)),X1 (.int .i64 ((ka%5:Nat):Int))] (fun _ w'=>at4 wo.heap.size wo w') [] (by kernel_rfl) (by kernel_rfl) (by kernel_rfl) rfl (by decide) rfl rfl ((Below.refl _ _).drew) ⟨jv _,jv _,jv _,jv _,jv _,jv _,jv _,trivial⟩ ⟨?_,?_,?_,?_,?_,?_,?_,?_⟩
    ·intro L a wy Q' hL hi H F hK
     try dsimp only at hi
     have h2:a.tmps[2]?=some (.pointer (some ⟨w.heap.size,0,none⟩)):=F 2 rfl;have HI:=auf hi;clear H F hi hL
     go_wp2_with fail
     exact hK _ _ (Below.refl _ _) HI.out rfl
    ·intro L a wy Q' hL hi H F hK
     try dsimp only at hi
     obtain⟨_,h25,rfl⟩:=H 0 ⟨.data,by simp,rfl⟩ _ rfl;replace h25:=h25 _ rfl;have HI:=auf hi;clear H F hi hL;have kq0:wy.cell? ⟨w.heap.size,1,none⟩=some (.int .i64 (ka:Int)):=(Whole.under HI.out W0.out (Whole.lt W0.out)).cell 1
     go_wp2_with fail
     exact hK _ _ (Below.refl _ _) HI.out rfl
    ·intro L a wy Q' hL hi H F hK
     try dsimp only at hi
     obtain⟨_,h26,rfl⟩:=H 1 ⟨.data,by simp,rfl⟩ _ rfl;replace h26:=h26 _ rfl;have HI:=auf hi;clear H F hi hL
     go_wp2_with fail
     exact hK _ _ (Below.refl _ _) HI.out rfl
    ·intro L a wy Q' hL hi H F hK
     try dsimp only at hi
     have h2:a.tmps[2]?=some (.pointer (some ⟨w.heap.size,0,none⟩)):=F 2 rfl;have HI:=auf hi;clear H F hi hL
     go_wp2_with fail
     exact hK _ _ (Below.refl _ _) HI.out rfl
    ·intro L a wy Q' hL hi H F hK
     try dsimp only at hi
     obtain⟨_,h28,rfl⟩:=H 3 ⟨.data,by simp,rfl⟩ _ rfl;replace h28:=h28 _ rfl;have HI:=auf hi;clear H F hi hL;have kq0:wy.cell? ⟨w.heap.size,3,none⟩=some (.int .i64 (kb:Int)):=(Whole.under HI.out W0.out (Whole.lt W0.out)).cell 3
     go_wp2_with fail
     exact hK _ _ (Below.refl _ _) HI.out rfl
    ·intro L a wy Q' hL hi H F hK
     try dsimp only at hi
     obtain⟨_,h29,rfl⟩:=H 4 ⟨.data,by simp,rfl⟩ _ rfl;replace h29:=h29 _ rfl;have HI:=auf hi;clear H F hi hL
     go_wp2_with fail
     exact hK _ _ (Below.refl _ _) HI.out rfl
    ·intro L a wy Q' hL hi H F hK
     try dsimp only at hi
     obtain⟨_,h27,rfl⟩:=H 2 ⟨.data,by simp,rfl⟩ _ rfl;replace h27:=h27 _ rfl;have HI:=auf hi;clear H F hi hL
     go_wp2_with fail
     exact hK _ _ (Below.refl _ _) HI.out rfl
    ·intro a wy L hl hi hL Q' hK
     try dsimp only at hi
     have HB:=auf hi;clear hi hL;obtain⟨_,rfl,_,rfl,_,rfl,_,rfl,_,rfl,_,rfl,_,rfl,rfl⟩:=hl;simp only[List.setIfInBounds_toArray,List.set_cons_zero,List.set_cons_succ];have W1:=auf (Whole.under HB.out W0.out W0.out.lt);have m2:wy.cell? ⟨w.heap.size,2,none⟩=some (.int .i64 er):=W1.out.cell 2;by_cases g1:3≤ka%5
     ·have d1:decide ((3:Int)≤((ka%5:Nat):Int))=true:=by simp;omega
      have d1n:decide (3≤ka%5)=true:=by simp;omega
      by_cases g2:3≤kb%5
      ·have HV:=auf (show z=0 by rw[HZ.out,if_pos ⟨g1,g2⟩])
       go_wp2_with fail
       go_ret
       exact⟨dQ HV.out.symm,iH.out.trans (HB.out.mono iH.out.size)⟩
      ·have hz2:=HZ.out.trans (if_neg fun h=>g2 h.2);have g3:¬ ka%5=kb%5:=by omega
       have HV:=auf (hz2.trans (if_pos g3));have d3:(((ka%5:Nat):Int) != ((kb%5:Nat):Int))=true:=by simp;omega
       clear hz2 HZ
       go_wp2_with fail
       go_ret
       exact⟨dQ HV.out.symm,iH.out.trans (HB.out.mono iH.out.size)⟩
     ·have d1:decide ((3:Int)≤((ka%5:Nat):Int))=false:=by simp;omega
      have d1n:decide (3≤ka%5)=false:=by simp;omega
      have hz2:=HZ.out.trans (if_neg fun h=>g1 h.1);by_cases g3:ka%5=kb%5
      ·have HV2:=auf (hz2.trans (if_neg fun h=>h g3));have d3:(((ka%5:Nat):Int) != ((kb%5:Nat):Int))=false:=by simp[g3]
       by_cases g4:(1:Int)<er
       ·have HV:=auf (HV2.out.trans (if_pos g4));clear hz2 HV2 HZ
        go_wp2_with fail
        go_ret
        exact⟨dQ HV.out.symm,iH.out.trans (HB.out.mono iH.out.size)⟩
       ·have HV:=auf (HV2.out.trans (if_neg g4));clear hz2 HV2 HZ
        go_wp2_with fail
        go_ret
        exact⟨dQ HV.out.symm,iH.out.trans (HB.out.mono iH.out.size)⟩
      ·have HV:=auf (hz2.trans (if_pos g3));have d3:(((ka%5:Nat):Int) != ((kb%5:Nat):Int))=true:=by simp;omega
       clear hz2 HZ
       go_wp2_with fail
       go_ret
       exact⟨dQ HV.out.symm,iH.out.trans (HB.out.mono iH.out.size)⟩
theorem aq.Ok.set'{e:aq}(h:e.Ok):e.set.Ok:=by cases h;assumption
theorem aq.Ok.ad4{e:aq}(h:e.Ok):∀ k∈e.kids,k.Ok:=by cases h;assumption
def jd(nU nR nT N:Nat)(e:aq):Option Int:=
 if jM e=false then some 2
 else if e.op=8 then some (uX N e)
 else if e.op=9 then
  (if bq e.a (N:Int)=false then some 3
   else if kL nU nR nT e.a.toNat<0 then some 13
   else if e.set.within (ay.all (kL nU nR nT e.a.toNat).toNat)=false then some 3
   else if eT e.set=false then some 2 else none)
 else none
mutual
def kF(nU nR nT N:Nat):aq→Int
 | .node op a rel b names set kids=>match jd nU nR nT N (.node op a rel b names set kids) with
  | some r=>r
  | none=>qJ nU nR nT N kids
def qJ(nU nR nT N:Nat):List aq→Int
 | []=>0
 | k::l=>if kF nU nR nT N k=0 then qJ nU nR nT N l else kF nU nR nT N k
end
theorem tE{nU nR nT N:Nat}{e:aq}{r:Int}(h:jd nU nR nT N e=some r):kF nU nR nT N e=r:=by
 cases e;rw[kF,h]
theorem BU{nU nR nT N:Nat}{e:aq}(h:jd nU nR nT N e=none):kF nU nR nT N e=qJ nU nR nT N e.kids:=by
 cases e;rw[kF,h];rfl
theorem BX{nU nR nT N:Nat}{l:List aq}{k:Nat}{y:aq}(h:l[k]?=some y):qJ nU nR nT N (l.drop k)=if kF nU nR nT N y=0 then qJ nU nR nT N (l.drop (k+1)) else kF nU nR nT N y:=by
 obtain⟨hk,rfl⟩:=atY.1 h;rw[List.drop_eq_getElem_cons hk,qJ]
theorem QC{nU nR nT:Nat}(k:Nat){B:Nat}(h1:nU≤B)(h2:nR≤B)(h3:nT≤B):kL nU nR nT k≤(B:Int):=by
 unfold kL;split
 ·omega
 ·split
  ·omega
  ·split<;>omega
theorem qI(N:Nat)(hN:N≤100):∀ e:aq,e.Ok→∀ (w0:World) (cs:List Value) (c0 c1 c2 c3 c4 c5 c6 c7 c8 c9 aV aP aO aU aT aS aR:Value) (p:aC),aM w0 c0 c1 c2 c3 c4 c5 c6 c7 c8 c9 aV aP aO aU aT aS aR p→p.Ok→bf w0 cs e→Calls Tryz.prog 197 #[.agg #[c0,c1,c2,c3,c4,c5,c6,c7,c8,c9,aV,aP,aO,aU,aT,aS,aR],.agg cs.toArray,.int .i64 (N:Int)] w0 (RI w0 (kF p.users.length p.roles.length p.types.length N e)):=by
 refine aq.ind fun e ih=>?_
 intro he w0 cs c0 c1 c2 c3 c4 c5 c6 c7 c8 c9 aV aP aO aU aT aS aR p hp hok h;have hU:=hok.aar;have hR:=hok.TR;have hT:=hok.vW;obtain⟨_,_,_,_,_,_,_,_,_,_,_,_,_,_,_,_,_,_,_,_,_,_,_,_,_,_,_,_,_,_,_,_,_,_,rfl,rfl,rfl,rfl,rfl,rfl,rfl,rfl,rfl,rfl,rfl,rfl,rfl,rfl,rfl,rfl,rfl⟩:=hp.open;obtain⟨nv,kv,rfl,C9,hk⟩:=h.open;obtain⟨_,_,rfl,-⟩:=aF.get C9;obtain⟨_,_,rfl,-,CP,-⟩:=au.form hk (by decide);have out:∀ r:Int,jd p.users.length p.roles.length p.types.length N e=some r→kF p.users.length p.roles.length p.types.length N e=r:=fun r h=>tE h
 have hs:jd p.users.length p.roles.length p.types.length N e=none→kF p.users.length p.roles.length p.types.length N e=qJ p.users.length p.roles.length p.types.length N e.kids:=BU;unfold jd at out hs;refine cL [] (fn:=Tryz.f197) Tryz.func197 rfl Tryz.ntmps197 rfl<|fun g1 w1 M1=>fun g2 w2 M2=>lb 0<|an rfl<|cl<|an (Nr _ _ e (h.keep M2.below)) fun w3 M3=>an (fun h1 M=>⟨ri (out _ (if_pos (by simpa using h1))),M.below⟩) fun h1=>?_
 rw[if_neg (by simpa using h1)] at out hs;refine lb 0<|an rfl<|an (fun h2=>lb 0<|an rfl<|cl<|an (E5 _ _ e (h.keep M3.below) N) fun w4 M4 M=>⟨ri (out _ (if_pos (by simpa using h2))),M.below⟩) fun h2=>?_
 rw[if_neg (by simpa using h2)] at out hs;refine lb 0<|an rfl<|an (fun h3=>?_) fun h3=>?_
 focus
  rw[if_pos (by simpa using h3)] at out hs;refine lb 0<|an rfl<|cl<|an ((cE _ _ _).mono fun _ _ ⟨h1,h2⟩=>⟨h1,h2▸Below.refl _ _⟩) fun w5 M5=>an (fun h4 M=>⟨ri (out _ (if_pos (by simpa using h4))),M.below⟩) fun h4=>?_
  rw[if_neg (by simpa using h4)] at out hs;have hb:0≤e.a∧e.a<(N:Int):=by simpa[bq] using h4
  have hea:((e.a.toNat:Nat):Int)=e.a:=by omega
  have hle:=QC (nU:=p.users.length) (nR:=p.roles.length) (nT:=p.types.length) e.a.toNat (B:=140737488355328) hU hR hT;refine lb 1<|an rfl<|lb 0<|an rfl<|cl<|an (hea▸Ml _ _ _ _ _ _ _ _ _ _ _ _ _ _ _ _ _ _ p (hp.keep M5.below) e.a.toNat (by omega) :) fun w6 M6=>an (fun h5 M=>⟨ri (out _ (if_pos (by simpa using h5))),M.below⟩) fun h5=>?_
  rw[if_neg (by simpa using h5)] at out hs;have hnn:((kL p.users.length p.roles.length p.types.length e.a.toNat).toNat:Int)=kL p.users.length p.roles.length p.types.length e.a.toNat:=by simp at h5;omega
  refine lb 0<|an rfl<|cl<|an (hnn▸gD _ e.set he.set' (kL p.users.length p.roles.length p.types.length e.a.toNat).toNat (by omega) :) fun w7 M7=>an (fun h6 M=>⟨ri (out _ (if_pos (by simpa using h6))),M.below⟩) fun h6=>?_
  rw[if_neg (by simpa using h6)] at out hs;refine an (fun h7 M=>⟨ri (out _ (if_pos (by simpa using h7))),M.below⟩) fun h7=>?_
  rw[if_neg (by simpa using h7)] at out hs;replace hs:=hs rfl
 rotate_left 1
 focus
  replace hs:=hs (if_neg (by simpa using h3))
 all_goals
  refine lr (ι:=Nat) (fun m=>[(10,.int .i64 (m:Int))]) (fun m _=>m≤e.kids.length∧qJ p.users.length p.roles.length p.types.length N e.kids=qJ p.users.length p.roles.length p.types.length N (e.kids.drop m)) (fun m=>e.kids.length-m) 0 (an ⟨⟨rfl,trivial⟩,fun M=>⟨M,aue _,rfl⟩⟩ ?_);rintro m w M ⟨hm,hinv⟩;refine lb 0<|an rfl<|an (fun h9=>?_) fun h9 M=>⟨ri (by rw[hs,hinv,show m=e.kids.length by simp at h9;omega,List.drop_length];rfl),M.below⟩
  have hlt:m<e.kids.length:=by simp at h9;omega
  obtain⟨y,hy⟩:∃ y,e.kids[m]?=some y:=⟨_,auc hlt⟩;obtain⟨b,o,_,e1,hE,hc⟩:=au.elt hk (by decide) hy;obtain⟨nv',kv',rfl,hn',hk'⟩:=hE.open;obtain⟨_,_,rfl,-⟩:=aF.get hn';obtain⟨_,_,rfl,-⟩:=au.form hk' (by decide);exact dr (by kernel_rfl)<|lb 1<|an rfl<|lb 0<|an rfl<|ia<|an ⟨e1,rfl,hlt⟩<|lc<|an (cF M.below hc)<|cl<|an (fun w' hb M'=>ih y (at3 hy) (he.ad4 y (at3 hy)) w' _ _ _ _ _ _ _ _ _ _ _ _ _ _ _ _ _ _ p (hp.keep M'.below) hok (hE.keep M'.below)) fun w5 CR M5=>an (fun h4 M=>⟨ri (by rw[hs,hinv,BX hy,if_neg (by simpa using h4)]),M.below⟩) fun h4=>an (by omega)<|bk (m+1) ⟨rfl,trivial⟩ (fun M=>⟨M,by omega,by rw[hinv,BX hy,if_pos (by simpa using h4)]⟩) (by dsimp only;omega)
def gH(nU nR nT:Nat)(v:Bool)(e:aq):Int:=if (12:Int)<bA 13 e then 4 else if v=true then kF nU nR nT 15 e else kF nU nR nT 10 e
theorem CK(e:aq)(he:e.Ok)(w0:World)(cs:List Value)(c0 c1 c2 c3 c4 c5 c6 c7 c8 c9 aV aP aO aU aT aS aR:Value)(p:aC)(hp:aM w0 c0 c1 c2 c3 c4 c5 c6 c7 c8 c9 aV aP aO aU aT aS aR p)(hok:p.Ok)(h:bf w0 cs e)(v:Bool):Calls Tryz.prog 115 #[.agg #[c0,c1,c2,c3,c4,c5,c6,c7,c8,c9,aV,aP,aO,aU,aT,aS,aR],.agg cs.toArray,.bool v] w0 (RI w0 (gH p.users.length p.roles.length p.types.length v e)):=by
 obtain⟨nv,kv,rfl,-,-⟩:=h.open;have bL:=hr1 Tryz.prog Tryz.f115 (RI w0 (gH p.users.length p.roles.length p.types.length v e)) 17 6 rfl;refine en Tryz.func115 rfl Tryz.ntmps115 rfl (vs:=[.agg #[c0,c1,c2,c3,c4,c5,c6,c7,c8,c9,aV,aP,aO,aU,aT,aS,aR],.agg #[.int .i64 e.op,.int .i64 e.a,.int .i64 e.rel,.int .i64 e.b,nv,.int .u64 e.set.a,.int .u64 e.set.b,.int .u64 e.set.c,.int .u64 e.set.d,kv],.bool v]) rfl fun _ F=>?_
 have M:=Mm.start w0;refine auh fun K1 gV=>ah<|Hf (on rfl) rfl (F.u rf) rfl F rfl M fun g1 _ _ F M=>Hf (on rfl) rfl (F.u rf) rfl F rfl M fun g2 _ _ F M=>xA (v:=.int .i64 0) F rf rf rf fun _ F=>at5<|gV _ _ ?_
 refine auh fun K2 h_=>auh fun K3 nh=>ah<|xW F (M.b 0 rfl) rf rf rf Oh rf rO rf fun _ F=>xC F M rf rf q39 (args1 (F.u rf)) (oV _ _ e (bf.keep M.below h)) fun _ _ F M=>kz F rf (JV rfl (F.u rf) rfl) fun _ F=>at5<|nh _ _ ?_
 refine wp_cond_split (F.e 9 rfl) (fun hc3=>?_) (fun hc3=>?_)
 ·have Vf:=of_decide_eq_true hc3;refine auh fun K4 n_=>ah<|xA (v:=.int .i64 4) F rf rf rf fun _ F=>at5<|n_ _ _ ?_
  refine wp_ret<|bL _ _ _ _ F rfl ?_;exact⟨dQ (by unfold gH;refine Eq.symm ?_;repeat (first|with_reducible rfl|assumption|(with_reducible refine Eq.trans (if_pos ?_) ?_;focus (first|assumption|(refine rZ ?_;assumption)|(refine rY ?_;assumption)|omega|(simp[Vf];done)))|(with_reducible refine Eq.trans (if_neg ?_) ?_;focus (first|assumption|(refine rZ ?_;assumption)|(refine rY ?_;assumption)|omega|(simp[Vf];done)))|omega)),M.below⟩
 ·have Sq:=of_decide_eq_false hc3;refine wp_skip<|h_ _ _ ?_;refine auh fun K5 nZ=>auh fun K6 pN=>ah<|xM F rf rf rf fun _ F=>at5<|pN _ _ ?_
  refine wp_cond_split (F.e 10 rfl) (fun rQ=>?_) (fun rQ=>?_)
  ·refine auh fun K7 rR=>ah<|xW F (M.b 1 rfl) rf rf rf Oj rf Aw rf fun _ F=>xW F (M.b 0 rfl) rf rf rf Oh rf rO rf fun _ F=>
    xC F M rf rf adE (Z0 (F.u rf) (F.u rf) rfl) (qI 15 (by decide) e he _ _ _ _ _ _ _ _ _ _ _ _ _ _ _ _ _ _ _ p (hp.keep M.below) hok (bf.keep M.below h)) fun _ _ F M=>
    xA F rf rf rf fun _ F=>
    at5<|
    rR _ _ ?_
   refine wp_ret<|bL _ _ _ _ F rfl ?_;exact⟨dQ (by unfold gH;refine Eq.symm ?_;repeat (first|with_reducible rfl|assumption|(with_reducible refine Eq.trans (if_pos ?_) ?_;focus (first|assumption|(refine rZ ?_;assumption)|(refine rY ?_;assumption)|omega|(simp[Sq];done)))|(with_reducible refine Eq.trans (if_neg ?_) ?_;focus (first|assumption|(refine rZ ?_;assumption)|(refine rY ?_;assumption)|omega|(simp[Sq,rQ];done)))|omega)),M.below⟩
  ·refine wp_skip<|nZ _ _ ?_
   refine auh fun K8 wX=>ah<|xW F (M.b 1 rfl) rf rf rf Oj rf Aw rf fun _ F=>xW F (M.b 0 rfl) rf rf rf Oh rf rO rf fun _ F=>
    xC F M rf rf adE (Z0 (F.u rf) (F.u rf) rfl) (qI 10 (by decide) e he _ _ _ _ _ _ _ _ _ _ _ _ _ _ _ _ _ _ _ p (hp.keep M.below) hok (bf.keep M.below h)) fun _ _ F M=>
    xA F rf rf rf fun _ F=>
    at5<|
    wX _ _ ?_
   refine wp_ret<|bL _ _ _ _ F rfl ?_;exact⟨dQ (by unfold gH;refine Eq.symm ?_;repeat (first|with_reducible rfl|assumption|(with_reducible refine Eq.trans (if_pos ?_) ?_;focus (first|assumption|(refine rZ ?_;assumption)|(refine rY ?_;assumption)|omega|(simp[Sq,rQ];done)))|(with_reducible refine Eq.trans (if_neg ?_) ?_;focus (first|assumption|(refine rZ ?_;assumption)|(refine rY ?_;assumption)|omega|(simp[Sq,rQ];done)))|omega)),M.below⟩
end Go.Proofs.YtdcofoaihmongaaGreat
